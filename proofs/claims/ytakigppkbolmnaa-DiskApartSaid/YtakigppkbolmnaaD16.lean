/- Disk: a call on the disk: the contract. -/
import Derived.Test.YtakigppkbolmnaaD14
namespace Go.Num
open Go.Abs Go.Proofs Go.Shelf Go.RowKit

noncomputable def gDo : Gam DF := (37, .op [true, false, false] moveQ) :: gDk
theorem gDo_ok : GamOK Try.prog DF gDo := gam_op move_ok gDk_ok

def oP (k : Int) (s t : ByteArray) (b : List Int) (n : Int) (ke : List Int) : A0 DF.τ := .agg [.int .i64 false k, .str s, .str t, .words .u8 b, .int .i64 false n, .words .i64 ke]
def xl : List Int → Nat → List Int
  | l, 0 => l
  | l, k + 1 => (xl l k).set k (bitsOf .xor .u8 ((xl l k).getD k 0) 255)
theorem xl_len (l : List Int) : ∀ k, (xl l k).length = l.length
  | 0 => rfl
  | k + 1 => by rw [xl, List.length_set, xl_len l k]
def xlSn (l : List Int) (k : Int) (len : Int) (ro st fu : Int) (dn : Bool) (es : List (Rec × Ob)) (e : Int) : Sn DF.τ where
  slots := [(6, .v (.one (.own 2))), (7, .v (.one (.int .i64 false e))), (22, .v (.one (.int .i64 false len))), (23, .v (.one (.int .i64 false k)))]
  boxes := enumB 0 (dkB ro st fu dn es ++ [dynB l])
  nt := 84
  np := 2
def xlEnd (ro st fu : Int) (dn : Bool) (es : List (Rec × Ob)) (e : Int) : Sn DF.τ where
  slots := [(7, .v (.one (.int .i64 false e)))]
  boxes := enumB 0 (dkB ro st fu dn es)
  nt := 84
  np := 2
theorem do_rd (l l' : List Int) (k k' len ro st fu e : Int) (dn : Bool) (es : List (Rec × Ob))
 (h1 : ((decide (k < len)) = Bool.true))
 (h2 : ((0 : Int) ≤ k))
 (h3 : (k < (((List.length l) : Nat) : Int)))
 (h4 : ((Int.toNat k) < (List.length l)))
 (h5 : (Go.Abs.InI64 (k + (1 : Int))))
 (h6 : ((k + (1 : Int)) = k'))
 (h7 : ((List.set l (Int.toNat k) (Go.Abs.bitsOf Go.BinOp.xor Go.IntKind.u8 (List.getD l (Int.toNat k) (0 : Int)) (255 : Int))) = l')) :
 ∃ ps, stepPs Try.prog DF gDo 100 (bodyN Try.f26 0) 100 (xlSn l k len ro st fu dn es e).st [.is true] .normal (xlSn l' k' len ro st fu dn es e) = some ps ∧ AllQ ps := ⟨_, by kernel_rfl, allQ_cons h1 (allQ_cons h2 (allQ_cons h3 (allQ_cons h4 (allQ_cons h2 (allQ_cons h3 (allQ_cons h4 (allQ_cons (show ((some (1 : Nat)) = (some (1 : Nat))) from rfl) (allQ_cons h5 (allQ_cons (show (e = e) from rfl) (allQ_cons (show (len = len) from rfl) (allQ_cons h6 (allQ_cons (show (ro = ro) from rfl) (allQ_cons (show (st = st) from rfl) (allQ_cons (show (fu = fu) from rfl) (allQ_cons (show (dn = dn) from rfl) (allQ_cons (show (es = es) from rfl) (allQ_cons h7 (allQ_nil))))))))))))))))))⟩

theorem do_ex (l : List Int) (k len ro st fu e : Int) (dn : Bool) (es : List (Rec × Ob))
 (h1 : ((decide (k < len)) = Bool.false)) :
 ∃ ps, stepPs Try.prog DF gDo 100 (bodyN Try.f26 0) 100 (xlSn l k len ro st fu dn es e).st [.is false] (.exit 1) (xlEnd ro st fu dn es e) = some ps ∧ AllQ ps := ⟨_, by kernel_rfl, allQ_cons h1 (allQ_cons (show (e = e) from rfl) (allQ_cons (show (ro = ro) from rfl) (allQ_cons (show (st = st) from rfl) (allQ_cons (show (fu = fu) from rfl) (allQ_cons (show (dn = dn) from rfl) (allQ_cons (show (es = es) from rfl) (allQ_nil)))))))⟩

def doIn (ro st fu : Int) (dn : Bool) (es : List (Rec × Ob)) (k : Int) (s t : ByteArray) (b : List Int) (n : Int) (ke : List Int) : List (BoxSt DF.τ) × List (A0 DF.τ) := (dkB ro st fu dn es, [.one (.ref 0 0), oP k s t b n ke])
theorem do_0 (ro st fu : Int) (dn : Bool) (es : List (Rec × Ob)) (k : Int) (s t : ByteArray) (b : List Int) (n : Int) (ke : List Int) (e st' fu' : Int) (dn' : Bool) (es' : List (Rec × Ob)) (l : List Int) (d' : DkT)
 (h1 : ((List.length b) ≤ (281474976710656 : Nat)))
 (h2 : ((k == (0 : Int)) = Bool.true))
 (h3 : (Go.Num.DkOK (ro, (st, (fu, (dn, es))))))
 (h4 : ((ByteArray.size s) ≤ (9223372036854775807 : Nat)))
 (h5 : ((List.length b) ≤ (4611686018427387904 : Nat)))
 (h6 : SumOK Try.prog DF (bodyN Try.f26 0) (loopL DF (xlSn b (0 : Nat) b.length d'.1 d'.2.1 d'.2.2.1 d'.2.2.2.1 d'.2.2.2.2 e) (.exit 1) (xlEnd d'.1 d'.2.1 d'.2.2.1 d'.2.2.2.1 d'.2.2.2.2 e)))
 (h7 : (((Go.Num.appendM (ro, (st, (fu, (dn, es)))) s b)).1 = e))
 (h8 : ((((Go.Num.appendM (ro, (st, (fu, (dn, es)))) s b)).2).1 = (d').1))
 (h9 : (((((Go.Num.appendM (ro, (st, (fu, (dn, es)))) s b)).2).2).1 = ((d').2).1))
 (h10 : ((((((Go.Num.appendM (ro, (st, (fu, (dn, es)))) s b)).2).2).2).1 = (((d').2).2).1))
 (h11 : (((((((Go.Num.appendM (ro, (st, (fu, (dn, es)))) s b)).2).2).2).2).1 = ((((d').2).2).2).1))
 (h12 : (((((((Go.Num.appendM (ro, (st, (fu, (dn, es)))) s b)).2).2).2).2).2 = ((((d').2).2).2).2))
 (h13 : (([] : List (Int)) = l)) :
 ∃ ps, runO Try.prog DF gDo 100 Try.f26 (doIn ro st fu dn es k s t b n ke) [.is true, .loop (loopL DF (xlSn b (0 : Nat) b.length d'.1 d'.2.1 d'.2.2.1 d'.2.2.2.1 d'.2.2.2.2 e) (.exit 1) (xlEnd d'.1 d'.2.1 d'.2.2.1 d'.2.2.2.1 d'.2.2.2.2 e))] (rdV e) (dkBt d' ++ [dynB l]) = some ps ∧ AllQ ps := ⟨_, by kernel_rfl, allQ_cons h1 (allQ_cons h2 (allQ_cons (show (s = s) from rfl) (allQ_cons (show (b = b) from rfl) (allQ_cons (show (ro = ro) from rfl) (allQ_cons (show (st = st) from rfl) (allQ_cons (show (fu = fu) from rfl) (allQ_cons (show (dn = dn) from rfl) (allQ_cons (show (es = es) from rfl) (allQ_cons h3 (allQ_cons h4 (allQ_cons h5 (allQ_cons h6 (allQ_cons h7 (allQ_cons (show ((((List.length b) : Nat) : Int) = (((List.length b) : Nat) : Int)) from rfl) (allQ_cons (show ((0 : Int) = (((0 : Nat) : Nat) : Int)) from by decide) (allQ_cons h8 (allQ_cons h9 (allQ_cons h10 (allQ_cons h11 (allQ_cons h12 (allQ_cons (show (b = b) from rfl) (allQ_cons (show (e = e) from rfl) (allQ_cons (show ((d').1 = (d').1) from rfl) (allQ_cons (show (((d').2).1 = ((d').2).1) from rfl) (allQ_cons (show ((((d').2).2).1 = (((d').2).2).1) from rfl) (allQ_cons (show (((((d').2).2).2).1 = ((((d').2).2).2).1) from rfl) (allQ_cons (show (((((d').2).2).2).2 = ((((d').2).2).2).2) from rfl) (allQ_cons h13 (allQ_nil)))))))))))))))))))))))))))))⟩

theorem do_1 (ro st fu : Int) (dn : Bool) (es : List (Rec × Ob)) (k : Int) (s t : ByteArray) (b : List Int) (n : Int) (ke : List Int) (e : Int) (l : List Int) (d' : DkT)
 (h1 : ((List.length b) ≤ (281474976710656 : Nat)))
 (h2 : ((k == (0 : Int)) = Bool.false))
 (h3 : ((k == (1 : Int)) = Bool.true))
 (h4 : (Go.Num.DkOK (ro, (st, (fu, (dn, es))))))
 (h5 : ((ByteArray.size s) ≤ (9223372036854775807 : Nat)))
 (h6 : (((Go.Num.syncM (ro, (st, (fu, (dn, es)))) s)).1 = e))
 (h7 : ((((Go.Num.syncM (ro, (st, (fu, (dn, es)))) s)).2).1 = (d').1))
 (h8 : (((((Go.Num.syncM (ro, (st, (fu, (dn, es)))) s)).2).2).1 = ((d').2).1))
 (h9 : ((((((Go.Num.syncM (ro, (st, (fu, (dn, es)))) s)).2).2).2).1 = (((d').2).2).1))
 (h10 : (((((((Go.Num.syncM (ro, (st, (fu, (dn, es)))) s)).2).2).2).2).1 = ((((d').2).2).2).1))
 (h11 : (((((((Go.Num.syncM (ro, (st, (fu, (dn, es)))) s)).2).2).2).2).2 = ((((d').2).2).2).2))
 (h12 : (([] : List (Int)) = l)) :
 ∃ ps, runO Try.prog DF gDo 100 Try.f26 (doIn ro st fu dn es k s t b n ke) [.is false, .is true] (rdV e) (dkBt d' ++ [dynB l]) = some ps ∧ AllQ ps := ⟨_, by kernel_rfl, allQ_cons h1 (allQ_cons h2 (allQ_cons h3 (allQ_cons (show (s = s) from rfl) (allQ_cons (show (ro = ro) from rfl) (allQ_cons (show (st = st) from rfl) (allQ_cons (show (fu = fu) from rfl) (allQ_cons (show (dn = dn) from rfl) (allQ_cons (show (es = es) from rfl) (allQ_cons h4 (allQ_cons h5 (allQ_cons h6 (allQ_cons h7 (allQ_cons h8 (allQ_cons h9 (allQ_cons h10 (allQ_cons h11 (allQ_cons h12 (allQ_nil))))))))))))))))))⟩

theorem do_2 (ro st fu : Int) (dn : Bool) (es : List (Rec × Ob)) (k : Int) (s t : ByteArray) (b : List Int) (n : Int) (ke : List Int) (e : Int) (l : List Int) (d' : DkT)
 (h1 : ((List.length b) ≤ (281474976710656 : Nat)))
 (h2 : ((k == (0 : Int)) = Bool.false))
 (h3 : ((k == (1 : Int)) = Bool.false))
 (h4 : ((k == (2 : Int)) = Bool.true))
 (h5 : (Go.Num.DkOK (ro, (st, (fu, (dn, es))))))
 (h6 : ((ByteArray.size s) ≤ (9223372036854775807 : Nat)))
 (h7 : (((Go.Num.cutM (ro, (st, (fu, (dn, es)))) s n)).1 = e))
 (h8 : ((((Go.Num.cutM (ro, (st, (fu, (dn, es)))) s n)).2).1 = (d').1))
 (h9 : (((((Go.Num.cutM (ro, (st, (fu, (dn, es)))) s n)).2).2).1 = ((d').2).1))
 (h10 : ((((((Go.Num.cutM (ro, (st, (fu, (dn, es)))) s n)).2).2).2).1 = (((d').2).2).1))
 (h11 : (((((((Go.Num.cutM (ro, (st, (fu, (dn, es)))) s n)).2).2).2).2).1 = ((((d').2).2).2).1))
 (h12 : (((((((Go.Num.cutM (ro, (st, (fu, (dn, es)))) s n)).2).2).2).2).2 = ((((d').2).2).2).2))
 (h13 : (([] : List (Int)) = l)) :
 ∃ ps, runO Try.prog DF gDo 100 Try.f26 (doIn ro st fu dn es k s t b n ke) [.is false, .is false, .is true] (rdV e) (dkBt d' ++ [dynB l]) = some ps ∧ AllQ ps := ⟨_, by kernel_rfl, allQ_cons h1 (allQ_cons h2 (allQ_cons h3 (allQ_cons h4 (allQ_cons (show (s = s) from rfl) (allQ_cons (show (n = n) from rfl) (allQ_cons (show (ro = ro) from rfl) (allQ_cons (show (st = st) from rfl) (allQ_cons (show (fu = fu) from rfl) (allQ_cons (show (dn = dn) from rfl) (allQ_cons (show (es = es) from rfl) (allQ_cons h5 (allQ_cons h6 (allQ_cons h7 (allQ_cons h8 (allQ_cons h9 (allQ_cons h10 (allQ_cons h11 (allQ_cons h12 (allQ_cons h13 (allQ_nil))))))))))))))))))))⟩

theorem do_3 (ro st fu : Int) (dn : Bool) (es : List (Rec × Ob)) (k : Int) (s t : ByteArray) (b : List Int) (n : Int) (ke : List Int) (e : Int) (l : List Int) (d' : DkT)
 (h1 : ((List.length b) ≤ (281474976710656 : Nat)))
 (h2 : ((k == (0 : Int)) = Bool.false))
 (h3 : ((k == (1 : Int)) = Bool.false))
 (h4 : ((k == (2 : Int)) = Bool.false))
 (h5 : ((k == (3 : Int)) = Bool.true))
 (h6 : (Go.Num.DkOK (ro, (st, (fu, (dn, es))))))
 (h7 : ((ByteArray.size s) ≤ (9223372036854775807 : Nat)))
 (h8 : ((ByteArray.size t) ≤ (9223372036854775807 : Nat)))
 (h9 : (((Go.Num.moveM (ro, (st, (fu, (dn, es)))) s t)).1 = e))
 (h10 : ((((Go.Num.moveM (ro, (st, (fu, (dn, es)))) s t)).2).1 = (d').1))
 (h11 : (((((Go.Num.moveM (ro, (st, (fu, (dn, es)))) s t)).2).2).1 = ((d').2).1))
 (h12 : ((((((Go.Num.moveM (ro, (st, (fu, (dn, es)))) s t)).2).2).2).1 = (((d').2).2).1))
 (h13 : (((((((Go.Num.moveM (ro, (st, (fu, (dn, es)))) s t)).2).2).2).2).1 = ((((d').2).2).2).1))
 (h14 : (((((((Go.Num.moveM (ro, (st, (fu, (dn, es)))) s t)).2).2).2).2).2 = ((((d').2).2).2).2))
 (h15 : (([] : List (Int)) = l)) :
 ∃ ps, runO Try.prog DF gDo 100 Try.f26 (doIn ro st fu dn es k s t b n ke) [.is false, .is false, .is false, .is true] (rdV e) (dkBt d' ++ [dynB l]) = some ps ∧ AllQ ps := ⟨_, by kernel_rfl, allQ_cons h1 (allQ_cons h2 (allQ_cons h3 (allQ_cons h4 (allQ_cons h5 (allQ_cons (show (s = s) from rfl) (allQ_cons (show (t = t) from rfl) (allQ_cons (show (ro = ro) from rfl) (allQ_cons (show (st = st) from rfl) (allQ_cons (show (fu = fu) from rfl) (allQ_cons (show (dn = dn) from rfl) (allQ_cons (show (es = es) from rfl) (allQ_cons h6 (allQ_cons h7 (allQ_cons h8 (allQ_cons h9 (allQ_cons h10 (allQ_cons h11 (allQ_cons h12 (allQ_cons h13 (allQ_cons h14 (allQ_cons h15 (allQ_nil))))))))))))))))))))))⟩

theorem do_4 (ro st fu : Int) (dn : Bool) (es : List (Rec × Ob)) (k : Int) (s t : ByteArray) (b : List Int) (n : Int) (ke : List Int) (e : Int) (l : List Int) (d' : DkT)
 (h1 : ((List.length b) ≤ (281474976710656 : Nat)))
 (h2 : ((k == (0 : Int)) = Bool.false))
 (h3 : ((k == (1 : Int)) = Bool.false))
 (h4 : ((k == (2 : Int)) = Bool.false))
 (h5 : ((k == (3 : Int)) = Bool.false))
 (h6 : ((k == (4 : Int)) = Bool.true))
 (h7 : (Go.Num.DkOK (ro, (st, (fu, (dn, es))))))
 (h8 : ((ByteArray.size s) ≤ (9223372036854775807 : Nat)))
 (h9 : (((Go.Num.dropM (ro, (st, (fu, (dn, es)))) s)).1 = e))
 (h10 : ((((Go.Num.dropM (ro, (st, (fu, (dn, es)))) s)).2).1 = (d').1))
 (h11 : (((((Go.Num.dropM (ro, (st, (fu, (dn, es)))) s)).2).2).1 = ((d').2).1))
 (h12 : ((((((Go.Num.dropM (ro, (st, (fu, (dn, es)))) s)).2).2).2).1 = (((d').2).2).1))
 (h13 : (((((((Go.Num.dropM (ro, (st, (fu, (dn, es)))) s)).2).2).2).2).1 = ((((d').2).2).2).1))
 (h14 : (((((((Go.Num.dropM (ro, (st, (fu, (dn, es)))) s)).2).2).2).2).2 = ((((d').2).2).2).2))
 (h15 : (([] : List (Int)) = l)) :
 ∃ ps, runO Try.prog DF gDo 100 Try.f26 (doIn ro st fu dn es k s t b n ke) [.is false, .is false, .is false, .is false, .is true] (rdV e) (dkBt d' ++ [dynB l]) = some ps ∧ AllQ ps := ⟨_, by kernel_rfl, allQ_cons h1 (allQ_cons h2 (allQ_cons h3 (allQ_cons h4 (allQ_cons h5 (allQ_cons h6 (allQ_cons (show (s = s) from rfl) (allQ_cons (show (ro = ro) from rfl) (allQ_cons (show (st = st) from rfl) (allQ_cons (show (fu = fu) from rfl) (allQ_cons (show (dn = dn) from rfl) (allQ_cons (show (es = es) from rfl) (allQ_cons h7 (allQ_cons h8 (allQ_cons h9 (allQ_cons h10 (allQ_cons h11 (allQ_cons h12 (allQ_cons h13 (allQ_cons h14 (allQ_cons h15 (allQ_nil)))))))))))))))))))))⟩

theorem do_5 (ro st fu : Int) (dn : Bool) (es : List (Rec × Ob)) (k : Int) (s t : ByteArray) (b : List Int) (n : Int) (ke : List Int) (e : Int) (l : List Int) (d' : DkT)
 (h1 : ((List.length b) ≤ (281474976710656 : Nat)))
 (h2 : ((k == (0 : Int)) = Bool.false))
 (h3 : ((k == (1 : Int)) = Bool.false))
 (h4 : ((k == (2 : Int)) = Bool.false))
 (h5 : ((k == (3 : Int)) = Bool.false))
 (h6 : ((k == (4 : Int)) = Bool.false))
 (h7 : ((k == (5 : Int)) = Bool.true))
 (h8 : (Go.Num.Okd (ro, (st, (fu, (dn, es))))))
 (h9 : ((ByteArray.size s) ≤ (9223372036854775807 : Nat)))
 (h10 : (((Go.Num.readM (ro, (st, (fu, (dn, es)))) s)).1 = e))
 (h11 : (ro = (d').1))
 (h12 : (st = ((d').2).1))
 (h13 : (fu = (((d').2).2).1))
 (h14 : (dn = ((((d').2).2).2).1))
 (h15 : (es = ((((d').2).2).2).2))
 (h16 : (((Go.Num.readM (ro, (st, (fu, (dn, es)))) s)).2 = l)) :
 ∃ ps, runO Try.prog DF gDo 100 Try.f26 (doIn ro st fu dn es k s t b n ke) [.is false, .is false, .is false, .is false, .is false, .is true] (rdV e) (dkBt d' ++ [dynB l]) = some ps ∧ AllQ ps := ⟨_, by kernel_rfl, allQ_cons h1 (allQ_cons h2 (allQ_cons h3 (allQ_cons h4 (allQ_cons h5 (allQ_cons h6 (allQ_cons h7 (allQ_cons (show (s = s) from rfl) (allQ_cons (show (ro = ro) from rfl) (allQ_cons (show (st = st) from rfl) (allQ_cons (show (fu = fu) from rfl) (allQ_cons (show (dn = dn) from rfl) (allQ_cons (show (es = es) from rfl) (allQ_cons h8 (allQ_cons h9 (allQ_cons h10 (allQ_cons h11 (allQ_cons h12 (allQ_cons h13 (allQ_cons h14 (allQ_cons h15 (allQ_cons h16 (allQ_nil))))))))))))))))))))))⟩

theorem do_6 (ro st fu : Int) (dn : Bool) (es : List (Rec × Ob)) (k : Int) (s t : ByteArray) (b : List Int) (n : Int) (ke : List Int) (e : Int) (l : List Int) (d' : DkT)
 (h1 : ((List.length b) ≤ (281474976710656 : Nat)))
 (h2 : ((k == (0 : Int)) = Bool.false))
 (h3 : ((k == (1 : Int)) = Bool.false))
 (h4 : ((k == (2 : Int)) = Bool.false))
 (h5 : ((k == (3 : Int)) = Bool.false))
 (h6 : ((k == (4 : Int)) = Bool.false))
 (h7 : ((k == (5 : Int)) = Bool.false))
 (h8 : ((k == (6 : Int)) = Bool.true))
 (h9 : ((0 : Int) = e))
 (h10 : (((Go.Num.fuseM (ro, (st, (fu, (dn, es)))) n)).1 = (d').1))
 (h11 : ((((Go.Num.fuseM (ro, (st, (fu, (dn, es)))) n)).2).1 = ((d').2).1))
 (h12 : (((((Go.Num.fuseM (ro, (st, (fu, (dn, es)))) n)).2).2).1 = (((d').2).2).1))
 (h13 : ((((((Go.Num.fuseM (ro, (st, (fu, (dn, es)))) n)).2).2).2).1 = ((((d').2).2).2).1))
 (h14 : ((((((Go.Num.fuseM (ro, (st, (fu, (dn, es)))) n)).2).2).2).2 = ((((d').2).2).2).2))
 (h15 : (([] : List (Int)) = l)) :
 ∃ ps, runO Try.prog DF gDo 100 Try.f26 (doIn ro st fu dn es k s t b n ke) [.is false, .is false, .is false, .is false, .is false, .is false, .is true] (rdV e) (dkBt d' ++ [dynB l]) = some ps ∧ AllQ ps := ⟨_, by kernel_rfl, allQ_cons h1 (allQ_cons h2 (allQ_cons h3 (allQ_cons h4 (allQ_cons h5 (allQ_cons h6 (allQ_cons h7 (allQ_cons h8 (allQ_cons (show (n = n) from rfl) (allQ_cons (show (ro = ro) from rfl) (allQ_cons (show (st = st) from rfl) (allQ_cons (show (fu = fu) from rfl) (allQ_cons (show (dn = dn) from rfl) (allQ_cons (show (es = es) from rfl) (allQ_cons h9 (allQ_cons h10 (allQ_cons h11 (allQ_cons h12 (allQ_cons h13 (allQ_cons h14 (allQ_cons h15 (allQ_nil)))))))))))))))))))))⟩

theorem do_7 (ro st fu : Int) (dn : Bool) (es : List (Rec × Ob)) (k : Int) (s t : ByteArray) (b : List Int) (n : Int) (ke : List Int) (e : Int) (l : List Int) (d' : DkT)
 (h1 : ((List.length b) ≤ (281474976710656 : Nat)))
 (h2 : ((k == (0 : Int)) = Bool.false))
 (h3 : ((k == (1 : Int)) = Bool.false))
 (h4 : ((k == (2 : Int)) = Bool.false))
 (h5 : ((k == (3 : Int)) = Bool.false))
 (h6 : ((k == (4 : Int)) = Bool.false))
 (h7 : ((k == (5 : Int)) = Bool.false))
 (h8 : ((k == (6 : Int)) = Bool.false))
 (h9 : ((k == (7 : Int)) = Bool.true))
 (h10 : (((0 : Nat) + (List.length ke)) ≤ (9223372036854775807 : Nat)))
 (h11 : ((((0 : Nat) + (List.length ke)) * (8 : Nat)) ≤ (140737488355328 : Nat)))
 (h12 : (Go.Num.Okd (ro, (st, (fu, (dn, es))))))
 (h13 : ((0 : Int) = e))
 (h14 : (((Go.Num.crashM (ro, (st, (fu, (dn, es)))) (([] : List (Int)) ++ ke))).1 = (d').1))
 (h15 : ((((Go.Num.crashM (ro, (st, (fu, (dn, es)))) (([] : List (Int)) ++ ke))).2).1 = ((d').2).1))
 (h16 : (((((Go.Num.crashM (ro, (st, (fu, (dn, es)))) (([] : List (Int)) ++ ke))).2).2).1 = (((d').2).2).1))
 (h17 : ((((((Go.Num.crashM (ro, (st, (fu, (dn, es)))) (([] : List (Int)) ++ ke))).2).2).2).1 = ((((d').2).2).2).1))
 (h18 : ((((((Go.Num.crashM (ro, (st, (fu, (dn, es)))) (([] : List (Int)) ++ ke))).2).2).2).2 = ((((d').2).2).2).2))
 (h19 : (([] : List (Int)) = l)) :
 ∃ ps, runO Try.prog DF gDo 100 Try.f26 (doIn ro st fu dn es k s t b n ke) [.is false, .is false, .is false, .is false, .is false, .is false, .is false, .is true] (rdV e) (dkBt d' ++ [dynB l]) = some ps ∧ AllQ ps := ⟨_, by kernel_rfl, allQ_cons h1 (allQ_cons h2 (allQ_cons h3 (allQ_cons h4 (allQ_cons h5 (allQ_cons h6 (allQ_cons h7 (allQ_cons h8 (allQ_cons h9 (allQ_cons h10 (allQ_cons h11 (allQ_cons (show ((([] : List (Int)) ++ ke) = (([] : List (Int)) ++ ke)) from rfl) (allQ_cons (show (ro = ro) from rfl) (allQ_cons (show (st = st) from rfl) (allQ_cons (show (fu = fu) from rfl) (allQ_cons (show (dn = dn) from rfl) (allQ_cons (show (es = es) from rfl) (allQ_cons h12 (allQ_cons h13 (allQ_cons h14 (allQ_cons h15 (allQ_cons h16 (allQ_cons h17 (allQ_cons h18 (allQ_cons h19 (allQ_nil)))))))))))))))))))))))))⟩

theorem do_8 (ro st fu : Int) (dn : Bool) (es : List (Rec × Ob)) (k : Int) (s t : ByteArray) (b : List Int) (n : Int) (ke : List Int) (e : Int) (l : List Int) (d' : DkT)
 (h1 : ((List.length b) ≤ (281474976710656 : Nat)))
 (h2 : ((k == (0 : Int)) = Bool.false))
 (h3 : ((k == (1 : Int)) = Bool.false))
 (h4 : ((k == (2 : Int)) = Bool.false))
 (h5 : ((k == (3 : Int)) = Bool.false))
 (h6 : ((k == (4 : Int)) = Bool.false))
 (h7 : ((k == (5 : Int)) = Bool.false))
 (h8 : ((k == (6 : Int)) = Bool.false))
 (h9 : ((k == (7 : Int)) = Bool.false))
 (h10 : ((0 : Int) = e))
 (h11 : (ro = (d').1))
 (h12 : (st = ((d').2).1))
 (h13 : (fu = (((d').2).2).1))
 (h14 : (dn = ((((d').2).2).2).1))
 (h15 : (es = ((((d').2).2).2).2))
 (h16 : (([] : List (Int)) = l)) :
 ∃ ps, runO Try.prog DF gDo 100 Try.f26 (doIn ro st fu dn es k s t b n ke) [.is false, .is false, .is false, .is false, .is false, .is false, .is false, .is false] (rdV e) (dkBt d' ++ [dynB l]) = some ps ∧ AllQ ps := ⟨_, by kernel_rfl, allQ_cons h1 (allQ_cons h2 (allQ_cons h3 (allQ_cons h4 (allQ_cons h5 (allQ_cons h6 (allQ_cons h7 (allQ_cons h8 (allQ_cons h9 (allQ_cons h10 (allQ_cons h11 (allQ_cons h12 (allQ_cons h13 (allQ_cons h14 (allQ_cons h15 (allQ_cons h16 (allQ_nil))))))))))))))))⟩

structure OpT where
  k : Int
  s : ByteArray
  t : ByteArray
  b : List Int
  n : Int
  ke : List Int
/-- What a call answers (the error, the bytes), and the disk behind it. -/
def doM (d : DkT) (o : OpT) : Int × List Int × DkT :=
  if o.k = 0 then ((appendM d o.s o.b).1, [], (appendM d o.s o.b).2)
  else if o.k = 1 then ((syncM d o.s).1, [], (syncM d o.s).2)
  else if o.k = 2 then ((cutM d o.s o.n).1, [], (cutM d o.s o.n).2)
  else if o.k = 3 then ((moveM d o.s o.t).1, [], (moveM d o.s o.t).2)
  else if o.k = 4 then ((dropM d o.s).1, [], (dropM d o.s).2)
  else if o.k = 5 then ((readM d o.s).1, (readM d o.s).2, d)
  else if o.k = 6 then (0, [], fuseM d o.n)
  else if o.k = 7 then (0, [], crashM d o.ke)
  else (0, [], d)
structure OpOk (o : OpT) : Prop where
  s : o.s.size ≤ 9223372036854775807
  t : o.t.size ≤ 9223372036854775807
  b : o.b.length ≤ 140737488355328
  n : o.n ≤ 9223372036854775807
  ke : o.ke.length * 8 ≤ 140737488355328

theorem do_nxt {d : DkT} (h : Okd d) {o : OpT} (ho : OpOk o) : Nxt d (doM d o).2.2 := by
  unfold doM
  split
  · exact append_nxt h _ _
  split
  · exact sync_nxt h _
  split
  · exact cut_nxt h _ _
  split
  · exact move_nxt h _ _
  split
  · exact drop_nxt h _
  split
  · exact nxt_same h
  split
  · exact fuse_nxt h ho.n
  split
  · exact crash_nxt h _
  · exact nxt_same h

theorem do_loop (b : List Int) (hb : b.length ≤ 140737488355328) (ro st fu e : Int) (dn : Bool) (es : List (Rec × Ob)) :
    SumOK Try.prog DF (bodyN Try.f26 0) (loopL DF (xlSn b (0 : Nat) b.length ro st fu dn es e) (.exit 1) (xlEnd ro st fu dn es e)) := by
  refine sum_loop gDo_ok mixed (c := bodyN Try.f26 0) (fun k => xlSn (xl b k) k b.length ro st fu dn es e) b.length (e := .exit 1) (s := xlEnd ro st fu dn es e) rfl (fun k hk => ?_) ⟨_, _, _, do_ex _ _ _ ro st fu e dn es (decide_eq_false (by omega))⟩
  have hl := xl_len b k
  exact ⟨_, _, _, do_rd (xl b k) _ k _ _ ro st fu e dn es (decide_eq_true (by omega)) (by omega) (by omega) (by rw [Int.toNat_natCast]; omega) ⟨by omega, by omega⟩ rfl (by rw [Int.toNat_natCast]; rfl)⟩

def dqRd (bs : List (BoxSt DF.τ)) : List (A0 DF.τ) → Option (DkT × OpT)
  | [.one (.ref 0 0), .agg ps] => match dkRd bs, ps with
    | some d, [.int .i64 _ k, .str s, .str t, .words .u8 b, .int .i64 _ n, .words .i64 ke] => some (d, ⟨k, s, t, b, n, ke⟩)
    | _, _ => none
  | _ => none
noncomputable def doQ := mkF DF Try.f26.ntmps dqRd (fun t => (dkBt t.1, [.one (.ref 0 0), oP t.2.k t.2.s t.2.t t.2.b t.2.n t.2.ke])) (fun t => some (rdV (doM t.1 t.2).1, dkBt (doM t.1 t.2).2.2 ++ [dynB (doM t.1 t.2).2.1], [DkOK t.1, OpOk t.2]))
theorem do_ok : OpOK Try.prog DF 26 doQ := by
  refine opOK_mk gDo_ok mixed Try.func26 (enters_of Try.func26 (by kernel_rfl) rfl) ?_
  rintro ⟨⟨ro, st, fu, dn, es⟩, k, s, t, b, n, ke⟩ r' bs' ps h hps
  simp only [Option.some.injEq, Prod.mk.injEq] at h
  obtain ⟨rfl, rfl, rfl⟩ := h
  have hd : DkOK (ro, st, fu, dn, es) := hps (DkOK _) (by simp)
  obtain ⟨hs, ht, hb, hn, hk⟩ : OpOk ⟨k, s, t, b, n, ke⟩ := hps (OpOk _) (by simp)
  simp only at hs ht hb hn hk
  have hb' : b.length ≤ 281474976710656 := by omega
  by_cases c0 : k = 0
  · have hm : doM (ro, st, fu, dn, es) ⟨k, s, t, b, n, ke⟩ = ((appendM (ro, st, fu, dn, es) s b).1, [], (appendM (ro, st, fu, dn, es) s b).2) := by unfold doM; exact if_pos c0
    rw [hm]
    exact ⟨_, _, do_0 ro st fu dn es k s t b n ke _ 0 0 false [] _ _ hb' (beq_iff_eq.2 c0) hd hs (by omega) (do_loop b hb _ _ _ _ _ _) rfl rfl rfl rfl rfl rfl rfl⟩
  have d0 : (k == 0) = false := beq_eq_false_iff_ne.2 c0
  by_cases c1 : k = 1
  · have hm : doM (ro, st, fu, dn, es) ⟨k, s, t, b, n, ke⟩ = ((syncM (ro, st, fu, dn, es) s).1, [], (syncM (ro, st, fu, dn, es) s).2) := by unfold doM; exact (if_neg c0).trans (if_pos c1)
    rw [hm]
    exact ⟨_, _, do_1 ro st fu dn es k s t b n ke _ _ _ hb' d0 (beq_iff_eq.2 c1) hd hs rfl rfl rfl rfl rfl rfl rfl⟩
  have d1 : (k == 1) = false := beq_eq_false_iff_ne.2 c1
  by_cases c2 : k = 2
  · have hm : doM (ro, st, fu, dn, es) ⟨k, s, t, b, n, ke⟩ = ((cutM (ro, st, fu, dn, es) s n).1, [], (cutM (ro, st, fu, dn, es) s n).2) := by unfold doM; exact (if_neg c0).trans ((if_neg c1).trans (if_pos c2))
    rw [hm]
    exact ⟨_, _, do_2 ro st fu dn es k s t b n ke _ _ _ hb' d0 d1 (beq_iff_eq.2 c2) hd hs rfl rfl rfl rfl rfl rfl rfl⟩
  have d2 : (k == 2) = false := beq_eq_false_iff_ne.2 c2
  by_cases c3 : k = 3
  · have hm : doM (ro, st, fu, dn, es) ⟨k, s, t, b, n, ke⟩ = ((moveM (ro, st, fu, dn, es) s t).1, [], (moveM (ro, st, fu, dn, es) s t).2) := by unfold doM; exact (if_neg c0).trans ((if_neg c1).trans ((if_neg c2).trans (if_pos c3)))
    rw [hm]
    exact ⟨_, _, do_3 ro st fu dn es k s t b n ke _ _ _ hb' d0 d1 d2 (beq_iff_eq.2 c3) hd hs ht rfl rfl rfl rfl rfl rfl rfl⟩
  have d3 : (k == 3) = false := beq_eq_false_iff_ne.2 c3
  by_cases c4 : k = 4
  · have hm : doM (ro, st, fu, dn, es) ⟨k, s, t, b, n, ke⟩ = ((dropM (ro, st, fu, dn, es) s).1, [], (dropM (ro, st, fu, dn, es) s).2) := by unfold doM; exact (if_neg c0).trans ((if_neg c1).trans ((if_neg c2).trans ((if_neg c3).trans (if_pos c4))))
    rw [hm]
    exact ⟨_, _, do_4 ro st fu dn es k s t b n ke _ _ _ hb' d0 d1 d2 d3 (beq_iff_eq.2 c4) hd hs rfl rfl rfl rfl rfl rfl rfl⟩
  have d4 : (k == 4) = false := beq_eq_false_iff_ne.2 c4
  by_cases c5 : k = 5
  · have hm : doM (ro, st, fu, dn, es) ⟨k, s, t, b, n, ke⟩ = ((readM (ro, st, fu, dn, es) s).1, (readM (ro, st, fu, dn, es) s).2, (ro, st, fu, dn, es)) := by unfold doM; exact (if_neg c0).trans ((if_neg c1).trans ((if_neg c2).trans ((if_neg c3).trans ((if_neg c4).trans (if_pos c5)))))
    rw [hm]
    exact ⟨_, _, do_5 ro st fu dn es k s t b n ke _ _ (ro, st, fu, dn, es) hb' d0 d1 d2 d3 d4 (beq_iff_eq.2 c5) hd.1 hs rfl rfl rfl rfl rfl rfl rfl⟩
  have d5 : (k == 5) = false := beq_eq_false_iff_ne.2 c5
  by_cases c6 : k = 6
  · have hm : doM (ro, st, fu, dn, es) ⟨k, s, t, b, n, ke⟩ = (0, [], fuseM (ro, st, fu, dn, es) n) := by unfold doM; exact (if_neg c0).trans ((if_neg c1).trans ((if_neg c2).trans ((if_neg c3).trans ((if_neg c4).trans ((if_neg c5).trans (if_pos c6))))))
    rw [hm]
    exact ⟨_, _, do_6 ro st fu dn es k s t b n ke _ _ _ hb' d0 d1 d2 d3 d4 d5 (beq_iff_eq.2 c6) rfl rfl rfl rfl rfl rfl rfl⟩
  have d6 : (k == 6) = false := beq_eq_false_iff_ne.2 c6
  by_cases c7 : k = 7
  · have hm : doM (ro, st, fu, dn, es) ⟨k, s, t, b, n, ke⟩ = (0, [], crashM (ro, st, fu, dn, es) ke) := by unfold doM; exact (if_neg c0).trans ((if_neg c1).trans ((if_neg c2).trans ((if_neg c3).trans ((if_neg c4).trans ((if_neg c5).trans ((if_neg c6).trans (if_pos c7)))))))
    rw [hm]
    exact ⟨_, _, do_7 ro st fu dn es k s t b n ke _ _ _ hb' d0 d1 d2 d3 d4 d5 d6 (beq_iff_eq.2 c7) (by omega) (by omega) hd.1 rfl rfl rfl rfl rfl rfl rfl⟩
  have d7 : (k == 7) = false := beq_eq_false_iff_ne.2 c7
  have hm : doM (ro, st, fu, dn, es) ⟨k, s, t, b, n, ke⟩ = (0, [], (ro, st, fu, dn, es)) := by unfold doM; exact (if_neg c0).trans ((if_neg c1).trans ((if_neg c2).trans ((if_neg c3).trans ((if_neg c4).trans ((if_neg c5).trans ((if_neg c6).trans (if_neg c7)))))))
  rw [hm]
  exact ⟨_, _, do_8 ro st fu dn es k s t b n ke _ _ (ro, st, fu, dn, es) hb' d0 d1 d2 d3 d4 d5 d6 d7 rfl rfl rfl rfl rfl rfl rfl⟩

end Go.Num
