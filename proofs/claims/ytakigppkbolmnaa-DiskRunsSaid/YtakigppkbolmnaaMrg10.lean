/- Several texts put together: D16 R1 DR1 DR2 DR3 DR4 D17. -/
import Derived.Test.YtakigppkbolmnaaMrg9
namespace Go.Num
open Go.Abs Go.Proofs Go.Shelf Go.RowKit
noncomputable def gDo : Gam DF := (37, .op [true, false, false] moveQ) :: gDk
theorem gDo_ok : GamOK Try.prog DF gDo := gam_op move_ok gDk_ok
def oP (k : Int) (s t : ByteArray) (b : List Int) (n : Int) (ke : List Int) : A0 DF.τ := .agg [.int .i64 false k, .str s, .str t, .words .u8 b, .int .i64 false n, .words .i64 ke]
def xl : List Int → Nat → List Int
  | l, 0 => l
  | l, k + 1 => (xl l k).set k (bitsOf .xor .u8 ((xl l k).getD k 0) 255)
theorem xl_len (l : List Int) : ∀ k, (xl l k).length = l.length
  | 0 => rfl
  | k + 1 => by rw [xl, List.length_set, xl_len l k]
def xlSn (l : List Int) (k : Int) (len : Int) (ro st fu : Int) (dn : Bool) (es : List (Rec × Ob)) (e : Int) : Sn DF.τ where
  slots := [(6, .v (.one (.own 2))), (7, .v (.one (.int .i64 false e))), (22, .v (.one (.int .i64 false len))), (23, .v (.one (.int .i64 false k)))]
  boxes := enumB 0 (dkB ro st fu dn es ++ [dynB l])
  nt := 84
  np := 2
def xlEnd (ro st fu : Int) (dn : Bool) (es : List (Rec × Ob)) (e : Int) : Sn DF.τ where
  slots := [(7, .v (.one (.int .i64 false e)))]
  boxes := enumB 0 (dkB ro st fu dn es)
  nt := 84
  np := 2
theorem do_rd (l l' : List Int) (k k' len ro st fu e : Int) (dn : Bool) (es : List (Rec × Ob))
 (h1 : ((decide (k < len)) = true))
 (h2 : ((0 : Int) ≤ k))
 (h3 : (k < (((List.length l) : Nat) : Int)))
 (h4 : ((Int.toNat k) < (List.length l)))
 (h5 : (InI64 (k + (1 : Int))))
 (h6 : ((k + (1 : Int)) = k'))
 (h7 : ((List.set l (Int.toNat k) (bitsOf Go.BinOp.xor Go.IntKind.u8 (List.getD l (Int.toNat k) (0 : Int)) (255 : Int))) = l')) :
 ∃ ps, stepPs Try.prog DF gDo 100 (bodyN Try.f26 0) 100 (xlSn l k len ro st fu dn es e).st [.is true] .normal (xlSn l' k' len ro st fu dn es e) = some ps ∧ AllQ ps := ⟨_, by kernel_rfl, qc h1 (qc h2 (qc h3 (qc h4 (qc h2 (qc h3 (qc h4 (qc (Eq.refl ((some (1 : Nat)))) (qc h5 (qc (Eq.refl e) (qc (Eq.refl len) (qc h6 (qc (Eq.refl ro) (qc (Eq.refl st) (qc (Eq.refl fu) (qc (Eq.refl dn) (qc (Eq.refl es) (qc h7 (qn))))))))))))))))))⟩
theorem do_ex (l : List Int) (k len ro st fu e : Int) (dn : Bool) (es : List (Rec × Ob))
 (h1 : ((decide (k < len)) = false)) :
 ∃ ps, stepPs Try.prog DF gDo 100 (bodyN Try.f26 0) 100 (xlSn l k len ro st fu dn es e).st [.is false] (.exit 1) (xlEnd ro st fu dn es e) = some ps ∧ AllQ ps := ⟨_, by kernel_rfl, qc h1 (qc (Eq.refl e) (qc (Eq.refl ro) (qc (Eq.refl st) (qc (Eq.refl fu) (qc (Eq.refl dn) (qc (Eq.refl es) (qn)))))))⟩
def doIn (ro st fu : Int) (dn : Bool) (es : List (Rec × Ob)) (k : Int) (s t : ByteArray) (b : List Int) (n : Int) (ke : List Int) : List (BoxSt DF.τ) × List (A0 DF.τ) := (dkB ro st fu dn es, [.one (.ref 0 0), oP k s t b n ke])
theorem do_0 (ro st fu : Int) (dn : Bool) (es : List (Rec × Ob)) (k : Int) (s t : ByteArray) (b : List Int) (n : Int) (ke : List Int) (e st' fu' : Int) (dn' : Bool) (es' : List (Rec × Ob)) (l : List Int) (d' : DkT)
 (h1 : ((List.length b) ≤ (281474976710656 : Nat)))
 (h2 : ((k == (0 : Int)) = true))
 (h3 : (DkOK (ro, (st, (fu, (dn, es))))))
 (h4 : ((ByteArray.size s) ≤ (9223372036854775807 : Nat)))
 (h5 : ((List.length b) ≤ (4611686018427387904 : Nat)))
 (h6 : SumOK Try.prog DF (bodyN Try.f26 0) (loopL DF (xlSn b (0 : Nat) b.length d'.1 d'.2.1 d'.2.2.1 d'.2.2.2.1 d'.2.2.2.2 e) (.exit 1) (xlEnd d'.1 d'.2.1 d'.2.2.1 d'.2.2.2.1 d'.2.2.2.2 e)))
 (h7 : (((appendM (ro, (st, (fu, (dn, es)))) s b)).1 = e))
 (h8 : ((((appendM (ro, (st, (fu, (dn, es)))) s b)).2).1 = (d').1))
 (h9 : (((((appendM (ro, (st, (fu, (dn, es)))) s b)).2).2).1 = ((d').2).1))
 (h10 : ((((((appendM (ro, (st, (fu, (dn, es)))) s b)).2).2).2).1 = (((d').2).2).1))
 (h11 : (((((((appendM (ro, (st, (fu, (dn, es)))) s b)).2).2).2).2).1 = ((((d').2).2).2).1))
 (h12 : (((((((appendM (ro, (st, (fu, (dn, es)))) s b)).2).2).2).2).2 = ((((d').2).2).2).2))
 (h13 : (([] : List (Int)) = l)) :
 ∃ ps, runO Try.prog DF gDo 100 Try.f26 (doIn ro st fu dn es k s t b n ke) [.is true, .loop (loopL DF (xlSn b (0 : Nat) b.length d'.1 d'.2.1 d'.2.2.1 d'.2.2.2.1 d'.2.2.2.2 e) (.exit 1) (xlEnd d'.1 d'.2.1 d'.2.2.1 d'.2.2.2.1 d'.2.2.2.2 e))] (rdV e) (dkBt d' ++ [dynB l]) = some ps ∧ AllQ ps := ⟨_, by kernel_rfl, qc h1 (qc h2 (qc (Eq.refl s) (qc (Eq.refl b) (qc (Eq.refl ro) (qc (Eq.refl st) (qc (Eq.refl fu) (qc (Eq.refl dn) (qc (Eq.refl es) (qc h3 (qc h4 (qc h5 (qc h6 (qc h7 (qc (Eq.refl ((((List.length b) : Nat) : Int))) (qc (show ((0 : Int) = (((0 : Nat) : Nat) : Int)) from by decide) (qc h8 (qc h9 (qc h10 (qc h11 (qc h12 (qc (Eq.refl b) (qc (Eq.refl e) (qc (Eq.refl ((d').1)) (qc (Eq.refl (((d').2).1)) (qc (Eq.refl ((((d').2).2).1)) (qc (Eq.refl (((((d').2).2).2).1)) (qc (Eq.refl (((((d').2).2).2).2)) (qc h13 (qn)))))))))))))))))))))))))))))⟩
theorem do_1 (ro st fu : Int) (dn : Bool) (es : List (Rec × Ob)) (k : Int) (s t : ByteArray) (b : List Int) (n : Int) (ke : List Int) (e : Int) (l : List Int) (d' : DkT)
 (h1 : ((List.length b) ≤ (281474976710656 : Nat)))
 (h2 : ((k == (0 : Int)) = false))
 (h3 : ((k == (1 : Int)) = true))
 (h4 : (DkOK (ro, (st, (fu, (dn, es))))))
 (h5 : ((ByteArray.size s) ≤ (9223372036854775807 : Nat)))
 (h6 : (((syncM (ro, (st, (fu, (dn, es)))) s)).1 = e))
 (h7 : ((((syncM (ro, (st, (fu, (dn, es)))) s)).2).1 = (d').1))
 (h8 : (((((syncM (ro, (st, (fu, (dn, es)))) s)).2).2).1 = ((d').2).1))
 (h9 : ((((((syncM (ro, (st, (fu, (dn, es)))) s)).2).2).2).1 = (((d').2).2).1))
 (h10 : (((((((syncM (ro, (st, (fu, (dn, es)))) s)).2).2).2).2).1 = ((((d').2).2).2).1))
 (h11 : (((((((syncM (ro, (st, (fu, (dn, es)))) s)).2).2).2).2).2 = ((((d').2).2).2).2))
 (h12 : (([] : List (Int)) = l)) :
 ∃ ps, runO Try.prog DF gDo 100 Try.f26 (doIn ro st fu dn es k s t b n ke) [.is false, .is true] (rdV e) (dkBt d' ++ [dynB l]) = some ps ∧ AllQ ps := ⟨_, by kernel_rfl, qc h1 (qc h2 (qc h3 (qc (Eq.refl s) (qc (Eq.refl ro) (qc (Eq.refl st) (qc (Eq.refl fu) (qc (Eq.refl dn) (qc (Eq.refl es) (qc h4 (qc h5 (qc h6 (qc h7 (qc h8 (qc h9 (qc h10 (qc h11 (qc h12 (qn))))))))))))))))))⟩
theorem do_2 (ro st fu : Int) (dn : Bool) (es : List (Rec × Ob)) (k : Int) (s t : ByteArray) (b : List Int) (n : Int) (ke : List Int) (e : Int) (l : List Int) (d' : DkT)
 (h1 : ((List.length b) ≤ (281474976710656 : Nat)))
 (h2 : ((k == (0 : Int)) = false))
 (h3 : ((k == (1 : Int)) = false))
 (h4 : ((k == (2 : Int)) = true))
 (h5 : (DkOK (ro, (st, (fu, (dn, es))))))
 (h6 : ((ByteArray.size s) ≤ (9223372036854775807 : Nat)))
 (h7 : (((cutM (ro, (st, (fu, (dn, es)))) s n)).1 = e))
 (h8 : ((((cutM (ro, (st, (fu, (dn, es)))) s n)).2).1 = (d').1))
 (h9 : (((((cutM (ro, (st, (fu, (dn, es)))) s n)).2).2).1 = ((d').2).1))
 (h10 : ((((((cutM (ro, (st, (fu, (dn, es)))) s n)).2).2).2).1 = (((d').2).2).1))
 (h11 : (((((((cutM (ro, (st, (fu, (dn, es)))) s n)).2).2).2).2).1 = ((((d').2).2).2).1))
 (h12 : (((((((cutM (ro, (st, (fu, (dn, es)))) s n)).2).2).2).2).2 = ((((d').2).2).2).2))
 (h13 : (([] : List (Int)) = l)) :
 ∃ ps, runO Try.prog DF gDo 100 Try.f26 (doIn ro st fu dn es k s t b n ke) [.is false, .is false, .is true] (rdV e) (dkBt d' ++ [dynB l]) = some ps ∧ AllQ ps := ⟨_, by kernel_rfl, qc h1 (qc h2 (qc h3 (qc h4 (qc (Eq.refl s) (qc (Eq.refl n) (qc (Eq.refl ro) (qc (Eq.refl st) (qc (Eq.refl fu) (qc (Eq.refl dn) (qc (Eq.refl es) (qc h5 (qc h6 (qc h7 (qc h8 (qc h9 (qc h10 (qc h11 (qc h12 (qc h13 (qn))))))))))))))))))))⟩
theorem do_3 (ro st fu : Int) (dn : Bool) (es : List (Rec × Ob)) (k : Int) (s t : ByteArray) (b : List Int) (n : Int) (ke : List Int) (e : Int) (l : List Int) (d' : DkT)
 (h1 : ((List.length b) ≤ (281474976710656 : Nat)))
 (h2 : ((k == (0 : Int)) = false))
 (h3 : ((k == (1 : Int)) = false))
 (h4 : ((k == (2 : Int)) = false))
 (h5 : ((k == (3 : Int)) = true))
 (h6 : (DkOK (ro, (st, (fu, (dn, es))))))
 (h7 : ((ByteArray.size s) ≤ (9223372036854775807 : Nat)))
 (h8 : ((ByteArray.size t) ≤ (9223372036854775807 : Nat)))
 (h9 : (((moveM (ro, (st, (fu, (dn, es)))) s t)).1 = e))
 (h10 : ((((moveM (ro, (st, (fu, (dn, es)))) s t)).2).1 = (d').1))
 (h11 : (((((moveM (ro, (st, (fu, (dn, es)))) s t)).2).2).1 = ((d').2).1))
 (h12 : ((((((moveM (ro, (st, (fu, (dn, es)))) s t)).2).2).2).1 = (((d').2).2).1))
 (h13 : (((((((moveM (ro, (st, (fu, (dn, es)))) s t)).2).2).2).2).1 = ((((d').2).2).2).1))
 (h14 : (((((((moveM (ro, (st, (fu, (dn, es)))) s t)).2).2).2).2).2 = ((((d').2).2).2).2))
 (h15 : (([] : List (Int)) = l)) :
 ∃ ps, runO Try.prog DF gDo 100 Try.f26 (doIn ro st fu dn es k s t b n ke) [.is false, .is false, .is false, .is true] (rdV e) (dkBt d' ++ [dynB l]) = some ps ∧ AllQ ps := ⟨_, by kernel_rfl, qc h1 (qc h2 (qc h3 (qc h4 (qc h5 (qc (Eq.refl s) (qc (Eq.refl t) (qc (Eq.refl ro) (qc (Eq.refl st) (qc (Eq.refl fu) (qc (Eq.refl dn) (qc (Eq.refl es) (qc h6 (qc h7 (qc h8 (qc h9 (qc h10 (qc h11 (qc h12 (qc h13 (qc h14 (qc h15 (qn))))))))))))))))))))))⟩
theorem do_4 (ro st fu : Int) (dn : Bool) (es : List (Rec × Ob)) (k : Int) (s t : ByteArray) (b : List Int) (n : Int) (ke : List Int) (e : Int) (l : List Int) (d' : DkT)
 (h1 : ((List.length b) ≤ (281474976710656 : Nat)))
 (h2 : ((k == (0 : Int)) = false))
 (h3 : ((k == (1 : Int)) = false))
 (h4 : ((k == (2 : Int)) = false))
 (h5 : ((k == (3 : Int)) = false))
 (h6 : ((k == (4 : Int)) = true))
 (h7 : (DkOK (ro, (st, (fu, (dn, es))))))
 (h8 : ((ByteArray.size s) ≤ (9223372036854775807 : Nat)))
 (h9 : (((dropM (ro, (st, (fu, (dn, es)))) s)).1 = e))
 (h10 : ((((dropM (ro, (st, (fu, (dn, es)))) s)).2).1 = (d').1))
 (h11 : (((((dropM (ro, (st, (fu, (dn, es)))) s)).2).2).1 = ((d').2).1))
 (h12 : ((((((dropM (ro, (st, (fu, (dn, es)))) s)).2).2).2).1 = (((d').2).2).1))
 (h13 : (((((((dropM (ro, (st, (fu, (dn, es)))) s)).2).2).2).2).1 = ((((d').2).2).2).1))
 (h14 : (((((((dropM (ro, (st, (fu, (dn, es)))) s)).2).2).2).2).2 = ((((d').2).2).2).2))
 (h15 : (([] : List (Int)) = l)) :
 ∃ ps, runO Try.prog DF gDo 100 Try.f26 (doIn ro st fu dn es k s t b n ke) [.is false, .is false, .is false, .is false, .is true] (rdV e) (dkBt d' ++ [dynB l]) = some ps ∧ AllQ ps := ⟨_, by kernel_rfl, qc h1 (qc h2 (qc h3 (qc h4 (qc h5 (qc h6 (qc (Eq.refl s) (qc (Eq.refl ro) (qc (Eq.refl st) (qc (Eq.refl fu) (qc (Eq.refl dn) (qc (Eq.refl es) (qc h7 (qc h8 (qc h9 (qc h10 (qc h11 (qc h12 (qc h13 (qc h14 (qc h15 (qn)))))))))))))))))))))⟩
theorem do_5 (ro st fu : Int) (dn : Bool) (es : List (Rec × Ob)) (k : Int) (s t : ByteArray) (b : List Int) (n : Int) (ke : List Int) (e : Int) (l : List Int) (d' : DkT)
 (h1 : ((List.length b) ≤ (281474976710656 : Nat)))
 (h2 : ((k == (0 : Int)) = false))
 (h3 : ((k == (1 : Int)) = false))
 (h4 : ((k == (2 : Int)) = false))
 (h5 : ((k == (3 : Int)) = false))
 (h6 : ((k == (4 : Int)) = false))
 (h7 : ((k == (5 : Int)) = true))
 (h8 : (Okd (ro, (st, (fu, (dn, es))))))
 (h9 : ((ByteArray.size s) ≤ (9223372036854775807 : Nat)))
 (h10 : (((readM (ro, (st, (fu, (dn, es)))) s)).1 = e))
 (h11 : (ro = (d').1))
 (h12 : (st = ((d').2).1))
 (h13 : (fu = (((d').2).2).1))
 (h14 : (dn = ((((d').2).2).2).1))
 (h15 : (es = ((((d').2).2).2).2))
 (h16 : (((readM (ro, (st, (fu, (dn, es)))) s)).2 = l)) :
 ∃ ps, runO Try.prog DF gDo 100 Try.f26 (doIn ro st fu dn es k s t b n ke) [.is false, .is false, .is false, .is false, .is false, .is true] (rdV e) (dkBt d' ++ [dynB l]) = some ps ∧ AllQ ps := ⟨_, by kernel_rfl, qc h1 (qc h2 (qc h3 (qc h4 (qc h5 (qc h6 (qc h7 (qc (Eq.refl s) (qc (Eq.refl ro) (qc (Eq.refl st) (qc (Eq.refl fu) (qc (Eq.refl dn) (qc (Eq.refl es) (qc h8 (qc h9 (qc h10 (qc h11 (qc h12 (qc h13 (qc h14 (qc h15 (qc h16 (qn))))))))))))))))))))))⟩
theorem do_6 (ro st fu : Int) (dn : Bool) (es : List (Rec × Ob)) (k : Int) (s t : ByteArray) (b : List Int) (n : Int) (ke : List Int) (e : Int) (l : List Int) (d' : DkT)
 (h1 : ((List.length b) ≤ (281474976710656 : Nat)))
 (h2 : ((k == (0 : Int)) = false))
 (h3 : ((k == (1 : Int)) = false))
 (h4 : ((k == (2 : Int)) = false))
 (h5 : ((k == (3 : Int)) = false))
 (h6 : ((k == (4 : Int)) = false))
 (h7 : ((k == (5 : Int)) = false))
 (h8 : ((k == (6 : Int)) = true))
 (h9 : ((0 : Int) = e))
 (h10 : (((fuseM (ro, (st, (fu, (dn, es)))) n)).1 = (d').1))
 (h11 : ((((fuseM (ro, (st, (fu, (dn, es)))) n)).2).1 = ((d').2).1))
 (h12 : (((((fuseM (ro, (st, (fu, (dn, es)))) n)).2).2).1 = (((d').2).2).1))
 (h13 : ((((((fuseM (ro, (st, (fu, (dn, es)))) n)).2).2).2).1 = ((((d').2).2).2).1))
 (h14 : ((((((fuseM (ro, (st, (fu, (dn, es)))) n)).2).2).2).2 = ((((d').2).2).2).2))
 (h15 : (([] : List (Int)) = l)) :
 ∃ ps, runO Try.prog DF gDo 100 Try.f26 (doIn ro st fu dn es k s t b n ke) [.is false, .is false, .is false, .is false, .is false, .is false, .is true] (rdV e) (dkBt d' ++ [dynB l]) = some ps ∧ AllQ ps := ⟨_, by kernel_rfl, qc h1 (qc h2 (qc h3 (qc h4 (qc h5 (qc h6 (qc h7 (qc h8 (qc (Eq.refl n) (qc (Eq.refl ro) (qc (Eq.refl st) (qc (Eq.refl fu) (qc (Eq.refl dn) (qc (Eq.refl es) (qc h9 (qc h10 (qc h11 (qc h12 (qc h13 (qc h14 (qc h15 (qn)))))))))))))))))))))⟩
theorem do_7 (ro st fu : Int) (dn : Bool) (es : List (Rec × Ob)) (k : Int) (s t : ByteArray) (b : List Int) (n : Int) (ke : List Int) (e : Int) (l : List Int) (d' : DkT)
 (h1 : ((List.length b) ≤ (281474976710656 : Nat)))
 (h2 : ((k == (0 : Int)) = false))
 (h3 : ((k == (1 : Int)) = false))
 (h4 : ((k == (2 : Int)) = false))
 (h5 : ((k == (3 : Int)) = false))
 (h6 : ((k == (4 : Int)) = false))
 (h7 : ((k == (5 : Int)) = false))
 (h8 : ((k == (6 : Int)) = false))
 (h9 : ((k == (7 : Int)) = true))
 (h10 : (((0 : Nat) + (List.length ke)) ≤ (9223372036854775807 : Nat)))
 (h11 : ((((0 : Nat) + (List.length ke)) * (8 : Nat)) ≤ (140737488355328 : Nat)))
 (h12 : (Okd (ro, (st, (fu, (dn, es))))))
 (h13 : ((0 : Int) = e))
 (h14 : (((crashM (ro, (st, (fu, (dn, es)))) (([] : List (Int)) ++ ke))).1 = (d').1))
 (h15 : ((((crashM (ro, (st, (fu, (dn, es)))) (([] : List (Int)) ++ ke))).2).1 = ((d').2).1))
 (h16 : (((((crashM (ro, (st, (fu, (dn, es)))) (([] : List (Int)) ++ ke))).2).2).1 = (((d').2).2).1))
 (h17 : ((((((crashM (ro, (st, (fu, (dn, es)))) (([] : List (Int)) ++ ke))).2).2).2).1 = ((((d').2).2).2).1))
 (h18 : ((((((crashM (ro, (st, (fu, (dn, es)))) (([] : List (Int)) ++ ke))).2).2).2).2 = ((((d').2).2).2).2))
 (h19 : (([] : List (Int)) = l)) :
 ∃ ps, runO Try.prog DF gDo 100 Try.f26 (doIn ro st fu dn es k s t b n ke) [.is false, .is false, .is false, .is false, .is false, .is false, .is false, .is true] (rdV e) (dkBt d' ++ [dynB l]) = some ps ∧ AllQ ps := ⟨_, by kernel_rfl, qc h1 (qc h2 (qc h3 (qc h4 (qc h5 (qc h6 (qc h7 (qc h8 (qc h9 (qc h10 (qc h11 (qc (Eq.refl ((([] : List (Int)) ++ ke))) (qc (Eq.refl ro) (qc (Eq.refl st) (qc (Eq.refl fu) (qc (Eq.refl dn) (qc (Eq.refl es) (qc h12 (qc h13 (qc h14 (qc h15 (qc h16 (qc h17 (qc h18 (qc h19 (qn)))))))))))))))))))))))))⟩
theorem do_8 (ro st fu : Int) (dn : Bool) (es : List (Rec × Ob)) (k : Int) (s t : ByteArray) (b : List Int) (n : Int) (ke : List Int) (e : Int) (l : List Int) (d' : DkT)
 (h1 : ((List.length b) ≤ (281474976710656 : Nat)))
 (h2 : ((k == (0 : Int)) = false))
 (h3 : ((k == (1 : Int)) = false))
 (h4 : ((k == (2 : Int)) = false))
 (h5 : ((k == (3 : Int)) = false))
 (h6 : ((k == (4 : Int)) = false))
 (h7 : ((k == (5 : Int)) = false))
 (h8 : ((k == (6 : Int)) = false))
 (h9 : ((k == (7 : Int)) = false))
 (h10 : ((0 : Int) = e))
 (h11 : (ro = (d').1))
 (h12 : (st = ((d').2).1))
 (h13 : (fu = (((d').2).2).1))
 (h14 : (dn = ((((d').2).2).2).1))
 (h15 : (es = ((((d').2).2).2).2))
 (h16 : (([] : List (Int)) = l)) :
 ∃ ps, runO Try.prog DF gDo 100 Try.f26 (doIn ro st fu dn es k s t b n ke) [.is false, .is false, .is false, .is false, .is false, .is false, .is false, .is false] (rdV e) (dkBt d' ++ [dynB l]) = some ps ∧ AllQ ps := ⟨_, by kernel_rfl, qc h1 (qc h2 (qc h3 (qc h4 (qc h5 (qc h6 (qc h7 (qc h8 (qc h9 (qc h10 (qc h11 (qc h12 (qc h13 (qc h14 (qc h15 (qc h16 (qn))))))))))))))))⟩
structure OpT where
  k : Int
  s : ByteArray
  t : ByteArray
  b : List Int
  n : Int
  ke : List Int
def doM (d : DkT) (o : OpT) : Int × List Int × DkT :=
  if o.k = 0 then ((appendM d o.s o.b).1, [], (appendM d o.s o.b).2)
  else if o.k = 1 then ((syncM d o.s).1, [], (syncM d o.s).2)
  else if o.k = 2 then ((cutM d o.s o.n).1, [], (cutM d o.s o.n).2)
  else if o.k = 3 then ((moveM d o.s o.t).1, [], (moveM d o.s o.t).2)
  else if o.k = 4 then ((dropM d o.s).1, [], (dropM d o.s).2)
  else if o.k = 5 then ((readM d o.s).1, (readM d o.s).2, d)
  else if o.k = 6 then (0, [], fuseM d o.n)
  else if o.k = 7 then (0, [], crashM d o.ke)
  else (0, [], d)
structure OpOk (o : OpT) : Prop where
  s : o.s.size ≤ 9223372036854775807
  t : o.t.size ≤ 9223372036854775807
  b : o.b.length ≤ 140737488355328
  n : o.n ≤ 9223372036854775807
  ke : o.ke.length * 8 ≤ 140737488355328
theorem do_nxt {d : DkT} (h : Okd d) {o : OpT} (ho : OpOk o) : Nxt d (doM d o).2.2 := by
  unfold doM
  split
  · exact append_nxt h _ _
  split
  · exact sync_nxt h _
  split
  · exact cut_nxt h _ _
  split
  · exact move_nxt h _ _
  split
  · exact drop_nxt h _
  split
  · exact nxt_same h
  split
  · exact fuse_nxt h ho.n
  split
  · exact crash_nxt h _
  · exact nxt_same h
theorem do_loop (b : List Int) (hb : b.length ≤ 140737488355328) (ro st fu e : Int) (dn : Bool) (es : List (Rec × Ob)) :
    SumOK Try.prog DF (bodyN Try.f26 0) (loopL DF (xlSn b (0 : Nat) b.length ro st fu dn es e) (.exit 1) (xlEnd ro st fu dn es e)) := by
  refine sum_loop gDo_ok mixed (c := bodyN Try.f26 0) (fun k => xlSn (xl b k) k b.length ro st fu dn es e) b.length (e := .exit 1) (s := xlEnd ro st fu dn es e) rfl (fun k hk => ?_) ⟨_, _, _, do_ex _ _ _ ro st fu e dn es (decide_eq_false (by omega))⟩
  have hl := xl_len b k
  exact ⟨_, _, _, do_rd (xl b k) _ k _ _ ro st fu e dn es (decide_eq_true (by omega)) (by omega) (by omega) (by rw [Int.toNat_natCast]; omega) ⟨by omega, by omega⟩ rfl (by rw [Int.toNat_natCast]; rfl)⟩
def dqRd (bs : List (BoxSt DF.τ)) : List (A0 DF.τ) → Option (DkT × OpT)
  | [.one (.ref 0 0), .agg ps] => match dkRd bs, ps with
    | some d, [.int .i64 _ k, .str s, .str t, .words .u8 b, .int .i64 _ n, .words .i64 ke] => some (d, ⟨k, s, t, b, n, ke⟩)
    | _, _ => none
  | _ => none
noncomputable def doQ := mkF DF Try.f26.ntmps dqRd (fun t => (dkBt t.1, [.one (.ref 0 0), oP t.2.k t.2.s t.2.t t.2.b t.2.n t.2.ke])) (fun t => some (rdV (doM t.1 t.2).1, dkBt (doM t.1 t.2).2.2 ++ [dynB (doM t.1 t.2).2.1], [DkOK t.1, OpOk t.2]))
theorem do_ok : OpOK Try.prog DF 26 doQ := by
  refine opOK_mk gDo_ok mixed Try.func26 (enters_of Try.func26 (by kernel_rfl) rfl) ?_
  rintro ⟨⟨ro, st, fu, dn, es⟩, k, s, t, b, n, ke⟩ r' bs' ps h hps
  simp only [Option.some.injEq, Prod.mk.injEq] at h
  obtain ⟨rfl, rfl, rfl⟩ := h
  have hd : DkOK (ro, st, fu, dn, es) := hps (DkOK _) (by simp)
  obtain ⟨hs, ht, hb, hn, hk⟩ : OpOk ⟨k, s, t, b, n, ke⟩ := hps (OpOk _) (by simp)
  simp only at hs ht hb hn hk
  have hb' : b.length ≤ 281474976710656 := by omega
  by_cases c0 : k = 0
  · have hm : doM (ro, st, fu, dn, es) ⟨k, s, t, b, n, ke⟩ = ((appendM (ro, st, fu, dn, es) s b).1, [], (appendM (ro, st, fu, dn, es) s b).2) := by unfold doM; exact if_pos c0
    rw [hm]
    exact ⟨_, _, do_0 ro st fu dn es k s t b n ke _ 0 0 false [] _ _ hb' (beq_iff_eq.2 c0) hd hs (by omega) (do_loop b hb _ _ _ _ _ _) rfl rfl rfl rfl rfl rfl rfl⟩
  have d0 : (k == 0) = false := beq_eq_false_iff_ne.2 c0
  by_cases c1 : k = 1
  · have hm : doM (ro, st, fu, dn, es) ⟨k, s, t, b, n, ke⟩ = ((syncM (ro, st, fu, dn, es) s).1, [], (syncM (ro, st, fu, dn, es) s).2) := by unfold doM; exact (if_neg c0).trans (if_pos c1)
    rw [hm]
    exact ⟨_, _, do_1 ro st fu dn es k s t b n ke _ _ _ hb' d0 (beq_iff_eq.2 c1) hd hs rfl rfl rfl rfl rfl rfl rfl⟩
  have d1 : (k == 1) = false := beq_eq_false_iff_ne.2 c1
  by_cases c2 : k = 2
  · have hm : doM (ro, st, fu, dn, es) ⟨k, s, t, b, n, ke⟩ = ((cutM (ro, st, fu, dn, es) s n).1, [], (cutM (ro, st, fu, dn, es) s n).2) := by unfold doM; exact (if_neg c0).trans ((if_neg c1).trans (if_pos c2))
    rw [hm]
    exact ⟨_, _, do_2 ro st fu dn es k s t b n ke _ _ _ hb' d0 d1 (beq_iff_eq.2 c2) hd hs rfl rfl rfl rfl rfl rfl rfl⟩
  have d2 : (k == 2) = false := beq_eq_false_iff_ne.2 c2
  by_cases c3 : k = 3
  · have hm : doM (ro, st, fu, dn, es) ⟨k, s, t, b, n, ke⟩ = ((moveM (ro, st, fu, dn, es) s t).1, [], (moveM (ro, st, fu, dn, es) s t).2) := by unfold doM; exact (if_neg c0).trans ((if_neg c1).trans ((if_neg c2).trans (if_pos c3)))
    rw [hm]
    exact ⟨_, _, do_3 ro st fu dn es k s t b n ke _ _ _ hb' d0 d1 d2 (beq_iff_eq.2 c3) hd hs ht rfl rfl rfl rfl rfl rfl rfl⟩
  have d3 : (k == 3) = false := beq_eq_false_iff_ne.2 c3
  by_cases c4 : k = 4
  · have hm : doM (ro, st, fu, dn, es) ⟨k, s, t, b, n, ke⟩ = ((dropM (ro, st, fu, dn, es) s).1, [], (dropM (ro, st, fu, dn, es) s).2) := by unfold doM; exact (if_neg c0).trans ((if_neg c1).trans ((if_neg c2).trans ((if_neg c3).trans (if_pos c4))))
    rw [hm]
    exact ⟨_, _, do_4 ro st fu dn es k s t b n ke _ _ _ hb' d0 d1 d2 d3 (beq_iff_eq.2 c4) hd hs rfl rfl rfl rfl rfl rfl rfl⟩
  have d4 : (k == 4) = false := beq_eq_false_iff_ne.2 c4
  by_cases c5 : k = 5
  · have hm : doM (ro, st, fu, dn, es) ⟨k, s, t, b, n, ke⟩ = ((readM (ro, st, fu, dn, es) s).1, (readM (ro, st, fu, dn, es) s).2, (ro, st, fu, dn, es)) := by unfold doM; exact (if_neg c0).trans ((if_neg c1).trans ((if_neg c2).trans ((if_neg c3).trans ((if_neg c4).trans (if_pos c5)))))
    rw [hm]
    exact ⟨_, _, do_5 ro st fu dn es k s t b n ke _ _ (ro, st, fu, dn, es) hb' d0 d1 d2 d3 d4 (beq_iff_eq.2 c5) hd.1 hs rfl rfl rfl rfl rfl rfl rfl⟩
  have d5 : (k == 5) = false := beq_eq_false_iff_ne.2 c5
  by_cases c6 : k = 6
  · have hm : doM (ro, st, fu, dn, es) ⟨k, s, t, b, n, ke⟩ = (0, [], fuseM (ro, st, fu, dn, es) n) := by unfold doM; exact (if_neg c0).trans ((if_neg c1).trans ((if_neg c2).trans ((if_neg c3).trans ((if_neg c4).trans ((if_neg c5).trans (if_pos c6))))))
    rw [hm]
    exact ⟨_, _, do_6 ro st fu dn es k s t b n ke _ _ _ hb' d0 d1 d2 d3 d4 d5 (beq_iff_eq.2 c6) rfl rfl rfl rfl rfl rfl rfl⟩
  have d6 : (k == 6) = false := beq_eq_false_iff_ne.2 c6
  by_cases c7 : k = 7
  · have hm : doM (ro, st, fu, dn, es) ⟨k, s, t, b, n, ke⟩ = (0, [], crashM (ro, st, fu, dn, es) ke) := by unfold doM; exact (if_neg c0).trans ((if_neg c1).trans ((if_neg c2).trans ((if_neg c3).trans ((if_neg c4).trans ((if_neg c5).trans ((if_neg c6).trans (if_pos c7)))))))
    rw [hm]
    exact ⟨_, _, do_7 ro st fu dn es k s t b n ke _ _ _ hb' d0 d1 d2 d3 d4 d5 d6 (beq_iff_eq.2 c7) (by omega) (by omega) hd.1 rfl rfl rfl rfl rfl rfl rfl⟩
  have d7 : (k == 7) = false := beq_eq_false_iff_ne.2 c7
  have hm : doM (ro, st, fu, dn, es) ⟨k, s, t, b, n, ke⟩ = (0, [], (ro, st, fu, dn, es)) := by unfold doM; exact (if_neg c0).trans ((if_neg c1).trans ((if_neg c2).trans ((if_neg c3).trans ((if_neg c4).trans ((if_neg c5).trans ((if_neg c6).trans (if_neg c7)))))))
  rw [hm]
  exact ⟨_, _, do_8 ro st fu dn es k s t b n ke _ _ (ro, st, fu, dn, es) hb' d0 d1 d2 d3 d4 d5 d6 d7 rfl rfl rfl rfl rfl rfl rfl⟩
end Go.Num
namespace Go.Num
open Go.Abs Go.Proofs Go.Shelf Go.RowKit
def canonR (r : Rec) : Rec := [.s (recS r 0), .w (recW r 1), .i (recI r 2)]
noncomputable def gS : Gam DF := [(16, .fn (sameD DF)), (11, .fz (copyD DF))]
theorem gS_ok : GamOK Try.prog DF gS := gam_cons (same_ok DF) (gam_fz (copy_ok DF) gam_nil)
def ssSn (x y : List Rec) (k : Int) : Sn DF.τ where
  slots := [(0, .v (.one (.prs fSh x))), (1, .v (.one (.prs fSh y))), (12, .v (.one (.int .i64 false x.length))), (13, .v (.one (.int .i64 false k)))]
  boxes := []
  nt := 55
def ssNo : Sn DF.τ where
  slots := [(4, .v (.one (.bool true false)))]
  boxes := []
  nt := 55
def ssEnd : Sn DF.τ where
  slots := []
  boxes := []
  nt := 55
theorem ss_step (x y : List Rec) (k k' : Int)
 (h1 : ((decide (k < (((List.length x) : Nat) : Int))) = true))
 (h2 : ((0 : Int) ≤ k))
 (h3 : (k < (((List.length x) : Nat) : Int)))
 (h4 : (k < (((List.length y) : Nat) : Int)))
 (h5 : ((!(decide ((recS (List.getD x (Int.toNat k) ([] : List (Abs.Fd))) (0 : Nat)) = (recS (List.getD y (Int.toNat k) ([] : List (Abs.Fd))) (0 : Nat))))) = false))
 (h6 : (((recI (List.getD x (Int.toNat k) ([] : List (Abs.Fd))) (((0 : Nat) + (1 : Nat)) + (1 : Nat))) != (recI (List.getD y (Int.toNat k) ([] : List (Abs.Fd))) (((0 : Nat) + (1 : Nat)) + (1 : Nat)))) = false))
 (h7 : ((decide ((recW (List.getD x (Int.toNat k) ([] : List (Abs.Fd))) ((0 : Nat) + (1 : Nat))) = (recW (List.getD y (Int.toNat k) ([] : List (Abs.Fd))) ((0 : Nat) + (1 : Nat))))) = true))
 (h8 : ((List.length (recW (List.getD x (Int.toNat k) ([] : List (Abs.Fd))) ((0 : Nat) + (1 : Nat)))) ≤ (9223372036854775807 : Nat)))
 (h9 : ((List.length (recW (List.getD y (Int.toNat k) ([] : List (Abs.Fd))) ((0 : Nat) + (1 : Nat)))) ≤ (9223372036854775807 : Nat)))
 (h10 : (InI64 (k + (1 : Int))))
 (h11 : ((k + (1 : Int)) = k')) :
 ∃ ps, stepPs Try.prog DF gS 100 (bodyN Try.f19 0) 100 (ssSn x y k).st [.is true, .is false, .is false, .is true] .normal (ssSn x y k') = some ps ∧ AllQ ps := ⟨_, by kernel_rfl, qc h1 (qc h2 (qc h3 (qc h2 (qc h4 (qc h5 (qc h2 (qc h3 (qc h2 (qc h4 (qc h6 (qc h2 (qc h3 (qc h2 (qc h4 (qc h7 (qc h8 (qc h9 (qc h10 (qc (Eq.refl x) (qc (Eq.refl y) (qc (Eq.refl ((((List.length x) : Nat) : Int))) (qc h11 (qn)))))))))))))))))))))))⟩
theorem ss_name (x y : List Rec) (k : Int)
 (h1 : ((decide (k < (((List.length x) : Nat) : Int))) = true))
 (h2 : ((0 : Int) ≤ k))
 (h3 : (k < (((List.length x) : Nat) : Int)))
 (h4 : (k < (((List.length y) : Nat) : Int)))
 (h5 : ((!(decide ((recS (List.getD x (Int.toNat k) ([] : List (Abs.Fd))) (0 : Nat)) = (recS (List.getD y (Int.toNat k) ([] : List (Abs.Fd))) (0 : Nat))))) = true)) :
 ∃ ps, stepPs Try.prog DF gS 100 (bodyN Try.f19 0) 100 (ssSn x y k).st [.is true, .is true] .ret ssNo = some ps ∧ AllQ ps := ⟨_, by kernel_rfl, qc h1 (qc h2 (qc h3 (qc h2 (qc h4 (qc h5 (qn))))))⟩
theorem ss_safe (x y : List Rec) (k : Int)
 (h1 : ((decide (k < (((List.length x) : Nat) : Int))) = true))
 (h2 : ((0 : Int) ≤ k))
 (h3 : (k < (((List.length x) : Nat) : Int)))
 (h4 : (k < (((List.length y) : Nat) : Int)))
 (h5 : ((!(decide ((recS (List.getD x (Int.toNat k) ([] : List (Abs.Fd))) (0 : Nat)) = (recS (List.getD y (Int.toNat k) ([] : List (Abs.Fd))) (0 : Nat))))) = false))
 (h6 : (((recI (List.getD x (Int.toNat k) ([] : List (Abs.Fd))) (((0 : Nat) + (1 : Nat)) + (1 : Nat))) != (recI (List.getD y (Int.toNat k) ([] : List (Abs.Fd))) (((0 : Nat) + (1 : Nat)) + (1 : Nat)))) = true)) :
 ∃ ps, stepPs Try.prog DF gS 100 (bodyN Try.f19 0) 100 (ssSn x y k).st [.is true, .is false, .is true] .ret ssNo = some ps ∧ AllQ ps := ⟨_, by kernel_rfl, qc h1 (qc h2 (qc h3 (qc h2 (qc h4 (qc h5 (qc h2 (qc h3 (qc h2 (qc h4 (qc h6 (qn)))))))))))⟩
theorem ss_data (x y : List Rec) (k : Int)
 (h1 : ((decide (k < (((List.length x) : Nat) : Int))) = true))
 (h2 : ((0 : Int) ≤ k))
 (h3 : (k < (((List.length x) : Nat) : Int)))
 (h4 : (k < (((List.length y) : Nat) : Int)))
 (h5 : ((!(decide ((recS (List.getD x (Int.toNat k) ([] : List (Abs.Fd))) (0 : Nat)) = (recS (List.getD y (Int.toNat k) ([] : List (Abs.Fd))) (0 : Nat))))) = false))
 (h6 : (((recI (List.getD x (Int.toNat k) ([] : List (Abs.Fd))) (((0 : Nat) + (1 : Nat)) + (1 : Nat))) != (recI (List.getD y (Int.toNat k) ([] : List (Abs.Fd))) (((0 : Nat) + (1 : Nat)) + (1 : Nat)))) = false))
 (h7 : ((decide ((recW (List.getD x (Int.toNat k) ([] : List (Abs.Fd))) ((0 : Nat) + (1 : Nat))) = (recW (List.getD y (Int.toNat k) ([] : List (Abs.Fd))) ((0 : Nat) + (1 : Nat))))) = false))
 (h8 : ((List.length (recW (List.getD x (Int.toNat k) ([] : List (Abs.Fd))) ((0 : Nat) + (1 : Nat)))) ≤ (9223372036854775807 : Nat)))
 (h9 : ((List.length (recW (List.getD y (Int.toNat k) ([] : List (Abs.Fd))) ((0 : Nat) + (1 : Nat)))) ≤ (9223372036854775807 : Nat))) :
 ∃ ps, stepPs Try.prog DF gS 100 (bodyN Try.f19 0) 100 (ssSn x y k).st [.is true, .is false, .is false, .is false] .ret ssNo = some ps ∧ AllQ ps := ⟨_, by kernel_rfl, qc h1 (qc h2 (qc h3 (qc h2 (qc h4 (qc h5 (qc h2 (qc h3 (qc h2 (qc h4 (qc h6 (qc h2 (qc h3 (qc h2 (qc h4 (qc h7 (qc h8 (qc h9 (qn))))))))))))))))))⟩
theorem ss_exit (x y : List Rec) (k : Int)
 (h1 : ((decide (k < (((List.length x) : Nat) : Int))) = false)) :
 ∃ ps, stepPs Try.prog DF gS 100 (bodyN Try.f19 0) 100 (ssSn x y k).st [.is false] (.exit 0) ssEnd = some ps ∧ AllQ ps := ⟨_, by kernel_rfl, qc h1 (qn)⟩
theorem ss_len (x y : List Rec)
 (h1 : (((((List.length x) : Nat) : Int) != (((List.length y) : Nat) : Int)) = true)) :
 ∃ ps, runF Try.prog DF gS 100 Try.f19 [.one (.prs fSh x), .one (.prs fSh y)] [.is true] = some ((AV.v (A0.one (Part.bool true false))), ps) ∧ AllQ ps := ⟨_, by kernel_rfl, qc h1 (qn)⟩
theorem ss_yes (x y : List Rec)
 (h1 : (((((List.length x) : Nat) : Int) != (((List.length y) : Nat) : Int)) = false))
 (h2 : SumOK Try.prog DF (bodyN Try.f19 0) (loopL DF (ssSn x y (0 : Nat)) (.exit 0) ssEnd)) :
 ∃ ps, runF Try.prog DF gS 100 Try.f19 [.one (.prs fSh x), .one (.prs fSh y)] [.is false, .loop (loopL DF (ssSn x y (0 : Nat)) (.exit 0) ssEnd)] = some ((AV.v (A0.one (Part.bool true true))), ps) ∧ AllQ ps := ⟨_, by kernel_rfl, qc h1 (qc h2 (qc (Eq.refl x) (qc (Eq.refl y) (qc (Eq.refl ((((List.length x) : Nat) : Int))) (qc (show ((0 : Int) = (((0 : Nat) : Nat) : Int)) from by decide) (qn))))))⟩
theorem ss_no (x y : List Rec)
 (h1 : (((((List.length x) : Nat) : Int) != (((List.length y) : Nat) : Int)) = false))
 (h2 : SumOK Try.prog DF (bodyN Try.f19 0) (loopL DF (ssSn x y (0 : Nat)) .ret ssNo)) :
 ∃ ps, runF Try.prog DF gS 100 Try.f19 [.one (.prs fSh x), .one (.prs fSh y)] [.is false, .loop (loopL DF (ssSn x y (0 : Nat)) .ret ssNo)] = some ((AV.v (A0.one (Part.bool true false))), ps) ∧ AllQ ps := ⟨_, by kernel_rfl, qc h1 (qc h2 (qc (Eq.refl x) (qc (Eq.refl y) (qc (Eq.refl ((((List.length x) : Nat) : Int))) (qc (show ((0 : Int) = (((0 : Nat) : Nat) : Int)) from by decide) (qn))))))⟩
def cpSn (x rs : List Rec) (k : Int) : Sn DF.τ where
  slots := [(0, .v (.one (.prs fSh x))), (3, .v (.one (.own 0))), (7, .v (.one (.int .i64 false x.length))), (8, .v (.one (.int .i64 false k)))]
  boxes := [(0, imB rs)]
  nt := 33
def cpEnd (rs : List Rec) : Sn DF.τ where
  slots := [(3, .v (.one (.own 0)))]
  boxes := [(0, imB rs)]
  nt := 33
theorem cp_step (x rs rs' : List Rec) (k k' : Int)
 (h1 : ((decide (k < (((List.length x) : Nat) : Int))) = true))
 (h2 : ((0 : Int) ≤ k))
 (h3 : (k < (((List.length x) : Nat) : Int)))
 (h4 : ((List.length (recW (List.getD x (Int.toNat k) ([] : List (Abs.Fd))) ((0 : Nat) + (1 : Nat)))) ≤ (281474976710656 : Nat)))
 (h5 : ((((List.length rs) + (1 : Nat)) * (48 : Nat)) ≤ (140737488355328 : Nat)))
 (h6 : (((List.length rs) + (1 : Nat)) ≤ (9223372036854775807 : Nat)))
 (h7 : (InI64 (k + (1 : Int))))
 (h8 : ((k + (1 : Int)) = k'))
 (h9 : ((rs ++ [[(Fd.s (recS (List.getD x (Int.toNat k) ([] : List (Abs.Fd))) (0 : Nat))), (Fd.w (recW (List.getD x (Int.toNat k) ([] : List (Abs.Fd))) ((0 : Nat) + (1 : Nat)))), (Fd.i (recI (List.getD x (Int.toNat k) ([] : List (Abs.Fd))) (((0 : Nat) + (1 : Nat)) + (1 : Nat))))]]) = rs')) :
 ∃ ps, stepPs Try.prog DF gS 100 (bodyN Try.f28 0) 100 (cpSn x rs k).st [.is true] .normal (cpSn x rs' k') = some ps ∧ AllQ ps := ⟨_, by kernel_rfl, qc h1 (qc h2 (qc h3 (qc h2 (qc h3 (qc h4 (qc h2 (qc h3 (qc h5 (qc h6 (qc h7 (qc (Eq.refl x) (qc (Eq.refl ((((List.length x) : Nat) : Int))) (qc h8 (qc h9 (qn)))))))))))))))⟩
theorem cp_exit (x rs : List Rec) (k : Int)
 (h1 : ((decide (k < (((List.length x) : Nat) : Int))) = false)) :
 ∃ ps, stepPs Try.prog DF gS 100 (bodyN Try.f28 0) 100 (cpSn x rs k).st [.is false] (.exit 0) (cpEnd rs) = some ps ∧ AllQ ps := ⟨_, by kernel_rfl, qc h1 (qc (Eq.refl rs) (qn))⟩
theorem cp_run (x rs : List Rec)
 (h1 : SumOK Try.prog DF (bodyN Try.f28 0) (loopL DF (cpSn x [] (0 : Nat)) (.exit 0) (cpEnd rs))) :
 ∃ ps, runO Try.prog DF gS 100 Try.f28 ([], [.one (.prs fSh x)]) [.loop (loopL DF (cpSn x [] (0 : Nat)) (.exit 0) (cpEnd rs))] (.v (.one (.own 0))) [imB rs] = some ps ∧ AllQ ps := ⟨_, by kernel_rfl, qc h1 (qc (Eq.refl x) (qc (Eq.refl ((((List.length x) : Nat) : Int))) (qc (show ((0 : Int) = (((0 : Nat) : Nat) : Int)) from by decide) (qc (Eq.refl (([] : List (Rec)))) (qc (Eq.refl rs) (qn))))))⟩
theorem first_rec : ∀ {x y : List Rec}, x.length = y.length → x.map canonR ≠ y.map canonR → ∃ n, n < x.length ∧ canonR (x.getD n []) ≠ canonR (y.getD n []) ∧ ∀ k, k < n → canonR (x.getD k []) = canonR (y.getD k [])
  | [], [], _, h => (h rfl).elim
  | [], _ :: _, h, _ => by simp at h
  | _ :: _, [], h, _ => by simp at h
  | a :: x, b :: y, hl, h => by
    by_cases hab : canonR a = canonR b
    · have h2 : x.map canonR ≠ y.map canonR := fun e => h (by rw [List.map_cons, List.map_cons, hab, e])
      obtain ⟨n, h3, h4, h5⟩ := first_rec (by simpa using hl) h2
      refine ⟨n + 1, by simp; omega, by simpa using h4, fun k hk => ?_⟩
      cases k with
      | zero => simpa using hab
      | succ k => simpa using h5 k (by omega)
    · exact ⟨0, by simp, by simpa using hab, fun k hk => by omega⟩
theorem canon_at {x y : List Rec} (hl : x.length = y.length) (h : x.map canonR = y.map canonR) {k : Nat} (hk : k < x.length) : canonR (x.getD k []) = canonR (y.getD k []) := by
  have h1 : (x.map canonR)[k]? = (y.map canonR)[k]? := by rw [h]
  rw [List.getElem?_map, List.getElem?_map, List.getElem?_eq_getElem hk, List.getElem?_eq_getElem (by omega)] at h1
  rw [List.getD_eq_getElem?_getD, List.getD_eq_getElem?_getD, List.getElem?_eq_getElem hk, List.getElem?_eq_getElem (by omega)]
  exact Option.some.inj h1
def RowsOK (ll : List Rec) : Prop := ll.length ≤ 2932031007400 ∧ ∀ r ∈ ll, (recW r 1).length ≤ 140737488355328
theorem rows_at {ll : List Rec} (h : RowsOK ll) (k : Nat) : (recW (ll.getD k []) 1).length ≤ 140737488355328 := by
  by_cases hk : k < ll.length
  · rw [List.getD_eq_getElem?_getD, List.getElem?_eq_getElem hk]
    exact h.2 _ (List.getElem_mem hk)
  · rw [List.getD_eq_getElem?_getD, List.getElem?_eq_none (by omega)]
    exact Nat.zero_le _
def prsOf : Part DF.τ → Option (List Rec)
  | .prs sh ll => bif shEq sh fSh then some ll else none
  | .nil => some []
  | _ => none
def same17D : FnD DF
  | [.one (.prs sh x), .one (.prs sh' y)] => bif shEq sh fSh && shEq sh' fSh then some (.v (.one (.bool false (decide (x.map canonR = y.map canonR)))), [RowsOK x, RowsOK y]) else none
  | _ => none
theorem ss_rd {x y : List Rec} (hx : RowsOK x) (hy : RowsOK y) (hl : x.length = y.length) {k : Nat} (hk : k < x.length) (h : canonR (x.getD k []) = canonR (y.getD k [])) :
    ∃ fuel nid ds ps, stepPs Try.prog DF gS fuel (bodyN Try.f19 0) nid (ssSn x y k).st ds .normal (ssSn x y ((k + 1 : Nat) : Int)) = some ps ∧ AllQ ps := by
  have hx1 := hx.1
  have h1 := rows_at hx k
  have h2 := rows_at hy k
  simp only [canonR, List.cons.injEq, Fd.s.injEq, Fd.w.injEq, Fd.i.injEq, and_true] at h
  exact ⟨_, _, _, ss_step x y k _ (decide_eq_true (by omega)) (by omega) (by omega) (by omega) (by rw [Int.toNat_natCast, decide_eq_true h.1]; rfl) (by rw [Int.toNat_natCast]; exact bne_eq_false_iff_eq.2 h.2.2) (decide_eq_true (by rw [Int.toNat_natCast]; exact h.2.1)) (by rw [Int.toNat_natCast]; exact Nat.le_trans h1 (by decide)) (by rw [Int.toNat_natCast]; exact Nat.le_trans h2 (by decide)) ⟨by omega, by omega⟩ rfl⟩
theorem same17_ok : FnOK Try.prog DF 19 same17D := by
  refine fnOK_of gS_ok mixed Try.func19 (enters_of Try.func19 (by kernel_rfl) rfl) ?_
  intro xs r ps h hps
  unfold same17D at h
  split at h
  · rename_i sh x sh' y
    cases hb : (shEq sh fSh && shEq sh' fSh) <;> simp only [hb, cond_true, cond_false] at h
    · cases h
    rw [Bool.and_eq_true] at hb
    obtain rfl := shEq_eq hb.1
    obtain rfl := shEq_eq hb.2
    simp only [Option.some.injEq, Prod.mk.injEq] at h
    obtain ⟨rfl, rfl⟩ := h
    have hx : RowsOK x := hps (RowsOK x) (by simp)
    have hy : RowsOK y := hps (RowsOK y) (by simp)
    have hx1 := hx.1
    by_cases hl : x.length = y.length
    · have hne : (((x.length : Nat) : Int) != ((y.length : Nat) : Int)) = false := by rw [hl]; simp
      by_cases he : x.map canonR = y.map canonR
      · obtain ⟨ps, p1, p2⟩ := ss_yes x y hne (sum_loop gS_ok mixed (c := bodyN Try.f19 0) (fun k => ssSn x y k) x.length (e := .exit 0) (s := ssEnd) rfl (fun k hk => ss_rd hx hy hl hk (canon_at hl he hk)) ⟨_, _, _, ss_exit x y _ (decide_eq_false (by omega))⟩)
        exact ⟨_, 100, _, _, _, fun w vs h => h, p1, p2, fun E v hv => by rw [decide_eq_true he]; exact hv⟩
      · obtain ⟨n, hn, hd, hb⟩ := first_rec hl he
        have h1 := rows_at hx n
        have h2 := rows_at hy n
        have hs : SumOK Try.prog DF (bodyN Try.f19 0) (loopL DF (ssSn x y (0 : Nat)) .ret ssNo) := by
          refine sum_loop gS_ok mixed (c := bodyN Try.f19 0) (fun k => ssSn x y k) n (e := .ret) (s := ssNo) rfl (fun k hk => ss_rd hx hy hl (by omega) (hb k hk)) ?_
          by_cases d1 : recS (x.getD n []) 0 = recS (y.getD n []) 0
          · by_cases d2 : recI (x.getD n []) 2 = recI (y.getD n []) 2
            · by_cases d3 : recW (x.getD n []) 1 = recW (y.getD n []) 1
              · exact (hd (by unfold canonR; rw [d1, d2, d3])).elim
              · exact ⟨_, _, _, ss_data x y n (decide_eq_true (by omega)) (by omega) (by omega) (by omega) (by rw [Int.toNat_natCast, decide_eq_true d1]; rfl) (by rw [Int.toNat_natCast]; exact bne_eq_false_iff_eq.2 d2) (decide_eq_false (by rw [Int.toNat_natCast]; exact d3)) (by rw [Int.toNat_natCast]; exact Nat.le_trans h1 (by decide)) (by rw [Int.toNat_natCast]; exact Nat.le_trans h2 (by decide))⟩
            · exact ⟨_, _, _, ss_safe x y n (decide_eq_true (by omega)) (by omega) (by omega) (by omega) (by rw [Int.toNat_natCast, decide_eq_true d1]; rfl) (by rw [Int.toNat_natCast]; exact bne_iff_ne.2 d2)⟩
          · exact ⟨_, _, _, ss_name x y n (decide_eq_true (by omega)) (by omega) (by omega) (by omega) (by rw [Int.toNat_natCast, decide_eq_false d1]; rfl)⟩
        obtain ⟨ps, p1, p2⟩ := ss_no x y hne hs
        exact ⟨_, 100, _, _, _, fun w vs h => h, p1, p2, fun E v hv => by rw [decide_eq_false he]; exact hv⟩
    · have hne : (((x.length : Nat) : Int) != ((y.length : Nat) : Int)) = true := bne_iff_ne.2 (by omega)
      obtain ⟨ps, p1, p2⟩ := ss_len x y hne
      refine ⟨_, 100, _, _, _, fun w vs h => h, p1, p2, fun E v hv => ?_⟩
      rw [decide_eq_false (fun e => hl (by have := congrArg List.length e; simpa using this))]
      exact hv
  · cases h
noncomputable def copy17R := mkF DF Try.f28.ntmps (fun bs xs => match bs, xs with | [], [.one p] => prsOf p | _, _ => none) (fun x => ([], [.one (.prs fSh x)])) (fun x => some (.v (.one (.own 0)), [imB (x.map canonR)], [RowsOK x]))
theorem copy17_ok : OpOK Try.prog DF 28 (withNew copy17R) := by
  refine opOK_mkR mixed Try.func28 (enters_of Try.func28 (by kernel_rfl) rfl) (fun bs xs t h => by
    split at h
    · rfl
    · cases h) ?_
  intro x r' ns ps h hps
  simp only [Option.some.injEq, Prod.mk.injEq] at h
  obtain ⟨rfl, rfl, rfl⟩ := h
  have hx : RowsOK x := hps (RowsOK x) (by simp)
  have hx1 := hx.1
  refine ⟨_, _, _, gS_ok, cp_run x _ ?_⟩
  have := sum_loop gS_ok mixed (c := bodyN Try.f28 0) (fun k => cpSn x ((x.map canonR).take k) k) x.length (e := .exit 0) (s := cpEnd (x.map canonR)) rfl (fun k hk => ?_) ?_
  · exact this
  · have h1 := rows_at hx k
    have hg : (x.map canonR)[k]? = some (canonR (x.getD k [])) := by
      rw [List.getElem?_map, List.getD_eq_getElem?_getD, List.getElem?_eq_getElem hk]
      rfl
    have hl : ((x.map canonR).take k).length = k := by rw [List.length_take, List.length_map]; omega
    exact ⟨_, _, _, cp_step x _ _ k _ (decide_eq_true (by omega)) (by omega) (by omega) (by rw [Int.toNat_natCast]; exact Nat.le_trans h1 (by decide)) (by rw [hl]; omega) (by rw [hl]; omega) ⟨by omega, by omega⟩ rfl (by rw [List.take_add_one, hg]; rfl)⟩
  · have : (x.map canonR).take x.length = x.map canonR := List.take_of_length_le (by rw [List.length_map]; exact Nat.le_refl _)
    rw [this]
    exact ⟨_, _, _, cp_exit x _ _ (decide_eq_false (by omega))⟩
def FileIn (r : Rec) : Prop := (recS r 0).size ≤ 9223372036854775807 ∧ (recW r 1).length ≤ 140737488351232 ∧ InB (recW r 1) ∧ r = canonR r
end Go.Num
namespace Go.Num
open Go.Abs Go.Proofs Go.Shelf Go.RowKit
abbrev DTv := List Rec × Int × Int × Int × Bool
def dP7 (ll : List Rec) (ro st fu : Int) (dn : Bool) : List (Part DF.τ) := [.prs fSh ll, .int .i64 false ro, .int .i64 false st, .int .i64 false fu, .bool false dn]
def dB7 (ll : List Rec) (ro st fu : Int) (dn : Bool) : BoxSt DF.τ := .fixed 56 (dP7 ll ro st fu dn)
def dV7 (ll : List Rec) (ro st fu : Int) (dn : Bool) : A0 DF.τ := .agg (dP7 ll ro st fu dn)
def dZ7 : BoxSt DF.τ := .fixed 56 [.nil, .int .i64 true 0, .int .i64 true 0, .int .i64 true 0, .bool true false]
def fP7 (s : ByteArray) (l : List Int) (n : Int) : List (Part DF.τ) := [.str s, .pw .u8 l, .int .i64 false n]
def a7Sn (s : ByteArray) (ll : List Rec) (ro st fu : Int) (dn : Bool) (k : Int) : Sn DF.τ where
  slots := [(1, .v (.one (.str s))), (2, .v (.one (.ref 0 0))), (8, .v (.one (.int .i64 false ll.length))), (9, .v (.one (.int .i64 false k)))]
  boxes := [(0, dB7 ll ro st fu dn)]
  nt := 22
def a7Hit (k : Int) : Sn DF.τ where
  slots := [(4, .v (.one (.int .i64 false k)))]
  boxes := []
  nt := 22
def a7End : Sn DF.τ where
  slots := []
  boxes := []
  nt := 22
theorem a7_step (s : ByteArray) (ll : List Rec) (ro st fu : Int) (dn : Bool) (k k' : Int)
 (h1 : ((decide (k < (((List.length ll) : Nat) : Int))) = true))
 (h2 : ((0 : Int) ≤ k))
 (h3 : (k < (((List.length ll) : Nat) : Int)))
 (h4 : ((decide ((recS (List.getD ll (Int.toNat k) ([] : List (Abs.Fd))) (0 : Nat)) = s)) = false))
 (h5 : (InI64 (k + (1 : Int))))
 (h6 : ((k + (1 : Int)) = k')) :
 ∃ ps, stepPs Try.prog DF [] 100 (bodyN Try.f40 0) 100 (a7Sn s ll ro st fu dn k).st [.is true, .is false] .normal (a7Sn s ll ro st fu dn k') = some ps ∧ AllQ ps := ⟨_, by kernel_rfl, qc h1 (qc h2 (qc h3 (qc h4 (qc h5 (qc (Eq.refl s) (qc (Eq.refl ((((List.length ll) : Nat) : Int))) (qc h6 (qc (Eq.refl ll) (qc (Eq.refl ro) (qc (Eq.refl st) (qc (Eq.refl fu) (qc (Eq.refl dn) (qn)))))))))))))⟩
theorem a7_hit (s : ByteArray) (ll : List Rec) (ro st fu : Int) (dn : Bool) (k : Int)
 (h1 : ((decide (k < (((List.length ll) : Nat) : Int))) = true))
 (h2 : ((0 : Int) ≤ k))
 (h3 : (k < (((List.length ll) : Nat) : Int)))
 (h4 : ((decide ((recS (List.getD ll (Int.toNat k) ([] : List (Abs.Fd))) (0 : Nat)) = s)) = true)) :
 ∃ ps, stepPs Try.prog DF [] 100 (bodyN Try.f40 0) 100 (a7Sn s ll ro st fu dn k).st [.is true, .is true] .ret (a7Hit k) = some ps ∧ AllQ ps := ⟨_, by kernel_rfl, qc h1 (qc h2 (qc h3 (qc h4 (qc (Eq.refl k) (qn)))))⟩
theorem a7_exit (s : ByteArray) (ll : List Rec) (ro st fu : Int) (dn : Bool) (k : Int)
 (h1 : ((decide (k < (((List.length ll) : Nat) : Int))) = false)) :
 ∃ ps, stepPs Try.prog DF [] 100 (bodyN Try.f40 0) 100 (a7Sn s ll ro st fu dn k).st [.is false] (.exit 0) a7End = some ps ∧ AllQ ps := ⟨_, by kernel_rfl, qc h1 (qn)⟩
theorem a7_yes (s : ByteArray) (ll : List Rec) (ro st fu : Int) (dn : Bool) (n : Int)
 (h1 : SumOK Try.prog DF (bodyN Try.f40 0) (loopL DF (a7Sn s ll ro st fu dn (0 : Nat)) .ret (a7Hit n))) :
 ∃ ps, runF Try.prog DF [] 100 Try.f40 [dV7 ll ro st fu dn, .one (.str s)] [.loop (loopL DF (a7Sn s ll ro st fu dn (0 : Nat)) .ret (a7Hit n))] = some ((AV.v (A0.one (Part.int Go.IntKind.i64 false n))), ps) ∧ AllQ ps := ⟨_, by kernel_rfl, qc h1 (qc (Eq.refl s) (qc (Eq.refl ((((List.length ll) : Nat) : Int))) (qc (show ((0 : Int) = (((0 : Nat) : Nat) : Int)) from by decide) (qc (Eq.refl ll) (qc (Eq.refl ro) (qc (Eq.refl st) (qc (Eq.refl fu) (qc (Eq.refl dn) (qn)))))))))⟩
theorem a7_no (s : ByteArray) (ll : List Rec) (ro st fu : Int) (dn : Bool)
 (h1 : SumOK Try.prog DF (bodyN Try.f40 0) (loopL DF (a7Sn s ll ro st fu dn (0 : Nat)) (.exit 0) a7End)) :
 ∃ ps, runF Try.prog DF [] 100 Try.f40 [dV7 ll ro st fu dn, .one (.str s)] [.loop (loopL DF (a7Sn s ll ro st fu dn (0 : Nat)) (.exit 0) a7End)] = some ((AV.v (A0.one (Part.int Go.IntKind.i64 true (-(1 : Int))))), ps) ∧ AllQ ps := ⟨_, by kernel_rfl, qc h1 (qc (Eq.refl s) (qc (Eq.refl ((((List.length ll) : Nat) : Int))) (qc (show ((0 : Int) = (((0 : Nat) : Nat) : Int)) from by decide) (qc (Eq.refl ll) (qc (Eq.refl ro) (qc (Eq.refl st) (qc (Eq.refl fu) (qc (Eq.refl dn) (qn)))))))))⟩
def s7Sn (ll : List Rec) (ro st fu : Int) (dn : Bool) (a k : Int) : Sn DF.τ where
  slots := [(1, .v (.one (.ref 0 0))), (3, .v (.one (.int .i64 false a))), (7, .v (.one (.int .i64 false ll.length))), (8, .v (.one (.int .i64 false k)))]
  boxes := [(0, dB7 ll ro st fu dn)]
  nt := 21
def s7End (a : Int) : Sn DF.τ where
  slots := [(3, .v (.one (.int .i64 false a)))]
  boxes := []
  nt := 21
theorem s7_step (ll : List Rec) (ro st fu : Int) (dn : Bool) (a a' k k' : Int)
 (h1 : ((decide (k < (((List.length ll) : Nat) : Int))) = true))
 (h2 : ((0 : Int) ≤ k))
 (h3 : (k < (((List.length ll) : Nat) : Int)))
 (h4 : (InI64 (a + (recI (List.getD ll (Int.toNat k) ([] : List (Abs.Fd))) (((0 : Nat) + (1 : Nat)) + (1 : Nat))))))
 (h5 : (InI64 (k + (1 : Int))))
 (h6 : ((a + (recI (List.getD ll (Int.toNat k) ([] : List (Abs.Fd))) (((0 : Nat) + (1 : Nat)) + (1 : Nat)))) = a'))
 (h7 : ((k + (1 : Int)) = k')) :
 ∃ ps, stepPs Try.prog DF [] 100 (bodyN Try.f30 0) 100 (s7Sn ll ro st fu dn a k).st [.is true] .normal (s7Sn ll ro st fu dn a' k') = some ps ∧ AllQ ps := ⟨_, by kernel_rfl, qc h1 (qc h2 (qc h3 (qc h4 (qc h5 (qc h6 (qc (Eq.refl ((((List.length ll) : Nat) : Int))) (qc h7 (qc (Eq.refl ll) (qc (Eq.refl ro) (qc (Eq.refl st) (qc (Eq.refl fu) (qc (Eq.refl dn) (qn)))))))))))))⟩
theorem s7_exit (ll : List Rec) (ro st fu : Int) (dn : Bool) (a k : Int)
 (h1 : ((decide (k < (((List.length ll) : Nat) : Int))) = false)) :
 ∃ ps, stepPs Try.prog DF [] 100 (bodyN Try.f30 0) 100 (s7Sn ll ro st fu dn a k).st [.is false] (.exit 0) (s7End a) = some ps ∧ AllQ ps := ⟨_, by kernel_rfl, qc h1 (qc (Eq.refl a) (qn))⟩
theorem s7_run (ll : List Rec) (ro st fu : Int) (dn : Bool) (n : Int)
 (h1 : SumOK Try.prog DF (bodyN Try.f30 0) (loopL DF (s7Sn ll ro st fu dn 0 (0 : Nat)) (.exit 0) (s7End n))) :
 ∃ ps, runF Try.prog DF [] 100 Try.f30 [dV7 ll ro st fu dn] [.loop (loopL DF (s7Sn ll ro st fu dn 0 (0 : Nat)) (.exit 0) (s7End n))] = some ((AV.v (A0.one (Part.int Go.IntKind.i64 false n))), ps) ∧ AllQ ps := ⟨_, by kernel_rfl, qc h1 (qc (Eq.refl ((0 : Int))) (qc (Eq.refl ((((List.length ll) : Nat) : Int))) (qc (show ((0 : Int) = (((0 : Nat) : Nat) : Int)) from by decide) (qc (Eq.refl ll) (qc (Eq.refl ro) (qc (Eq.refl st) (qc (Eq.refl fu) (qc (Eq.refl dn) (qn)))))))))⟩
def wo7Sn (ll : List Rec) (s : ByteArray) (out : List Rec) (k : Int) : Sn DF.τ where
  slots := [(0, .v (.one (.prs fSh ll))), (1, .v (.one (.str s))), (5, .v (.one (.own 0))), (9, .v (.one (.int .i64 false ll.length))), (10, .v (.one (.int .i64 false k)))]
  boxes := [(0, imB out)]
  nt := 29
def wo7End (out : List Rec) : Sn DF.τ where
  slots := [(5, .v (.one (.own 0)))]
  boxes := [(0, imB out)]
  nt := 29
theorem wo7_in (ll : List Rec) (s : ByteArray) (out out' : List Rec) (k k' : Int)
 (h1 : ((decide (k < (((List.length ll) : Nat) : Int))) = true))
 (h2 : ((0 : Int) ≤ k))
 (h3 : (k < (((List.length ll) : Nat) : Int)))
 (h4 : ((!(decide ((recS (List.getD ll (Int.toNat k) ([] : List (Abs.Fd))) (0 : Nat)) = s))) = true))
 (h5 : ((((List.length out) + (1 : Nat)) * (48 : Nat)) ≤ (140737488355328 : Nat)))
 (h6 : (((List.length out) + (1 : Nat)) ≤ (9223372036854775807 : Nat)))
 (h7 : (InI64 (k + (1 : Int))))
 (h8 : ((k + (1 : Int)) = k'))
 (h9 : ((out ++ [[(Fd.s (recS (List.getD ll (Int.toNat k) ([] : List (Abs.Fd))) (0 : Nat))), (Fd.w (recW (List.getD ll (Int.toNat k) ([] : List (Abs.Fd))) ((0 : Nat) + (1 : Nat)))), (Fd.i (recI (List.getD ll (Int.toNat k) ([] : List (Abs.Fd))) (((0 : Nat) + (1 : Nat)) + (1 : Nat))))]]) = out')) :
 ∃ ps, stepPs Try.prog DF [] 100 (bodyN Try.f47 0) 100 (wo7Sn ll s out k).st [.is true, .is true] .normal (wo7Sn ll s out' k') = some ps ∧ AllQ ps := ⟨_, by kernel_rfl, qc h1 (qc h2 (qc h3 (qc h4 (qc h2 (qc h3 (qc h5 (qc h6 (qc h7 (qc (Eq.refl ll) (qc (Eq.refl s) (qc (Eq.refl ((((List.length ll) : Nat) : Int))) (qc h8 (qc h9 (qn))))))))))))))⟩
theorem wo7_out (ll : List Rec) (s : ByteArray) (out : List Rec) (k k' : Int)
 (h1 : ((decide (k < (((List.length ll) : Nat) : Int))) = true))
 (h2 : ((0 : Int) ≤ k))
 (h3 : (k < (((List.length ll) : Nat) : Int)))
 (h4 : ((!(decide ((recS (List.getD ll (Int.toNat k) ([] : List (Abs.Fd))) (0 : Nat)) = s))) = false))
 (h5 : (InI64 (k + (1 : Int))))
 (h6 : ((k + (1 : Int)) = k')) :
 ∃ ps, stepPs Try.prog DF [] 100 (bodyN Try.f47 0) 100 (wo7Sn ll s out k).st [.is true, .is false] .normal (wo7Sn ll s out k') = some ps ∧ AllQ ps := ⟨_, by kernel_rfl, qc h1 (qc h2 (qc h3 (qc h4 (qc h5 (qc (Eq.refl ll) (qc (Eq.refl s) (qc (Eq.refl ((((List.length ll) : Nat) : Int))) (qc h6 (qc (Eq.refl out) (qn))))))))))⟩
theorem wo7_exit (ll : List Rec) (s : ByteArray) (out : List Rec) (k : Int)
 (h1 : ((decide (k < (((List.length ll) : Nat) : Int))) = false)) :
 ∃ ps, stepPs Try.prog DF [] 100 (bodyN Try.f47 0) 100 (wo7Sn ll s out k).st [.is false] (.exit 0) (wo7End out) = some ps ∧ AllQ ps := ⟨_, by kernel_rfl, qc h1 (qc (Eq.refl out) (qn))⟩
theorem wo7_run (ll : List Rec) (s : ByteArray) (rs : List Rec)
 (h1 : SumOK Try.prog DF (bodyN Try.f47 0) (loopL DF (wo7Sn ll s [] (0 : Nat)) (.exit 0) (wo7End rs))) :
 ∃ ps, runO Try.prog DF [] 100 Try.f47 ([], [.one (.prs fSh ll), .one (.str s)]) [.loop (loopL DF (wo7Sn ll s [] (0 : Nat)) (.exit 0) (wo7End rs))] (.v (.one (.own 0))) [imB rs] = some ps ∧ AllQ ps := ⟨_, by kernel_rfl, qc h1 (qc (Eq.refl ll) (qc (Eq.refl s) (qc (Eq.refl ((((List.length ll) : Nat) : Int))) (qc (show ((0 : Int) = (((0 : Nat) : Nat) : Int)) from by decide) (qc (Eq.refl (([] : List (Rec)))) (qc (Eq.refl rs) (qn)))))))⟩
def wi7Sn (ll : List Rec) (s : ByteArray) (l : List Int) (n : Int) (out : List Rec) (done : Bool) (k : Int) : Sn DF.τ where
  slots := [(0, .v (.one (.prs fSh ll))), (3, .v (.one (.ref 1 0))), (5, .v (.one (.own 0))), (6, .v (.one (.bool false done))), (10, .v (.one (.int .i64 false ll.length))), (11, .v (.one (.int .i64 false k)))]
  boxes := [(0, imB out), (1, .fixed 46 (fP7 s l n))]
  nt := 53
def wi7End (s : ByteArray) (l : List Int) (n : Int) (out : List Rec) (done : Bool) : Sn DF.τ where
  slots := [(3, .v (.one (.ref 1 0))), (5, .v (.one (.own 0))), (6, .v (.one (.bool false done)))]
  boxes := [(0, imB out), (1, .fixed 46 (fP7 s l n))]
  nt := 53
theorem wi7_tt (ll : List Rec) (s : ByteArray) (l : List Int) (n : Int) (out out' : List Rec) (done : Bool) (k k' : Int)
 (h1 : ((decide (k < (((List.length ll) : Nat) : Int))) = true))
 (h2 : (done = true))
 (h3 : ((0 : Int) ≤ k))
 (h4 : (k < (((List.length ll) : Nat) : Int)))
 (h5 : ((!(decide ((recS (List.getD ll (Int.toNat k) ([] : List (Abs.Fd))) (0 : Nat)) = s))) = true))
 (h6 : ((((List.length out) + (1 : Nat)) * (48 : Nat)) ≤ (140737488355328 : Nat)))
 (h7 : (((List.length out) + (1 : Nat)) ≤ (9223372036854775807 : Nat)))
 (h8 : (InI64 (k + (1 : Int))))
 (h9 : ((k + (1 : Int)) = k'))
 (h10 : ((out ++ [[(Fd.s (recS (List.getD ll (Int.toNat k) ([] : List (Abs.Fd))) (0 : Nat))), (Fd.w (recW (List.getD ll (Int.toNat k) ([] : List (Abs.Fd))) ((0 : Nat) + (1 : Nat)))), (Fd.i (recI (List.getD ll (Int.toNat k) ([] : List (Abs.Fd))) (((0 : Nat) + (1 : Nat)) + (1 : Nat))))]]) = out')) :
 ∃ ps, stepPs Try.prog DF [] 100 (bodyN Try.f41 0) 100 (wi7Sn ll s l n out done k).st [.is true, .is true, .is true] .normal (wi7Sn ll s l n out' done k') = some ps ∧ AllQ ps := ⟨_, by kernel_rfl, qc h1 (qc h2 (qc h3 (qc h4 (qc h5 (qc h3 (qc h4 (qc h6 (qc h7 (qc h8 (qc (Eq.refl ll) (qc (Eq.refl done) (qc (Eq.refl ((((List.length ll) : Nat) : Int))) (qc h9 (qc h10 (qc (Eq.refl s) (qc (Eq.refl l) (qc (Eq.refl n) (qn))))))))))))))))))⟩
theorem wi7_tf (ll : List Rec) (s : ByteArray) (l : List Int) (n : Int) (out out' : List Rec) (done : Bool) (k k' : Int)
 (h1 : ((decide (k < (((List.length ll) : Nat) : Int))) = true))
 (h2 : (done = true))
 (h3 : ((0 : Int) ≤ k))
 (h4 : (k < (((List.length ll) : Nat) : Int)))
 (h5 : ((!(decide ((recS (List.getD ll (Int.toNat k) ([] : List (Abs.Fd))) (0 : Nat)) = s))) = false))
 (h6 : (InI64 (k + (1 : Int))))
 (h7 : ((k + (1 : Int)) = k'))
 (h8 : (out = out')) :
 ∃ ps, stepPs Try.prog DF [] 100 (bodyN Try.f41 0) 100 (wi7Sn ll s l n out done k).st [.is true, .is true, .is false] .normal (wi7Sn ll s l n out' done k') = some ps ∧ AllQ ps := ⟨_, by kernel_rfl, qc h1 (qc h2 (qc h3 (qc h4 (qc h5 (qc h6 (qc (Eq.refl ll) (qc (Eq.refl done) (qc (Eq.refl ((((List.length ll) : Nat) : Int))) (qc h7 (qc h8 (qc (Eq.refl s) (qc (Eq.refl l) (qc (Eq.refl n) (qn))))))))))))))⟩
theorem wi7_ftt (ll : List Rec) (s : ByteArray) (l : List Int) (n : Int) (out out' : List Rec) (done done' : Bool) (k k' : Int)
 (h1 : ((decide (k < (((List.length ll) : Nat) : Int))) = true))
 (h2 : (done = false))
 (h3 : ((0 : Int) ≤ k))
 (h4 : (k < (((List.length ll) : Nat) : Int)))
 (h5 : ((!(strLt (recS (List.getD ll (Int.toNat k) ([] : List (Abs.Fd))) (0 : Nat)) s)) = true))
 (h6 : ((((List.length out) + (1 : Nat)) * (48 : Nat)) ≤ (140737488355328 : Nat)))
 (h7 : (((List.length out) + (1 : Nat)) ≤ (9223372036854775807 : Nat)))
 (h8 : ((!(decide ((recS (List.getD ll (Int.toNat k) ([] : List (Abs.Fd))) (0 : Nat)) = s))) = true))
 (h9 : ((((List.length (out ++ [[(Fd.s s), (Fd.w l), (Fd.i n)]])) + (1 : Nat)) * (48 : Nat)) ≤ (140737488355328 : Nat)))
 (h10 : (((List.length (out ++ [[(Fd.s s), (Fd.w l), (Fd.i n)]])) + (1 : Nat)) ≤ (9223372036854775807 : Nat)))
 (h11 : (InI64 (k + (1 : Int))))
 (h12 : (true = done'))
 (h13 : ((k + (1 : Int)) = k'))
 (h14 : (((out ++ [[(Fd.s s), (Fd.w l), (Fd.i n)]]) ++ [[(Fd.s (recS (List.getD ll (Int.toNat k) ([] : List (Abs.Fd))) (0 : Nat))), (Fd.w (recW (List.getD ll (Int.toNat k) ([] : List (Abs.Fd))) ((0 : Nat) + (1 : Nat)))), (Fd.i (recI (List.getD ll (Int.toNat k) ([] : List (Abs.Fd))) (((0 : Nat) + (1 : Nat)) + (1 : Nat))))]]) = out')) :
 ∃ ps, stepPs Try.prog DF [] 100 (bodyN Try.f41 0) 100 (wi7Sn ll s l n out done k).st [.is true, .is false, .is true, .is true] .normal (wi7Sn ll s l n out' done' k') = some ps ∧ AllQ ps := ⟨_, by kernel_rfl, qc h1 (qc h2 (qc h3 (qc h4 (qc h5 (qc h6 (qc h7 (qc h3 (qc h4 (qc h8 (qc h3 (qc h4 (qc h9 (qc h10 (qc h11 (qc (Eq.refl ll) (qc h12 (qc (Eq.refl ((((List.length ll) : Nat) : Int))) (qc h13 (qc h14 (qc (Eq.refl s) (qc (Eq.refl l) (qc (Eq.refl n) (qn)))))))))))))))))))))))⟩
theorem wi7_ftf (ll : List Rec) (s : ByteArray) (l : List Int) (n : Int) (out out' : List Rec) (done done' : Bool) (k k' : Int)
 (h1 : ((decide (k < (((List.length ll) : Nat) : Int))) = true))
 (h2 : (done = false))
 (h3 : ((0 : Int) ≤ k))
 (h4 : (k < (((List.length ll) : Nat) : Int)))
 (h5 : ((!(strLt (recS (List.getD ll (Int.toNat k) ([] : List (Abs.Fd))) (0 : Nat)) s)) = true))
 (h6 : ((((List.length out) + (1 : Nat)) * (48 : Nat)) ≤ (140737488355328 : Nat)))
 (h7 : (((List.length out) + (1 : Nat)) ≤ (9223372036854775807 : Nat)))
 (h8 : ((!(decide ((recS (List.getD ll (Int.toNat k) ([] : List (Abs.Fd))) (0 : Nat)) = s))) = false))
 (h9 : (InI64 (k + (1 : Int))))
 (h10 : (true = done'))
 (h11 : ((k + (1 : Int)) = k'))
 (h12 : ((out ++ [[(Fd.s s), (Fd.w l), (Fd.i n)]]) = out')) :
 ∃ ps, stepPs Try.prog DF [] 100 (bodyN Try.f41 0) 100 (wi7Sn ll s l n out done k).st [.is true, .is false, .is true, .is false] .normal (wi7Sn ll s l n out' done' k') = some ps ∧ AllQ ps := ⟨_, by kernel_rfl, qc h1 (qc h2 (qc h3 (qc h4 (qc h5 (qc h6 (qc h7 (qc h3 (qc h4 (qc h8 (qc h9 (qc (Eq.refl ll) (qc h10 (qc (Eq.refl ((((List.length ll) : Nat) : Int))) (qc h11 (qc h12 (qc (Eq.refl s) (qc (Eq.refl l) (qc (Eq.refl n) (qn)))))))))))))))))))⟩
theorem wi7_fft (ll : List Rec) (s : ByteArray) (l : List Int) (n : Int) (out out' : List Rec) (done : Bool) (k k' : Int)
 (h1 : ((decide (k < (((List.length ll) : Nat) : Int))) = true))
 (h2 : (done = false))
 (h3 : ((0 : Int) ≤ k))
 (h4 : (k < (((List.length ll) : Nat) : Int)))
 (h5 : ((!(strLt (recS (List.getD ll (Int.toNat k) ([] : List (Abs.Fd))) (0 : Nat)) s)) = false))
 (h6 : ((!(decide ((recS (List.getD ll (Int.toNat k) ([] : List (Abs.Fd))) (0 : Nat)) = s))) = true))
 (h7 : ((((List.length out) + (1 : Nat)) * (48 : Nat)) ≤ (140737488355328 : Nat)))
 (h8 : (((List.length out) + (1 : Nat)) ≤ (9223372036854775807 : Nat)))
 (h9 : (InI64 (k + (1 : Int))))
 (h10 : ((k + (1 : Int)) = k'))
 (h11 : ((out ++ [[(Fd.s (recS (List.getD ll (Int.toNat k) ([] : List (Abs.Fd))) (0 : Nat))), (Fd.w (recW (List.getD ll (Int.toNat k) ([] : List (Abs.Fd))) ((0 : Nat) + (1 : Nat)))), (Fd.i (recI (List.getD ll (Int.toNat k) ([] : List (Abs.Fd))) (((0 : Nat) + (1 : Nat)) + (1 : Nat))))]]) = out')) :
 ∃ ps, stepPs Try.prog DF [] 100 (bodyN Try.f41 0) 100 (wi7Sn ll s l n out done k).st [.is true, .is false, .is false, .is true] .normal (wi7Sn ll s l n out' done k') = some ps ∧ AllQ ps := ⟨_, by kernel_rfl, qc h1 (qc h2 (qc h3 (qc h4 (qc h5 (qc h3 (qc h4 (qc h6 (qc h3 (qc h4 (qc h7 (qc h8 (qc h9 (qc (Eq.refl ll) (qc (Eq.refl done) (qc (Eq.refl ((((List.length ll) : Nat) : Int))) (qc h10 (qc h11 (qc (Eq.refl s) (qc (Eq.refl l) (qc (Eq.refl n) (qn)))))))))))))))))))))⟩
theorem wi7_fff (ll : List Rec) (s : ByteArray) (l : List Int) (n : Int) (out out' : List Rec) (done : Bool) (k k' : Int)
 (h1 : ((decide (k < (((List.length ll) : Nat) : Int))) = true))
 (h2 : (done = false))
 (h3 : ((0 : Int) ≤ k))
 (h4 : (k < (((List.length ll) : Nat) : Int)))
 (h5 : ((!(strLt (recS (List.getD ll (Int.toNat k) ([] : List (Abs.Fd))) (0 : Nat)) s)) = false))
 (h6 : ((!(decide ((recS (List.getD ll (Int.toNat k) ([] : List (Abs.Fd))) (0 : Nat)) = s))) = false))
 (h7 : (InI64 (k + (1 : Int))))
 (h8 : ((k + (1 : Int)) = k'))
 (h9 : (out = out')) :
 ∃ ps, stepPs Try.prog DF [] 100 (bodyN Try.f41 0) 100 (wi7Sn ll s l n out done k).st [.is true, .is false, .is false, .is false] .normal (wi7Sn ll s l n out' done k') = some ps ∧ AllQ ps := ⟨_, by kernel_rfl, qc h1 (qc h2 (qc h3 (qc h4 (qc h5 (qc h3 (qc h4 (qc h6 (qc h7 (qc (Eq.refl ll) (qc (Eq.refl done) (qc (Eq.refl ((((List.length ll) : Nat) : Int))) (qc h8 (qc h9 (qc (Eq.refl s) (qc (Eq.refl l) (qc (Eq.refl n) (qn)))))))))))))))))⟩
theorem wi7_exit (ll : List Rec) (s : ByteArray) (l : List Int) (n : Int) (out : List Rec) (done : Bool) (k : Int)
 (h1 : ((decide (k < (((List.length ll) : Nat) : Int))) = false)) :
 ∃ ps, stepPs Try.prog DF [] 100 (bodyN Try.f41 0) 100 (wi7Sn ll s l n out done k).st [.is false] (.exit 0) (wi7End s l n out done) = some ps ∧ AllQ ps := ⟨_, by kernel_rfl, qc h1 (qc (Eq.refl done) (qc (Eq.refl out) (qc (Eq.refl s) (qc (Eq.refl l) (qc (Eq.refl n) (qn))))))⟩
theorem wi7_rt (ll : List Rec) (s : ByteArray) (l : List Int) (n : Int) (out rs : List Rec) (done : Bool)
 (h1 : SumOK Try.prog DF (bodyN Try.f41 0) (loopL DF (wi7Sn ll s l n [] false (0 : Nat)) (.exit 0) (wi7End s l n out done)))
 (h2 : (done = true))
 (h3 : (out = rs)) :
 ∃ ps, runO Try.prog DF [] 100 Try.f41 ([], [.one (.prs fSh ll), .agg (fP7 s l n)]) [.loop (loopL DF (wi7Sn ll s l n [] false (0 : Nat)) (.exit 0) (wi7End s l n out done)), .is true] (.v (.one (.own 0))) [imB rs] = some ps ∧ AllQ ps := ⟨_, by kernel_rfl, qc h1 (qc (Eq.refl ll) (qc (Eq.refl false) (qc (Eq.refl ((((List.length ll) : Nat) : Int))) (qc (show ((0 : Int) = (((0 : Nat) : Nat) : Int)) from by decide) (qc (Eq.refl (([] : List (Rec)))) (qc (Eq.refl s) (qc (Eq.refl l) (qc (Eq.refl n) (qc h2 (qc h3 (qn)))))))))))⟩
theorem wi7_rf (ll : List Rec) (s : ByteArray) (l : List Int) (n : Int) (out rs : List Rec) (done : Bool)
 (h1 : SumOK Try.prog DF (bodyN Try.f41 0) (loopL DF (wi7Sn ll s l n [] false (0 : Nat)) (.exit 0) (wi7End s l n out done)))
 (h2 : (done = false))
 (h3 : ((((List.length out) + (1 : Nat)) * (48 : Nat)) ≤ (140737488355328 : Nat)))
 (h4 : (((List.length out) + (1 : Nat)) ≤ (9223372036854775807 : Nat)))
 (h5 : ((out ++ [[(Fd.s s), (Fd.w l), (Fd.i n)]]) = rs)) :
 ∃ ps, runO Try.prog DF [] 100 Try.f41 ([], [.one (.prs fSh ll), .agg (fP7 s l n)]) [.loop (loopL DF (wi7Sn ll s l n [] false (0 : Nat)) (.exit 0) (wi7End s l n out done)), .is false] (.v (.one (.own 0))) [imB rs] = some ps ∧ AllQ ps := ⟨_, by kernel_rfl, qc h1 (qc (Eq.refl ll) (qc (Eq.refl false) (qc (Eq.refl ((((List.length ll) : Nat) : Int))) (qc (show ((0 : Int) = (((0 : Nat) : Nat) : Int)) from by decide) (qc (Eq.refl (([] : List (Rec)))) (qc (Eq.refl s) (qc (Eq.refl l) (qc (Eq.refl n) (qc h2 (qc h3 (qc h4 (qc h5 (qn)))))))))))))⟩
theorem n7_neg (n ro : Int)
 (h1 : ((decide (n < (0 : Int))) = true))
 (h2 : ((0 : Int) = ro)) :
 ∃ ps, runO Try.prog DF [] 100 Try.f38 ([], [.one (.int .i64 false n)]) [.is true] (.v (dV7 [] ro 0 0 false)) [] = some ps ∧ AllQ ps := ⟨_, by kernel_rfl, qc h1 (qc (Eq.refl (([] : List (Rec)))) (qc h2 (qc (Eq.refl ((0 : Int))) (qc (Eq.refl ((0 : Int))) (qc (Eq.refl false) (qn))))))⟩
theorem n7_big (n ro : Int)
 (h1 : ((decide (n < (0 : Int))) = false))
 (h2 : ((decide (n > (4194304 : Int))) = true))
 (h3 : ((4194304 : Int) = ro)) :
 ∃ ps, runO Try.prog DF [] 100 Try.f38 ([], [.one (.int .i64 false n)]) [.is false, .is true] (.v (dV7 [] ro 0 0 false)) [] = some ps ∧ AllQ ps := ⟨_, by kernel_rfl, qc h1 (qc h2 (qc (Eq.refl (([] : List (Rec)))) (qc h3 (qc (Eq.refl ((0 : Int))) (qc (Eq.refl ((0 : Int))) (qc (Eq.refl false) (qn)))))))⟩
theorem n7_mid (n ro : Int)
 (h1 : ((decide (n < (0 : Int))) = false))
 (h2 : ((decide (n > (4194304 : Int))) = false))
 (h3 : (n = ro)) :
 ∃ ps, runO Try.prog DF [] 100 Try.f38 ([], [.one (.int .i64 false n)]) [.is false, .is false] (.v (dV7 [] ro 0 0 false)) [] = some ps ∧ AllQ ps := ⟨_, by kernel_rfl, qc h1 (qc h2 (qc (Eq.refl (([] : List (Rec)))) (qc h3 (qc (Eq.refl ((0 : Int))) (qc (Eq.refl ((0 : Int))) (qc (Eq.refl false) (qn)))))))⟩
def atF : List Rec → ByteArray → Int
  | [], _ => -1
  | r :: ll, s => if recS r 0 = s then 0 else if atF ll s < 0 then -1 else atF ll s + 1
def safeF (ll : List Rec) : Int := (ll.map fun r => recI r 2).sum
def woF (ll : List Rec) (s : ByteArray) : List Rec := (ll.filter fun r => !decide (recS r 0 = s)).map canonR
def wiS (s : ByteArray) (l : List Int) (n : Int) (x : List Rec × Bool) (r : Rec) : List Rec × Bool :=
  if x.2 = false ∧ strLt (recS r 0) s = false then (if recS r 0 = s then x.1 ++ [[Fd.s s, Fd.w l, Fd.i n]] else (x.1 ++ [[Fd.s s, Fd.w l, Fd.i n]]) ++ [canonR r], true)
  else (if recS r 0 = s then x.1 else x.1 ++ [canonR r], x.2)
def wiG (ll : List Rec) (s : ByteArray) (l : List Int) (n : Int) : List Rec × Bool := ll.foldl (wiS s l n) ([], false)
def wiF (ll : List Rec) (s : ByteArray) (l : List Int) (n : Int) : List Rec := if (wiG ll s l n).2 = true then (wiG ll s l n).1 else (wiG ll s l n).1 ++ [[Fd.s s, Fd.w l, Fd.i n]]
def Row7 (ll : List Rec) : Prop := ll.length ≤ 1000 ∧ ∀ r ∈ ll, 0 ≤ recI r 2 ∧ recI r 2 ≤ 140737488355328 ∧ (recW r 1).length ≤ 140737488355328
theorem at_cases : ∀ (ll : List Rec) (s : ByteArray), (∃ n : Nat, n < ll.length ∧ recS (ll.getD n []) 0 = s ∧ (∀ k, k < n → recS (ll.getD k []) 0 ≠ s) ∧ atF ll s = (n : Int)) ∨ ((∀ k, k < ll.length → recS (ll.getD k []) 0 ≠ s) ∧ atF ll s = -1)
  | [], s => Or.inr ⟨fun k hk => absurd hk (Nat.not_lt_zero k), rfl⟩
  | r :: ll, s => by
    by_cases h : recS r 0 = s
    · left
      exact ⟨0, Nat.succ_pos _, by simpa using h, fun k hk => absurd hk (Nat.not_lt_zero k), by unfold atF; rw [if_pos h]; rfl⟩
    · rcases at_cases ll s with ⟨n, h1, h2, h3, h4⟩ | ⟨h1, h2⟩
      · left
        refine ⟨n + 1, Nat.succ_lt_succ h1, by simpa using h2, fun k hk => ?_, ?_⟩
        · cases k with
          | zero => simpa using h
          | succ k => simpa using h3 k (by omega)
        · unfold atF
          rw [if_neg h, if_neg (by omega), h4]
          omega
      · right
        refine ⟨fun k hk => ?_, by unfold atF; rw [if_neg h, if_pos (by omega)]⟩
        cases k with
        | zero => simpa using h
        | succ k => simpa using h1 k (by simpa using hk)
def at7D : FnD DF
  | [.agg [.prs sh ll, .int .i64 _ _, .int .i64 _ _, .int .i64 _ _, .bool _ _], .one (.str s)] => bif shEq sh fSh then some (.v (.one (.int .i64 false (atF ll s))), [ll.length ≤ 1000]) else none
  | _ => none
theorem at7_ok : FnOK Try.prog DF 40 at7D := by
  refine fnOK_of gam_nil mixed Try.func40 (enters_of Try.func40 (by kernel_rfl) rfl) ?_
  intro xs r ps h hps
  unfold at7D at h
  split at h
  · rename_i sh ll b1 ro b2 st b3 fu b4 dn s
    cases hb : shEq sh fSh <;> simp only [hb, cond_true, cond_false] at h
    · cases h
    obtain rfl := shEq_eq hb
    simp only [Option.some.injEq, Prod.mk.injEq] at h
    obtain ⟨rfl, rfl⟩ := h
    have hx : ll.length ≤ 1000 := hps (ll.length ≤ 1000) (by simp)
    have hst : ∀ k : Nat, k < ll.length → recS (ll.getD k []) 0 ≠ s → ∃ fuel nid ds ps, stepPs Try.prog DF [] fuel (bodyN Try.f40 0) nid (a7Sn s ll ro st fu dn k).st ds .normal (a7Sn s ll ro st fu dn ((k + 1 : Nat) : Int)) = some ps ∧ AllQ ps := fun k hk hn =>
      ⟨_, _, _, a7_step s ll ro st fu dn k _ (decide_eq_true (by omega)) (by omega) (by omega) (decide_eq_false (by rw [Int.toNat_natCast]; exact hn)) ⟨by omega, by omega⟩ rfl⟩
    rcases at_cases ll s with ⟨n, h1, h2, h3, h4⟩ | ⟨h1, h2⟩
    · obtain ⟨ps, p1, p2⟩ := a7_yes s ll ro st fu dn n (sum_loop gam_nil mixed (c := bodyN Try.f40 0) (fun k => a7Sn s ll ro st fu dn k) n (e := .ret) (s := a7Hit n) rfl (fun k hk => hst k (by omega) (h3 k hk))
        ⟨_, _, _, a7_hit s ll ro st fu dn n (decide_eq_true (by omega)) (by omega) (by omega) (decide_eq_true (by rw [Int.toNat_natCast]; exact h2))⟩)
      exact ⟨[dV7 ll ro st fu dn, .one (.str s)], 100, _, _, _, fun w vs h => h, p1, p2, fun E v hv => by rw [h4]; exact hv⟩
    · obtain ⟨ps, p1, p2⟩ := a7_no s ll ro st fu dn (sum_loop gam_nil mixed (c := bodyN Try.f40 0) (fun k => a7Sn s ll ro st fu dn k) ll.length (e := .exit 0) (s := a7End) rfl (fun k hk => hst k hk (h1 k hk))
        ⟨_, _, _, a7_exit s ll ro st fu dn _ (decide_eq_false (by omega))⟩)
      exact ⟨[dV7 ll ro st fu dn, .one (.str s)], 100, _, _, _, fun w vs h => h, p1, p2, fun E v hv => by rw [h2]; exact hv⟩
  · cases h
theorem safeF_snoc (ll : List Rec) {k : Nat} (hk : k < ll.length) : safeF (ll.take (k + 1)) = safeF (ll.take k) + recI (ll.getD k []) 2 := by
  unfold safeF
  rw [List.take_add_one, List.getElem?_eq_getElem hk, List.map_append, List.sum_append, List.getD_eq_getElem?_getD, List.getElem?_eq_getElem hk]
  simp
theorem safeF_le {ll : List Rec} (h : ∀ r ∈ ll, 0 ≤ recI r 2 ∧ recI r 2 ≤ 140737488355328 ∧ (recW r 1).length ≤ 140737488355328) : 0 ≤ safeF ll ∧ safeF ll ≤ 140737488355328 * (ll.length : Int) := by
  induction ll with
  | nil => exact ⟨by decide, by decide⟩
  | cons r ll ih =>
    have h1 := h r (List.mem_cons_self ..)
    have h2 := ih (fun q hq => h q (List.mem_cons_of_mem _ hq))
    have h3 : safeF (r :: ll) = recI r 2 + safeF ll := by unfold safeF; rw [List.map_cons, List.sum_cons]
    rw [h3, List.length_cons]
    omega
theorem Row7.take {ll : List Rec} (h : Row7 ll) (k : Nat) : Row7 (ll.take k) := ⟨by rw [List.length_take]; have := h.1; omega, fun r hr => h.2 r (List.mem_of_mem_take hr)⟩
theorem Row7.at {ll : List Rec} (h : Row7 ll) (k : Nat) : 0 ≤ recI (ll.getD k []) 2 ∧ recI (ll.getD k []) 2 ≤ 140737488355328 ∧ (recW (ll.getD k []) 1).length ≤ 140737488355328 := by
  by_cases hk : k < ll.length
  · rw [List.getD_eq_getElem?_getD, List.getElem?_eq_getElem hk]
    exact h.2 _ (List.getElem_mem hk)
  · rw [List.getD_eq_getElem?_getD, List.getElem?_eq_none (by omega)]
    exact ⟨Int.le_refl _, by decide, Nat.zero_le _⟩
theorem Row7.safe {ll : List Rec} (h : Row7 ll) : 0 ≤ safeF ll ∧ safeF ll ≤ 140737488355328000 := by
  have h1 := safeF_le h.2
  have h2 := h.1
  omega
def safe7D : FnD DF
  | [.agg [.prs sh ll, .int .i64 _ _, .int .i64 _ _, .int .i64 _ _, .bool _ _]] => bif shEq sh fSh then some (.v (.one (.int .i64 false (safeF ll))), [Row7 ll]) else none
  | _ => none
theorem safe7_ok : FnOK Try.prog DF 30 safe7D := by
  refine fnOK_of gam_nil mixed Try.func30 (enters_of Try.func30 (by kernel_rfl) rfl) ?_
  intro xs r ps h hps
  unfold safe7D at h
  split at h
  · rename_i sh ll b1 ro b2 st b3 fu b4 dn
    cases hb : shEq sh fSh <;> simp only [hb, cond_true, cond_false] at h
    · cases h
    obtain rfl := shEq_eq hb
    simp only [Option.some.injEq, Prod.mk.injEq] at h
    obtain ⟨rfl, rfl⟩ := h
    have hx : Row7 ll := hps (Row7 ll) (by simp)
    have hl := hx.1
    have ht : safeF ll = safeF (ll.take ll.length) := by rw [List.take_length]
    obtain ⟨ps, p1, p2⟩ := s7_run ll ro st fu dn (safeF (ll.take ll.length)) (sum_loop gam_nil mixed (c := bodyN Try.f30 0) (fun k => s7Sn ll ro st fu dn (safeF (ll.take k)) k) ll.length (e := .exit 0) (s := s7End (safeF (ll.take ll.length))) rfl (fun k hk => by
        have h1 := (hx.take k).safe
        have h2 := hx.at k
        exact ⟨_, _, _, s7_step ll ro st fu dn _ _ k _ (decide_eq_true (by omega)) (by omega) (by omega) (by rw [Int.toNat_natCast]; show InI64 (safeF (ll.take k) + recI (ll.getD k []) 2); exact ⟨by omega, by omega⟩) ⟨by omega, by omega⟩ (by rw [Int.toNat_natCast]; exact (safeF_snoc ll hk).symm) rfl⟩)
      ⟨_, _, _, s7_exit ll ro st fu dn _ _ (decide_eq_false (by omega))⟩)
    exact ⟨[dV7 ll ro st fu dn], 100, _, _, _, fun w vs h => h, p1, p2, fun E v hv => by rw [ht]; exact hv⟩
  · cases h
theorem woF_snoc (ll : List Rec) (s : ByteArray) {k : Nat} (hk : k < ll.length) : woF (ll.take (k + 1)) s = if recS (ll.getD k []) 0 = s then woF (ll.take k) s else woF (ll.take k) s ++ [canonR (ll.getD k [])] := by
  unfold woF
  rw [List.take_add_one, List.getElem?_eq_getElem hk, List.filter_append, List.map_append, List.getD_eq_getElem?_getD, List.getElem?_eq_getElem hk]
  simp only [Option.toList_some, Option.getD_some, List.filter_cons, List.filter_nil]
  by_cases h : recS ll[k] 0 = s
  · simp [h]
  · simp [h]
theorem woF_len (ll : List Rec) (s : ByteArray) : (woF ll s).length ≤ ll.length := by
  unfold woF
  rw [List.length_map]
  exact List.length_filter_le ..
noncomputable def wo7R := mkF DF Try.f47.ntmps (fun bs xs => match bs, xs with | [], [.one p, .one (.str s)] => (prsOf p).map (·, s) | _, _ => none) (fun x => ([], [.one (.prs fSh x.1), .one (.str x.2)])) (fun x => some (.v (.one (.own 0)), [imB (woF x.1 x.2)], [x.1.length ≤ 1000]))
theorem wo7_ok : OpOK Try.prog DF 47 (withNew wo7R) := by
  refine opOK_mkR mixed Try.func47 (enters_of Try.func47 (by kernel_rfl) rfl) (fun bs xs t h => by
    split at h
    · rfl
    · cases h) ?_
  rintro ⟨ll, s⟩ r' ns ps h hps
  simp only [Option.some.injEq, Prod.mk.injEq] at h
  obtain ⟨rfl, rfl, rfl⟩ := h
  have hx : ll.length ≤ 1000 := hps (ll.length ≤ 1000) (by simp)
  refine ⟨_, _, _, gam_nil, wo7_run ll s _ ?_⟩
  have ht : woF ll s = woF (ll.take ll.length) s := by rw [List.take_length]
  rw [ht]
  refine sum_loop gam_nil mixed (c := bodyN Try.f47 0) (fun k => wo7Sn ll s (woF (ll.take k) s) k) ll.length (e := .exit 0) (s := wo7End (woF (ll.take ll.length) s)) rfl (fun k hk => ?_) ⟨_, _, _, wo7_exit ll s _ _ (decide_eq_false (by omega))⟩
  have hsn := woF_snoc ll s hk
  have hln := woF_len (ll.take k) s
  rw [List.length_take] at hln
  by_cases h : recS (ll.getD k []) 0 = s
  · rw [if_pos h] at hsn
    rw [hsn]
    exact ⟨_, _, _, wo7_out ll s _ k _ (decide_eq_true (by omega)) (by omega) (by omega) (by rw [Int.toNat_natCast, decide_eq_true h]; rfl) ⟨by omega, by omega⟩ rfl⟩
  · rw [if_neg h] at hsn
    exact ⟨_, _, _, wo7_in ll s _ _ k _ (decide_eq_true (by omega)) (by omega) (by omega) (by rw [Int.toNat_natCast, decide_eq_false h]; rfl) (by omega) (by omega) ⟨by omega, by omega⟩ rfl (by rw [Int.toNat_natCast]; exact hsn.symm)⟩
theorem wiG_snoc (ll : List Rec) (s : ByteArray) (l : List Int) (n : Int) {k : Nat} (hk : k < ll.length) : wiG (ll.take (k + 1)) s l n = wiS s l n (wiG (ll.take k) s l n) (ll.getD k []) := by
  unfold wiG
  rw [List.take_add_one, List.getElem?_eq_getElem hk, List.foldl_append, List.getD_eq_getElem?_getD, List.getElem?_eq_getElem hk]
  rfl
theorem wiS_len (s : ByteArray) (l : List Int) (n : Int) (x : List Rec × Bool) (r : Rec) : (wiS s l n x r).1.length ≤ x.1.length + 2 := by
  unfold wiS
  split <;> split <;> simp <;> omega
theorem wiG_len (ll : List Rec) (s : ByteArray) (l : List Int) (n : Int) : ∀ k, k ≤ ll.length → (wiG (ll.take k) s l n).1.length ≤ 2 * k
  | 0, _ => by simp [wiG]
  | k + 1, hk => by
    rw [wiG_snoc ll s l n (by omega)]
    have h1 := wiG_len ll s l n k (by omega)
    have h2 := wiS_len s l n (wiG (ll.take k) s l n) (ll.getD k [])
    omega
noncomputable def wi7R := mkF DF Try.f41.ntmps (fun bs xs => match bs, xs with | [], [.one p, .agg [.str s, .pw .u8 l, .int .i64 _ n]] => (prsOf p).map (·, s, l, n) | _, _ => none) (fun x => ([], [.one (.prs fSh x.1), .agg (fP7 x.2.1 x.2.2.1 x.2.2.2)])) (fun x => some (.v (.one (.own 0)), [imB (wiF x.1 x.2.1 x.2.2.1 x.2.2.2)], [x.1.length ≤ 1000]))
theorem wi7_ok : OpOK Try.prog DF 41 (withNew wi7R) := by
  refine opOK_mkR mixed Try.func41 (enters_of Try.func41 (by kernel_rfl) rfl) (fun bs xs t h => by
    split at h
    · rfl
    · cases h) ?_
  rintro ⟨ll, s, l, n⟩ r' ns ps h hps
  simp only [Option.some.injEq, Prod.mk.injEq] at h
  obtain ⟨rfl, rfl, rfl⟩ := h
  have hx : ll.length ≤ 1000 := hps (ll.length ≤ 1000) (by simp)
  have hs : SumOK Try.prog DF (bodyN Try.f41 0) (loopL DF (wi7Sn ll s l n [] false (0 : Nat)) (.exit 0) (wi7End s l n (wiG ll s l n).1 (wiG ll s l n).2)) := by
    have ht : wiG ll s l n = wiG (ll.take ll.length) s l n := by rw [List.take_length]
    rw [ht]
    refine sum_loop gam_nil mixed (c := bodyN Try.f41 0) (fun k => wi7Sn ll s l n (wiG (ll.take k) s l n).1 (wiG (ll.take k) s l n).2 k) ll.length (e := .exit 0) (s := wi7End s l n (wiG (ll.take ll.length) s l n).1 (wiG (ll.take ll.length) s l n).2) rfl (fun k hk => ?_) ⟨_, _, _, wi7_exit ll s l n _ _ _ (decide_eq_false (by omega))⟩
    have hsn := wiG_snoc ll s l n hk
    have hln := wiG_len ll s l n k (by omega)
    rw [hsn]
    generalize wiG (ll.take k) s l n = x at hln ⊢
    clear hsn
    obtain ⟨out, done⟩ := x
    simp only at hln
    by_cases c1 : done = false ∧ strLt (recS (ll.getD k []) 0) s = false
    · obtain ⟨c1, c2⟩ := c1
      by_cases c3 : recS (ll.getD k []) 0 = s
      · have e : wiS s l n (out, done) (ll.getD k []) = (out ++ [[Fd.s s, Fd.w l, Fd.i n]], true) := by unfold wiS; rw [if_pos ⟨c1, c2⟩, if_pos c3]
        rw [e]
        exact ⟨_, _, _, wi7_ftf ll s l n out _ done _ k _ (decide_eq_true (by omega)) c1 (by omega) (by omega) (by rw [Int.toNat_natCast, c2]; rfl) (by omega) (by omega) (by rw [Int.toNat_natCast, decide_eq_true c3]; rfl) ⟨by omega, by omega⟩ rfl rfl rfl⟩
      · have e : wiS s l n (out, done) (ll.getD k []) = ((out ++ [[Fd.s s, Fd.w l, Fd.i n]]) ++ [canonR (ll.getD k [])], true) := by unfold wiS; rw [if_pos ⟨c1, c2⟩, if_neg c3]
        rw [e]
        exact ⟨_, _, _, wi7_ftt ll s l n out _ done _ k _ (decide_eq_true (by omega)) c1 (by omega) (by omega) (by rw [Int.toNat_natCast, c2]; rfl) (by omega) (by omega) (by rw [Int.toNat_natCast, decide_eq_false c3]; rfl) (by rw [List.length_append, List.length_singleton]; omega) (by rw [List.length_append, List.length_singleton]; omega) ⟨by omega, by omega⟩ rfl rfl rfl⟩
    · by_cases c2 : done = true
      · by_cases c3 : recS (ll.getD k []) 0 = s
        · have e : wiS s l n (out, done) (ll.getD k []) = (out, done) := by unfold wiS; rw [if_neg c1, if_pos c3]
          rw [e]
          exact ⟨_, _, _, wi7_tf ll s l n out _ done k _ (decide_eq_true (by omega)) c2 (by omega) (by omega) (by rw [Int.toNat_natCast, decide_eq_true c3]; rfl) ⟨by omega, by omega⟩ rfl rfl⟩
        · have e : wiS s l n (out, done) (ll.getD k []) = (out ++ [canonR (ll.getD k [])], done) := by unfold wiS; rw [if_neg c1, if_neg c3]
          rw [e]
          exact ⟨_, _, _, wi7_tt ll s l n out _ done k _ (decide_eq_true (by omega)) c2 (by omega) (by omega) (by rw [Int.toNat_natCast, decide_eq_false c3]; rfl) (by omega) (by omega) ⟨by omega, by omega⟩ rfl rfl⟩
      · have c2' : done = false := by simpa using c2
        have c4 : strLt (recS (ll.getD k []) 0) s = true := by
          cases hh : strLt (recS (ll.getD k []) 0) s
          · exact (c1 ⟨c2', hh⟩).elim
          · rfl
        by_cases c3 : recS (ll.getD k []) 0 = s
        · have e : wiS s l n (out, done) (ll.getD k []) = (out, done) := by unfold wiS; rw [if_neg c1, if_pos c3]
          rw [e]
          exact ⟨_, _, _, wi7_fff ll s l n out _ done k _ (decide_eq_true (by omega)) c2' (by omega) (by omega) (by rw [Int.toNat_natCast, c4]; rfl) (by rw [Int.toNat_natCast, decide_eq_true c3]; rfl) ⟨by omega, by omega⟩ rfl rfl⟩
        · have e : wiS s l n (out, done) (ll.getD k []) = (out ++ [canonR (ll.getD k [])], done) := by unfold wiS; rw [if_neg c1, if_neg c3]
          rw [e]
          exact ⟨_, _, _, wi7_fft ll s l n out _ done k _ (decide_eq_true (by omega)) c2' (by omega) (by omega) (by rw [Int.toNat_natCast, c4]; rfl) (by rw [Int.toNat_natCast, decide_eq_false c3]; rfl) (by omega) (by omega) ⟨by omega, by omega⟩ rfl rfl⟩
  have hl := wiG_len ll s l n ll.length (Nat.le_refl _)
  rw [List.take_length] at hl
  by_cases c : (wiG ll s l n).2 = true
  · exact ⟨_, _, _, gam_nil, wi7_rt ll s l n _ _ _ hs c (by unfold wiF; rw [if_pos c])⟩
  · exact ⟨_, _, _, gam_nil, wi7_rf ll s l n _ _ _ hs (by simpa using c) (by omega) (by omega) (by unfold wiF; rw [if_neg c])⟩
noncomputable def new7Q := mkF DF Try.f38.ntmps (fun bs xs => match bs, xs with | [], [.one (.int .i64 _ n)] => some n | _, _ => none) (fun n => ([], [.one (.int .i64 false n)])) (fun n => some (.v (dV7 [] (clampR n) 0 0 false), [], []))
theorem new7_ok : OpOK Try.prog DF 38 new7Q := by
  refine opOK_mkG mixed Try.func38 (enters_of Try.func38 (by kernel_rfl) rfl) ?_
  intro n r' bs' ps h hps
  simp only [Option.some.injEq, Prod.mk.injEq] at h
  obtain ⟨rfl, rfl, rfl⟩ := h
  by_cases c1 : n < 0
  · exact ⟨_, _, _, gam_nil, n7_neg n _ (decide_eq_true c1) (by unfold clampR; rw [if_pos (show 0 > n by omega), if_neg (by decide)])⟩
  · by_cases c2 : n > 4194304
    · exact ⟨_, _, _, gam_nil, n7_big n _ (decide_eq_false c1) (decide_eq_true c2) (by unfold clampR; rw [if_neg (show ¬ 0 > n by omega), if_pos (by omega)])⟩
    · exact ⟨_, _, _, gam_nil, n7_mid n _ (decide_eq_false c1) (decide_eq_false c2) (by unfold clampR; rw [if_neg (show ¬ 0 > n by omega), if_neg (by omega)])⟩
end Go.Num
namespace Go.Num
open Go.Abs Go.Proofs Go.Shelf Go.RowKit
noncomputable def gM7 : Gam DF := [(freezeId, .fn (freezeD DF [58])), (38, .op [false] new7Q), (39, .fn rightF), (40, .fn at7D), (11, .fz (copyD DF)), (41, .rd [false, true] wi7R), (30, .fn safe7D)]
theorem gM7_ok : GamOK Try.prog DF gM7 := gam_freeze (gam_op new7_ok (gam_cons rright_ok (gam_cons at7_ok (gam_fz (copy_ok DF) (gam_rd wi7_ok (gam_cons safe7_ok gam_nil))))))
def mo7Sn (ll rs : List Rec) (ro : Int) (k : Int) : Sn DF.τ where
  slots := [(1, .v (.one (.prs fSh ll))), (4, .v (.one (.ref 1 0))), (6, .v (.one (.ref 0 0))), (16, .v (.one (.int .i64 false ll.length))), (17, .v (.one (.int .i64 false k)))]
  boxes := [(0, dB7 rs ro 0 0 false), (1, dZ7)]
  nt := 68
def mo7End (rs : List Rec) (ro : Int) : Sn DF.τ where
  slots := [(4, .v (.one (.ref 1 0))), (6, .v (.one (.ref 0 0)))]
  boxes := [(0, dB7 rs ro 0 0 false), (1, dZ7)]
  nt := 68
def mo7Bad (rs : List Rec) (ro e : Int) : Sn DF.τ where
  slots := [(4, .v (.one (.ref 0 0))), (5, .v (.one (.int .i64 false e)))]
  boxes := [(0, dB7 rs ro 0 0 false)]
  nt := 68
theorem mo7_step (ll rs : List Rec) (ro : Int) (rs' : List Rec) (k k' : Int)
 (h1 : ((decide (k < (((List.length ll) : Nat) : Int))) = true))
 (h2 : ((0 : Int) ≤ k))
 (h3 : (k < (((List.length ll) : Nat) : Int)))
 (h4 : ((rightB (recS (List.getD ll (Int.toNat k) ([] : List (Abs.Fd))) (0 : Nat))) = true))
 (h5 : ((ByteArray.size (recS (List.getD ll (Int.toNat k) ([] : List (Abs.Fd))) (0 : Nat))) ≤ (9223372036854775807 : Nat)))
 (h6 : ((List.length rs) ≤ (1000 : Nat)))
 (h7 : ((decide ((atF rs (recS (List.getD ll (Int.toNat k) ([] : List (Abs.Fd))) (0 : Nat))) ≥ (0 : Int))) = false))
 (h8 : ((decide ((recI (List.getD ll (Int.toNat k) ([] : List (Abs.Fd))) (((0 : Nat) + (1 : Nat)) + (1 : Nat))) < (0 : Int))) = false))
 (h9 : ((decide ((recI (List.getD ll (Int.toNat k) ([] : List (Abs.Fd))) (((0 : Nat) + (1 : Nat)) + (1 : Nat))) > (((List.length (recW (List.getD ll (Int.toNat k) ([] : List (Abs.Fd))) ((0 : Nat) + (1 : Nat)))) : Nat) : Int))) = false))
 (h10 : ((List.length (recW (List.getD ll (Int.toNat k) ([] : List (Abs.Fd))) ((0 : Nat) + (1 : Nat)))) ≤ (281474976710656 : Nat)))
 (h11 : (InI64 (k + (1 : Int))))
 (h12 : ((k + (1 : Int)) = k'))
 (h13 : ((wiF rs (recS (List.getD ll (Int.toNat k) ([] : List (Abs.Fd))) (0 : Nat)) (recW (List.getD ll (Int.toNat k) ([] : List (Abs.Fd))) ((0 : Nat) + (1 : Nat))) (recI (List.getD ll (Int.toNat k) ([] : List (Abs.Fd))) (((0 : Nat) + (1 : Nat)) + (1 : Nat)))) = rs')) :
 ∃ ps, stepPs Try.prog DF gM7 100 (bodyN Try.f27 0) 100 (mo7Sn ll rs ro k).st [.is true, .is true, .is false, .is false, .is false] .normal (mo7Sn ll rs' ro k') = some ps ∧ AllQ ps := ⟨_, by kernel_rfl, qc h1 (qc h2 (qc h3 (qc h4 (qc h5 (qc h6 (qc h7 (qc h8 (qc h9 (qc h10 (qc (Eq.refl rs) (qc (Eq.refl ((recS (List.getD ll (Int.toNat k) ([] : List (Abs.Fd))) (0 : Nat)))) (qc (Eq.refl ((recW (List.getD ll (Int.toNat k) ([] : List (Abs.Fd))) ((0 : Nat) + (1 : Nat))))) (qc (Eq.refl ((recI (List.getD ll (Int.toNat k) ([] : List (Abs.Fd))) (((0 : Nat) + (1 : Nat)) + (1 : Nat))))) (qc h6 (qc h11 (qc (Eq.refl ll) (qc (Eq.refl ((((List.length ll) : Nat) : Int))) (qc h12 (qc h13 (qc (Eq.refl ro) (qc (Eq.refl ((0 : Int))) (qc (Eq.refl ((0 : Int))) (qc (Eq.refl false) (qn))))))))))))))))))))))))⟩
theorem mo7_name (ll rs : List Rec) (ro : Int) (k e : Int)
 (h1 : ((decide (k < (((List.length ll) : Nat) : Int))) = true))
 (h2 : ((0 : Int) ≤ k))
 (h3 : (k < (((List.length ll) : Nat) : Int)))
 (h4 : ((rightB (recS (List.getD ll (Int.toNat k) ([] : List (Abs.Fd))) (0 : Nat))) = false))
 (h5 : ((ByteArray.size (recS (List.getD ll (Int.toNat k) ([] : List (Abs.Fd))) (0 : Nat))) ≤ (9223372036854775807 : Nat)))
 (h6 : ((40 : Int) = e)) :
 ∃ ps, stepPs Try.prog DF gM7 100 (bodyN Try.f27 0) 100 (mo7Sn ll rs ro k).st [.is true, .is false] .ret (mo7Bad rs ro e) = some ps ∧ AllQ ps := ⟨_, by kernel_rfl, qc h1 (qc h2 (qc h3 (qc h4 (qc h5 (qc h6 (qc (Eq.refl rs) (qc (Eq.refl ro) (qc (Eq.refl ((0 : Int))) (qc (Eq.refl ((0 : Int))) (qc (Eq.refl false) (qn)))))))))))⟩
theorem mo7_there (ll rs : List Rec) (ro : Int) (k e : Int)
 (h1 : ((decide (k < (((List.length ll) : Nat) : Int))) = true))
 (h2 : ((0 : Int) ≤ k))
 (h3 : (k < (((List.length ll) : Nat) : Int)))
 (h4 : ((rightB (recS (List.getD ll (Int.toNat k) ([] : List (Abs.Fd))) (0 : Nat))) = true))
 (h5 : ((ByteArray.size (recS (List.getD ll (Int.toNat k) ([] : List (Abs.Fd))) (0 : Nat))) ≤ (9223372036854775807 : Nat)))
 (h6 : ((List.length rs) ≤ (1000 : Nat)))
 (h7 : ((decide ((atF rs (recS (List.getD ll (Int.toNat k) ([] : List (Abs.Fd))) (0 : Nat))) ≥ (0 : Int))) = true))
 (h8 : ((1 : Int) = e)) :
 ∃ ps, stepPs Try.prog DF gM7 100 (bodyN Try.f27 0) 100 (mo7Sn ll rs ro k).st [.is true, .is true, .is true] .ret (mo7Bad rs ro e) = some ps ∧ AllQ ps := ⟨_, by kernel_rfl, qc h1 (qc h2 (qc h3 (qc h4 (qc h5 (qc h6 (qc h7 (qc h8 (qc (Eq.refl rs) (qc (Eq.refl ro) (qc (Eq.refl ((0 : Int))) (qc (Eq.refl ((0 : Int))) (qc (Eq.refl false) (qn)))))))))))))⟩
theorem mo7_neg (ll rs : List Rec) (ro : Int) (k e : Int)
 (h1 : ((decide (k < (((List.length ll) : Nat) : Int))) = true))
 (h2 : ((0 : Int) ≤ k))
 (h3 : (k < (((List.length ll) : Nat) : Int)))
 (h4 : ((rightB (recS (List.getD ll (Int.toNat k) ([] : List (Abs.Fd))) (0 : Nat))) = true))
 (h5 : ((ByteArray.size (recS (List.getD ll (Int.toNat k) ([] : List (Abs.Fd))) (0 : Nat))) ≤ (9223372036854775807 : Nat)))
 (h6 : ((List.length rs) ≤ (1000 : Nat)))
 (h7 : ((decide ((atF rs (recS (List.getD ll (Int.toNat k) ([] : List (Abs.Fd))) (0 : Nat))) ≥ (0 : Int))) = false))
 (h8 : ((decide ((recI (List.getD ll (Int.toNat k) ([] : List (Abs.Fd))) (((0 : Nat) + (1 : Nat)) + (1 : Nat))) < (0 : Int))) = true))
 (h9 : ((1 : Int) = e)) :
 ∃ ps, stepPs Try.prog DF gM7 100 (bodyN Try.f27 0) 100 (mo7Sn ll rs ro k).st [.is true, .is true, .is false, .is true] .ret (mo7Bad rs ro e) = some ps ∧ AllQ ps := ⟨_, by kernel_rfl, qc h1 (qc h2 (qc h3 (qc h4 (qc h5 (qc h6 (qc h7 (qc h8 (qc h9 (qc (Eq.refl rs) (qc (Eq.refl ro) (qc (Eq.refl ((0 : Int))) (qc (Eq.refl ((0 : Int))) (qc (Eq.refl false) (qn))))))))))))))⟩
theorem mo7_more (ll rs : List Rec) (ro : Int) (k e : Int)
 (h1 : ((decide (k < (((List.length ll) : Nat) : Int))) = true))
 (h2 : ((0 : Int) ≤ k))
 (h3 : (k < (((List.length ll) : Nat) : Int)))
 (h4 : ((rightB (recS (List.getD ll (Int.toNat k) ([] : List (Abs.Fd))) (0 : Nat))) = true))
 (h5 : ((ByteArray.size (recS (List.getD ll (Int.toNat k) ([] : List (Abs.Fd))) (0 : Nat))) ≤ (9223372036854775807 : Nat)))
 (h6 : ((List.length rs) ≤ (1000 : Nat)))
 (h7 : ((decide ((atF rs (recS (List.getD ll (Int.toNat k) ([] : List (Abs.Fd))) (0 : Nat))) ≥ (0 : Int))) = false))
 (h8 : ((decide ((recI (List.getD ll (Int.toNat k) ([] : List (Abs.Fd))) (((0 : Nat) + (1 : Nat)) + (1 : Nat))) < (0 : Int))) = false))
 (h9 : ((decide ((recI (List.getD ll (Int.toNat k) ([] : List (Abs.Fd))) (((0 : Nat) + (1 : Nat)) + (1 : Nat))) > (((List.length (recW (List.getD ll (Int.toNat k) ([] : List (Abs.Fd))) ((0 : Nat) + (1 : Nat)))) : Nat) : Int))) = true))
 (h10 : ((1 : Int) = e)) :
 ∃ ps, stepPs Try.prog DF gM7 100 (bodyN Try.f27 0) 100 (mo7Sn ll rs ro k).st [.is true, .is true, .is false, .is false, .is true] .ret (mo7Bad rs ro e) = some ps ∧ AllQ ps := ⟨_, by kernel_rfl, qc h1 (qc h2 (qc h3 (qc h4 (qc h5 (qc h6 (qc h7 (qc h8 (qc h9 (qc h10 (qc (Eq.refl rs) (qc (Eq.refl ro) (qc (Eq.refl ((0 : Int))) (qc (Eq.refl ((0 : Int))) (qc (Eq.refl false) (qn)))))))))))))))⟩
theorem mo7_exit (ll rs : List Rec) (ro : Int) (k : Int)
 (h1 : ((decide (k < (((List.length ll) : Nat) : Int))) = false)) :
 ∃ ps, stepPs Try.prog DF gM7 100 (bodyN Try.f27 0) 100 (mo7Sn ll rs ro k).st [.is false] (.exit 0) (mo7End rs ro) = some ps ∧ AllQ ps := ⟨_, by kernel_rfl, qc h1 (qc (Eq.refl rs) (qc (Eq.refl ro) (qc (Eq.refl ((0 : Int))) (qc (Eq.refl ((0 : Int))) (qc (Eq.refl false) (qn))))))⟩
theorem mo7_many (n ro e : Int) (ll rs : List Rec)
 (h1 : ((decide ((((List.length ll) : Nat) : Int) > (32 : Int))) = true))
 (h2 : (([] : List (Rec)) = rs))
 (h3 : ((clampR n) = ro))
 (h4 : ((43 : Int) = e)) :
 ∃ ps, runO Try.prog DF gM7 100 Try.f27 ([], [.one (.int .i64 false n), .one (.prs fSh ll)]) [.is true] (.tup [dV7 rs ro 0 0 false, .one (.int .i64 false e)]) [] = some ps ∧ AllQ ps := ⟨_, by kernel_rfl, qc (Eq.refl n) (qc h1 (qc h2 (qc h3 (qc (Eq.refl ((0 : Int))) (qc (Eq.refl ((0 : Int))) (qc (Eq.refl false) (qc h4 (qn))))))))⟩
theorem mo7_bad (n ro e : Int) (ll rs : List Rec)
 (h1 : ((decide ((((List.length ll) : Nat) : Int) > (32 : Int))) = false))
 (h2 : SumOK Try.prog DF (bodyN Try.f27 0) (loopL DF (mo7Sn ll [] ro (0 : Nat)) .ret (mo7Bad rs ro e)))
 (h3 : ((clampR n) = ro)) :
 ∃ ps, runO Try.prog DF gM7 100 Try.f27 ([], [.one (.int .i64 false n), .one (.prs fSh ll)]) [.is false, .loop (loopL DF (mo7Sn ll [] ro (0 : Nat)) .ret (mo7Bad rs ro e))] (.tup [dV7 rs ro 0 0 false, .one (.int .i64 false e)]) [] = some ps ∧ AllQ ps := ⟨_, by kernel_rfl, qc (Eq.refl n) (qc h1 (qc h2 (qc (Eq.refl ll) (qc (Eq.refl ((((List.length ll) : Nat) : Int))) (qc (show ((0 : Int) = (((0 : Nat) : Nat) : Int)) from by decide) (qc (Eq.refl (([] : List (Rec)))) (qc h3 (qc (Eq.refl ((0 : Int))) (qc (Eq.refl ((0 : Int))) (qc (Eq.refl false) (qc (Eq.refl rs) (qc (Eq.refl ro) (qc (Eq.refl ((0 : Int))) (qc (Eq.refl ((0 : Int))) (qc (Eq.refl false) (qc (Eq.refl e) (qn)))))))))))))))))⟩
theorem mo7_full (n ro e : Int) (ll rs : List Rec)
 (h1 : ((decide ((((List.length ll) : Nat) : Int) > (32 : Int))) = false))
 (h2 : SumOK Try.prog DF (bodyN Try.f27 0) (loopL DF (mo7Sn ll [] ro (0 : Nat)) (.exit 0) (mo7End rs ro)))
 (h3 : ((clampR n) = ro))
 (h4 : (Row7 rs))
 (h5 : ((decide ((safeF rs) > ro)) = true))
 (h6 : ((42 : Int) = e)) :
 ∃ ps, runO Try.prog DF gM7 100 Try.f27 ([], [.one (.int .i64 false n), .one (.prs fSh ll)]) [.is false, .loop (loopL DF (mo7Sn ll [] ro (0 : Nat)) (.exit 0) (mo7End rs ro)), .is true] (.tup [dV7 rs ro 0 0 false, .one (.int .i64 false e)]) [] = some ps ∧ AllQ ps := ⟨_, by kernel_rfl, qc (Eq.refl n) (qc h1 (qc h2 (qc (Eq.refl ll) (qc (Eq.refl ((((List.length ll) : Nat) : Int))) (qc (show ((0 : Int) = (((0 : Nat) : Nat) : Int)) from by decide) (qc (Eq.refl (([] : List (Rec)))) (qc h3 (qc (Eq.refl ((0 : Int))) (qc (Eq.refl ((0 : Int))) (qc (Eq.refl false) (qc h4 (qc h5 (qc (Eq.refl rs) (qc (Eq.refl ro) (qc (Eq.refl ((0 : Int))) (qc (Eq.refl ((0 : Int))) (qc (Eq.refl false) (qc h6 (qn)))))))))))))))))))⟩
theorem mo7_ok (n ro e : Int) (ll rs : List Rec)
 (h1 : ((decide ((((List.length ll) : Nat) : Int) > (32 : Int))) = false))
 (h2 : SumOK Try.prog DF (bodyN Try.f27 0) (loopL DF (mo7Sn ll [] ro (0 : Nat)) (.exit 0) (mo7End rs ro)))
 (h3 : ((clampR n) = ro))
 (h4 : (Row7 rs))
 (h5 : ((decide ((safeF rs) > ro)) = false))
 (h6 : ((0 : Int) = e)) :
 ∃ ps, runO Try.prog DF gM7 100 Try.f27 ([], [.one (.int .i64 false n), .one (.prs fSh ll)]) [.is false, .loop (loopL DF (mo7Sn ll [] ro (0 : Nat)) (.exit 0) (mo7End rs ro)), .is false] (.tup [dV7 rs ro 0 0 false, .one (.int .i64 false e)]) [] = some ps ∧ AllQ ps := ⟨_, by kernel_rfl, qc (Eq.refl n) (qc h1 (qc h2 (qc (Eq.refl ll) (qc (Eq.refl ((((List.length ll) : Nat) : Int))) (qc (show ((0 : Int) = (((0 : Nat) : Nat) : Int)) from by decide) (qc (Eq.refl (([] : List (Rec)))) (qc h3 (qc (Eq.refl ((0 : Int))) (qc (Eq.refl ((0 : Int))) (qc (Eq.refl false) (qc h4 (qc h5 (qc (Eq.refl rs) (qc (Eq.refl ro) (qc (Eq.refl ((0 : Int))) (qc (Eq.refl ((0 : Int))) (qc (Eq.refl false) (qc h6 (qn)))))))))))))))))))⟩
noncomputable def gW7 : Gam DF := [(39, .fn rightF), (40, .fn at7D), (30, .fn safe7D)]
theorem gW7_ok : GamOK Try.prog DF gW7 := gam_cons rright_ok (gam_cons at7_ok (gam_cons safe7_ok gam_nil))
def wyIn (ll : List Rec) (ro st fu : Int) (dn : Bool) (k : Int) (s t : ByteArray) (b : List Int) (n : Int) (ke : List Int) : List (BoxSt DF.τ) × List (A0 DF.τ) := ([], [dV7 ll ro st fu dn, oP k s t b n ke])
theorem wy_down (ll : List Rec) (ro st fu : Int) (dn : Bool) (k : Int) (s t : ByteArray) (b : List Int) (n : Int) (ke : List Int) (e : Int)
 (h1 : (dn = true))
 (h2 : ((2 : Int) = e)) :
 ∃ ps, runO Try.prog DF gW7 100 Try.f43 (wyIn ll ro st fu dn k s t b n ke) [.is true] (.v (.one (.int .i64 false e))) [] = some ps ∧ AllQ ps := ⟨_, by kernel_rfl, qc h1 (qc h2 (qn))⟩
theorem wy_name (ll : List Rec) (ro st fu : Int) (dn : Bool) (k : Int) (s t : ByteArray) (b : List Int) (n : Int) (ke : List Int) (e : Int)
 (h1 : (dn = false))
 (h2 : ((rightB s) = false))
 (h3 : ((ByteArray.size s) ≤ (9223372036854775807 : Nat)))
 (h4 : ((40 : Int) = e)) :
 ∃ ps, runO Try.prog DF gW7 100 Try.f43 (wyIn ll ro st fu dn k s t b n ke) [.is false, .is false] (.v (.one (.int .i64 false e))) [] = some ps ∧ AllQ ps := ⟨_, by kernel_rfl, qc h1 (qc h2 (qc h3 (qc h4 (qn))))⟩
theorem wy_gone (ll : List Rec) (ro st fu : Int) (dn : Bool) (k : Int) (s t : ByteArray) (b : List Int) (n : Int) (ke : List Int) (e : Int)
 (h1 : (dn = false))
 (h2 : ((rightB s) = true))
 (h3 : ((ByteArray.size s) ≤ (9223372036854775807 : Nat)))
 (h4 : ((List.length ll) ≤ (1000 : Nat)))
 (h5 : ((decide (k > (0 : Int))) = true))
 (h6 : ((decide ((atF ll s) < (0 : Int))) = true))
 (h7 : ((41 : Int) = e)) :
 ∃ ps, runO Try.prog DF gW7 100 Try.f43 (wyIn ll ro st fu dn k s t b n ke) [.is false, .is true, .is true, .is true] (.v (.one (.int .i64 false e))) [] = some ps ∧ AllQ ps := ⟨_, by kernel_rfl, qc h1 (qc h2 (qc h3 (qc h4 (qc h5 (qc h6 (qc h7 (qn)))))))⟩
theorem wy_043 (ll : List Rec) (ro st fu : Int) (dn : Bool) (k : Int) (s t : ByteArray) (b : List Int) (n : Int) (ke : List Int) (e : Int)
 (h1 : (dn = false))
 (h2 : ((rightB s) = true))
 (h3 : ((ByteArray.size s) ≤ (9223372036854775807 : Nat)))
 (h4 : ((List.length ll) ≤ (1000 : Nat)))
 (h5 : ((decide (k > (0 : Int))) = false))
 (h6 : ((k == (0 : Int)) = true))
 (h7 : ((decide ((atF ll s) < (0 : Int))) = true))
 (h8 : ((decide ((((List.length ll) : Nat) : Int) ≥ (32 : Int))) = true))
 (h9 : ((43 : Int) = e)) :
 ∃ ps, runO Try.prog DF gW7 100 Try.f43 (wyIn ll ro st fu dn k s t b n ke) [.is false, .is true, .is false, .is true, .is true, .is true] (.v (.one (.int .i64 false e))) [] = some ps ∧ AllQ ps := ⟨_, by kernel_rfl, qc h1 (qc h2 (qc h3 (qc h4 (qc h5 (qc h6 (qc h7 (qc h8 (qc h9 (qn)))))))))⟩
theorem wy_0n18 (ll : List Rec) (ro st fu : Int) (dn : Bool) (k : Int) (s t : ByteArray) (b : List Int) (n : Int) (ke : List Int) (e : Int)
 (h1 : (dn = false))
 (h2 : ((rightB s) = true))
 (h3 : ((ByteArray.size s) ≤ (9223372036854775807 : Nat)))
 (h4 : ((List.length ll) ≤ (1000 : Nat)))
 (h5 : ((decide (k > (0 : Int))) = false))
 (h6 : ((k == (0 : Int)) = true))
 (h7 : ((decide ((atF ll s) < (0 : Int))) = true))
 (h8 : ((decide ((((List.length ll) : Nat) : Int) ≥ (32 : Int))) = false))
 (h9 : ((decide ((atF ll s) ≥ (0 : Int))) = false))
 (h10 : ((decide ((((List.length b) : Nat) : Int) > (4194304 : Int))) = true))
 (h11 : ((18 : Int) = e)) :
 ∃ ps, runO Try.prog DF gW7 100 Try.f43 (wyIn ll ro st fu dn k s t b n ke) [.is false, .is true, .is false, .is true, .is true, .is false, .is false, .is true] (.v (.one (.int .i64 false e))) [] = some ps ∧ AllQ ps := ⟨_, by kernel_rfl, qc h1 (qc h2 (qc h3 (qc h4 (qc h5 (qc h6 (qc h7 (qc h8 (qc h9 (qc h10 (qc h11 (qn)))))))))))⟩
theorem wy_0n (ll : List Rec) (ro st fu : Int) (dn : Bool) (k : Int) (s t : ByteArray) (b : List Int) (n : Int) (ke : List Int) (e : Int)
 (h1 : (dn = false))
 (h2 : ((rightB s) = true))
 (h3 : ((ByteArray.size s) ≤ (9223372036854775807 : Nat)))
 (h4 : ((List.length ll) ≤ (1000 : Nat)))
 (h5 : ((decide (k > (0 : Int))) = false))
 (h6 : ((k == (0 : Int)) = true))
 (h7 : ((decide ((atF ll s) < (0 : Int))) = true))
 (h8 : ((decide ((((List.length ll) : Nat) : Int) ≥ (32 : Int))) = false))
 (h9 : ((decide ((atF ll s) ≥ (0 : Int))) = false))
 (h10 : ((decide ((((List.length b) : Nat) : Int) > (4194304 : Int))) = false))
 (h11 : ((0 : Int) = e)) :
 ∃ ps, runO Try.prog DF gW7 100 Try.f43 (wyIn ll ro st fu dn k s t b n ke) [.is false, .is true, .is false, .is true, .is true, .is false, .is false, .is false] (.v (.one (.int .i64 false e))) [] = some ps ∧ AllQ ps := ⟨_, by kernel_rfl, qc h1 (qc h2 (qc h3 (qc h4 (qc h5 (qc h6 (qc h7 (qc h8 (qc h9 (qc h10 (qc h11 (qn)))))))))))⟩
theorem wy_0o18 (ll : List Rec) (ro st fu : Int) (dn : Bool) (k : Int) (s t : ByteArray) (b : List Int) (n : Int) (ke : List Int) (e : Int)
 (h1 : (dn = false))
 (h2 : ((rightB s) = true))
 (h3 : ((ByteArray.size s) ≤ (9223372036854775807 : Nat)))
 (h4 : ((List.length ll) ≤ (1000 : Nat)))
 (h5 : ((decide (k > (0 : Int))) = false))
 (h6 : ((k == (0 : Int)) = true))
 (h7 : ((decide ((atF ll s) < (0 : Int))) = false))
 (h8 : ((decide ((atF ll s) ≥ (0 : Int))) = true))
 (h9 : ((0 : Int) ≤ (atF ll s)))
 (h10 : ((atF ll s) < (((List.length ll) : Nat) : Int)))
 (h11 : (InI64 ((((List.length (recW (List.getD ll (Int.toNat (atF ll s)) ([] : List (Abs.Fd))) ((0 : Nat) + (1 : Nat)))) : Nat) : Int) + (((List.length b) : Nat) : Int))))
 (h12 : ((decide (((((List.length (recW (List.getD ll (Int.toNat (atF ll s)) ([] : List (Abs.Fd))) ((0 : Nat) + (1 : Nat)))) : Nat) : Int) + (((List.length b) : Nat) : Int)) > (4194304 : Int))) = true))
 (h13 : ((18 : Int) = e)) :
 ∃ ps, runO Try.prog DF gW7 100 Try.f43 (wyIn ll ro st fu dn k s t b n ke) [.is false, .is true, .is false, .is true, .is false, .is true, .is true] (.v (.one (.int .i64 false e))) [] = some ps ∧ AllQ ps := ⟨_, by kernel_rfl, qc h1 (qc h2 (qc h3 (qc h4 (qc h5 (qc h6 (qc h7 (qc h8 (qc h9 (qc h10 (qc h11 (qc h12 (qc h13 (qn)))))))))))))⟩
theorem wy_0o (ll : List Rec) (ro st fu : Int) (dn : Bool) (k : Int) (s t : ByteArray) (b : List Int) (n : Int) (ke : List Int) (e : Int)
 (h1 : (dn = false))
 (h2 : ((rightB s) = true))
 (h3 : ((ByteArray.size s) ≤ (9223372036854775807 : Nat)))
 (h4 : ((List.length ll) ≤ (1000 : Nat)))
 (h5 : ((decide (k > (0 : Int))) = false))
 (h6 : ((k == (0 : Int)) = true))
 (h7 : ((decide ((atF ll s) < (0 : Int))) = false))
 (h8 : ((decide ((atF ll s) ≥ (0 : Int))) = true))
 (h9 : ((0 : Int) ≤ (atF ll s)))
 (h10 : ((atF ll s) < (((List.length ll) : Nat) : Int)))
 (h11 : (InI64 ((((List.length (recW (List.getD ll (Int.toNat (atF ll s)) ([] : List (Abs.Fd))) ((0 : Nat) + (1 : Nat)))) : Nat) : Int) + (((List.length b) : Nat) : Int))))
 (h12 : ((decide (((((List.length (recW (List.getD ll (Int.toNat (atF ll s)) ([] : List (Abs.Fd))) ((0 : Nat) + (1 : Nat)))) : Nat) : Int) + (((List.length b) : Nat) : Int)) > (4194304 : Int))) = false))
 (h13 : ((decide ((((List.length b) : Nat) : Int) > (4194304 : Int))) = false))
 (h14 : ((0 : Int) = e)) :
 ∃ ps, runO Try.prog DF gW7 100 Try.f43 (wyIn ll ro st fu dn k s t b n ke) [.is false, .is true, .is false, .is true, .is false, .is true, .is false, .is false] (.v (.one (.int .i64 false e))) [] = some ps ∧ AllQ ps := ⟨_, by kernel_rfl, qc h1 (qc h2 (qc h3 (qc h4 (qc h5 (qc h6 (qc h7 (qc h8 (qc h9 (qc h10 (qc h11 (qc h12 (qc h13 (qc h14 (qn))))))))))))))⟩
theorem wy_142 (ll : List Rec) (ro st fu : Int) (dn : Bool) (k : Int) (s t : ByteArray) (b : List Int) (n : Int) (ke : List Int) (e : Int)
 (h1 : (dn = false))
 (h2 : ((rightB s) = true))
 (h3 : ((ByteArray.size s) ≤ (9223372036854775807 : Nat)))
 (h4 : ((List.length ll) ≤ (1000 : Nat)))
 (h5 : ((decide (k > (0 : Int))) = true))
 (h6 : ((decide ((atF ll s) < (0 : Int))) = false))
 (h7 : ((k == (0 : Int)) = false))
 (h8 : ((k == (1 : Int)) = true))
 (h9 : (Row7 ll))
 (h10 : ((0 : Int) ≤ (atF ll s)))
 (h11 : ((atF ll s) < (((List.length ll) : Nat) : Int)))
 (h12 : (InI64 ((safeF ll) - (recI (List.getD ll (Int.toNat (atF ll s)) ([] : List (Abs.Fd))) (((0 : Nat) + (1 : Nat)) + (1 : Nat))))))
 (h13 : (InI64 (((safeF ll) - (recI (List.getD ll (Int.toNat (atF ll s)) ([] : List (Abs.Fd))) (((0 : Nat) + (1 : Nat)) + (1 : Nat)))) + (((List.length (recW (List.getD ll (Int.toNat (atF ll s)) ([] : List (Abs.Fd))) ((0 : Nat) + (1 : Nat)))) : Nat) : Int))))
 (h14 : ((decide ((((safeF ll) - (recI (List.getD ll (Int.toNat (atF ll s)) ([] : List (Abs.Fd))) (((0 : Nat) + (1 : Nat)) + (1 : Nat)))) + (((List.length (recW (List.getD ll (Int.toNat (atF ll s)) ([] : List (Abs.Fd))) ((0 : Nat) + (1 : Nat)))) : Nat) : Int)) > ro)) = true))
 (h15 : ((42 : Int) = e)) :
 ∃ ps, runO Try.prog DF gW7 100 Try.f43 (wyIn ll ro st fu dn k s t b n ke) [.is false, .is true, .is true, .is false, .is false, .is true, .is true] (.v (.one (.int .i64 false e))) [] = some ps ∧ AllQ ps := ⟨_, by kernel_rfl, qc h1 (qc h2 (qc h3 (qc h4 (qc h5 (qc h6 (qc h7 (qc h8 (qc h9 (qc h10 (qc h11 (qc h12 (qc h10 (qc h11 (qc h13 (qc h14 (qc h15 (qn)))))))))))))))))⟩
theorem wy_1 (ll : List Rec) (ro st fu : Int) (dn : Bool) (k : Int) (s t : ByteArray) (b : List Int) (n : Int) (ke : List Int) (e : Int)
 (h1 : (dn = false))
 (h2 : ((rightB s) = true))
 (h3 : ((ByteArray.size s) ≤ (9223372036854775807 : Nat)))
 (h4 : ((List.length ll) ≤ (1000 : Nat)))
 (h5 : ((decide (k > (0 : Int))) = true))
 (h6 : ((decide ((atF ll s) < (0 : Int))) = false))
 (h7 : ((k == (0 : Int)) = false))
 (h8 : ((k == (1 : Int)) = true))
 (h9 : (Row7 ll))
 (h10 : ((0 : Int) ≤ (atF ll s)))
 (h11 : ((atF ll s) < (((List.length ll) : Nat) : Int)))
 (h12 : (InI64 ((safeF ll) - (recI (List.getD ll (Int.toNat (atF ll s)) ([] : List (Abs.Fd))) (((0 : Nat) + (1 : Nat)) + (1 : Nat))))))
 (h13 : (InI64 (((safeF ll) - (recI (List.getD ll (Int.toNat (atF ll s)) ([] : List (Abs.Fd))) (((0 : Nat) + (1 : Nat)) + (1 : Nat)))) + (((List.length (recW (List.getD ll (Int.toNat (atF ll s)) ([] : List (Abs.Fd))) ((0 : Nat) + (1 : Nat)))) : Nat) : Int))))
 (h14 : ((decide ((((safeF ll) - (recI (List.getD ll (Int.toNat (atF ll s)) ([] : List (Abs.Fd))) (((0 : Nat) + (1 : Nat)) + (1 : Nat)))) + (((List.length (recW (List.getD ll (Int.toNat (atF ll s)) ([] : List (Abs.Fd))) ((0 : Nat) + (1 : Nat)))) : Nat) : Int)) > ro)) = false))
 (h15 : ((0 : Int) = e)) :
 ∃ ps, runO Try.prog DF gW7 100 Try.f43 (wyIn ll ro st fu dn k s t b n ke) [.is false, .is true, .is true, .is false, .is false, .is true, .is false] (.v (.one (.int .i64 false e))) [] = some ps ∧ AllQ ps := ⟨_, by kernel_rfl, qc h1 (qc h2 (qc h3 (qc h4 (qc h5 (qc h6 (qc h7 (qc h8 (qc h9 (qc h10 (qc h11 (qc h12 (qc h10 (qc h11 (qc h13 (qc h14 (qc h15 (qn)))))))))))))))))⟩
theorem wy_2neg (ll : List Rec) (ro st fu : Int) (dn : Bool) (k : Int) (s t : ByteArray) (b : List Int) (n : Int) (ke : List Int) (e : Int)
 (h1 : (dn = false))
 (h2 : ((rightB s) = true))
 (h3 : ((ByteArray.size s) ≤ (9223372036854775807 : Nat)))
 (h4 : ((List.length ll) ≤ (1000 : Nat)))
 (h5 : ((decide (k > (0 : Int))) = true))
 (h6 : ((decide ((atF ll s) < (0 : Int))) = false))
 (h7 : ((k == (0 : Int)) = false))
 (h8 : ((k == (1 : Int)) = false))
 (h9 : ((k == (2 : Int)) = true))
 (h10 : ((decide (n < (0 : Int))) = true))
 (h11 : ((1 : Int) = e)) :
 ∃ ps, runO Try.prog DF gW7 100 Try.f43 (wyIn ll ro st fu dn k s t b n ke) [.is false, .is true, .is true, .is false, .is false, .is false, .is true, .is true] (.v (.one (.int .i64 false e))) [] = some ps ∧ AllQ ps := ⟨_, by kernel_rfl, qc h1 (qc h2 (qc h3 (qc h4 (qc h5 (qc h6 (qc h7 (qc h8 (qc h9 (qc h10 (qc h11 (qn)))))))))))⟩
theorem wy_2big (ll : List Rec) (ro st fu : Int) (dn : Bool) (k : Int) (s t : ByteArray) (b : List Int) (n : Int) (ke : List Int) (e : Int)
 (h1 : (dn = false))
 (h2 : ((rightB s) = true))
 (h3 : ((ByteArray.size s) ≤ (9223372036854775807 : Nat)))
 (h4 : ((List.length ll) ≤ (1000 : Nat)))
 (h5 : ((decide (k > (0 : Int))) = true))
 (h6 : ((decide ((atF ll s) < (0 : Int))) = false))
 (h7 : ((k == (0 : Int)) = false))
 (h8 : ((k == (1 : Int)) = false))
 (h9 : ((k == (2 : Int)) = true))
 (h10 : ((decide (n < (0 : Int))) = false))
 (h11 : ((0 : Int) ≤ (atF ll s)))
 (h12 : ((atF ll s) < (((List.length ll) : Nat) : Int)))
 (h13 : ((decide (n > (((List.length (recW (List.getD ll (Int.toNat (atF ll s)) ([] : List (Abs.Fd))) ((0 : Nat) + (1 : Nat)))) : Nat) : Int))) = true))
 (h14 : ((1 : Int) = e)) :
 ∃ ps, runO Try.prog DF gW7 100 Try.f43 (wyIn ll ro st fu dn k s t b n ke) [.is false, .is true, .is true, .is false, .is false, .is false, .is true, .is false, .is true] (.v (.one (.int .i64 false e))) [] = some ps ∧ AllQ ps := ⟨_, by kernel_rfl, qc h1 (qc h2 (qc h3 (qc h4 (qc h5 (qc h6 (qc h7 (qc h8 (qc h9 (qc h10 (qc h11 (qc h12 (qc h13 (qc h14 (qn))))))))))))))⟩
theorem wy_2 (ll : List Rec) (ro st fu : Int) (dn : Bool) (k : Int) (s t : ByteArray) (b : List Int) (n : Int) (ke : List Int) (e : Int)
 (h1 : (dn = false))
 (h2 : ((rightB s) = true))
 (h3 : ((ByteArray.size s) ≤ (9223372036854775807 : Nat)))
 (h4 : ((List.length ll) ≤ (1000 : Nat)))
 (h5 : ((decide (k > (0 : Int))) = true))
 (h6 : ((decide ((atF ll s) < (0 : Int))) = false))
 (h7 : ((k == (0 : Int)) = false))
 (h8 : ((k == (1 : Int)) = false))
 (h9 : ((k == (2 : Int)) = true))
 (h10 : ((decide (n < (0 : Int))) = false))
 (h11 : ((0 : Int) ≤ (atF ll s)))
 (h12 : ((atF ll s) < (((List.length ll) : Nat) : Int)))
 (h13 : ((decide (n > (((List.length (recW (List.getD ll (Int.toNat (atF ll s)) ([] : List (Abs.Fd))) ((0 : Nat) + (1 : Nat)))) : Nat) : Int))) = false))
 (h14 : ((0 : Int) = e)) :
 ∃ ps, runO Try.prog DF gW7 100 Try.f43 (wyIn ll ro st fu dn k s t b n ke) [.is false, .is true, .is true, .is false, .is false, .is false, .is true, .is false, .is false] (.v (.one (.int .i64 false e))) [] = some ps ∧ AllQ ps := ⟨_, by kernel_rfl, qc h1 (qc h2 (qc h3 (qc h4 (qc h5 (qc h6 (qc h7 (qc h8 (qc h9 (qc h10 (qc h11 (qc h12 (qc h13 (qc h14 (qn))))))))))))))⟩
theorem wy_340 (ll : List Rec) (ro st fu : Int) (dn : Bool) (k : Int) (s t : ByteArray) (b : List Int) (n : Int) (ke : List Int) (e : Int)
 (h1 : (dn = false))
 (h2 : ((rightB s) = true))
 (h3 : ((ByteArray.size s) ≤ (9223372036854775807 : Nat)))
 (h4 : ((List.length ll) ≤ (1000 : Nat)))
 (h5 : ((decide (k > (0 : Int))) = true))
 (h6 : ((decide ((atF ll s) < (0 : Int))) = false))
 (h7 : ((k == (0 : Int)) = false))
 (h8 : ((k == (1 : Int)) = false))
 (h9 : ((k == (2 : Int)) = false))
 (h10 : ((k == (3 : Int)) = true))
 (h11 : ((rightB t) = false))
 (h12 : ((ByteArray.size t) ≤ (9223372036854775807 : Nat)))
 (h13 : ((40 : Int) = e)) :
 ∃ ps, runO Try.prog DF gW7 100 Try.f43 (wyIn ll ro st fu dn k s t b n ke) [.is false, .is true, .is true, .is false, .is false, .is false, .is false, .is true, .is false] (.v (.one (.int .i64 false e))) [] = some ps ∧ AllQ ps := ⟨_, by kernel_rfl, qc h1 (qc h2 (qc h3 (qc h4 (qc h5 (qc h6 (qc h7 (qc h8 (qc h9 (qc h10 (qc h11 (qc h12 (qc h13 (qn)))))))))))))⟩
theorem wy_3 (ll : List Rec) (ro st fu : Int) (dn : Bool) (k : Int) (s t : ByteArray) (b : List Int) (n : Int) (ke : List Int) (e : Int)
 (h1 : (dn = false))
 (h2 : ((rightB s) = true))
 (h3 : ((ByteArray.size s) ≤ (9223372036854775807 : Nat)))
 (h4 : ((List.length ll) ≤ (1000 : Nat)))
 (h5 : ((decide (k > (0 : Int))) = true))
 (h6 : ((decide ((atF ll s) < (0 : Int))) = false))
 (h7 : ((k == (0 : Int)) = false))
 (h8 : ((k == (1 : Int)) = false))
 (h9 : ((k == (2 : Int)) = false))
 (h10 : ((k == (3 : Int)) = true))
 (h11 : ((rightB t) = true))
 (h12 : ((ByteArray.size t) ≤ (9223372036854775807 : Nat)))
 (h13 : ((0 : Int) = e)) :
 ∃ ps, runO Try.prog DF gW7 100 Try.f43 (wyIn ll ro st fu dn k s t b n ke) [.is false, .is true, .is true, .is false, .is false, .is false, .is false, .is true, .is true] (.v (.one (.int .i64 false e))) [] = some ps ∧ AllQ ps := ⟨_, by kernel_rfl, qc h1 (qc h2 (qc h3 (qc h4 (qc h5 (qc h6 (qc h7 (qc h8 (qc h9 (qc h10 (qc h11 (qc h12 (qc h13 (qn)))))))))))))⟩
theorem wy_4 (ll : List Rec) (ro st fu : Int) (dn : Bool) (k : Int) (s t : ByteArray) (b : List Int) (n : Int) (ke : List Int) (e : Int)
 (h1 : (dn = false))
 (h2 : ((rightB s) = true))
 (h3 : ((ByteArray.size s) ≤ (9223372036854775807 : Nat)))
 (h4 : ((List.length ll) ≤ (1000 : Nat)))
 (h5 : ((decide (k > (0 : Int))) = true))
 (h6 : ((decide ((atF ll s) < (0 : Int))) = false))
 (h7 : ((k == (0 : Int)) = false))
 (h8 : ((k == (1 : Int)) = false))
 (h9 : ((k == (2 : Int)) = false))
 (h10 : ((k == (3 : Int)) = false))
 (h11 : ((0 : Int) = e)) :
 ∃ ps, runO Try.prog DF gW7 100 Try.f43 (wyIn ll ro st fu dn k s t b n ke) [.is false, .is true, .is true, .is false, .is false, .is false, .is false, .is false] (.v (.one (.int .i64 false e))) [] = some ps ∧ AllQ ps := ⟨_, by kernel_rfl, qc h1 (qc h2 (qc h3 (qc h4 (qc h5 (qc h6 (qc h7 (qc h8 (qc h9 (qc h10 (qc h11 (qn)))))))))))⟩
noncomputable def gC7 : Gam DF := [(freezeId, .fn (freezeD DF [30, 45, 61, 72, 78])), (40, .fn at7D), (11, .fn (copyD DF)), (47, .rd [false, false] wo7R), (41, .rd [false, true] wi7R)]
theorem gC7_ok : GamOK Try.prog DF gC7 := gam_freeze (gam_cons at7_ok (gam_cons (copy_ok DF) (gam_rd wo7_ok (gam_rd wi7_ok gam_nil))))
theorem ch_0n (ll : List Rec) (ro st fu : Int) (dn : Bool) (k : Int) (s t : ByteArray) (b : List Int) (n : Int) (ke : List Int) (rs : List Rec)
 (h1 : ((List.length ll) ≤ (1000 : Nat)))
 (h2 : ((decide ((atF ll s) ≥ (0 : Int))) = false))
 (h3 : ((k == (0 : Int)) = true))
 (h4 : (((0 : Nat) + (List.length b)) ≤ (9223372036854775807 : Nat)))
 (h5 : ((((0 : Nat) + (List.length b)) * (1 : Nat)) ≤ (140737488355328 : Nat)))
 (h6 : ((wiF ll s (([] : List (Int)) ++ b) (0 : Int)) = rs)) :
 ∃ ps, runO Try.prog DF gC7 100 Try.f44 (wyIn ll ro st fu dn k s t b n ke) [.is false, .is true] (.v (dV7 rs ro st fu dn)) [] = some ps ∧ AllQ ps := ⟨_, by kernel_rfl, qc h1 (qc h2 (qc h3 (qc (show ((0 : Nat) ≤ (281474976710656 : Nat)) from by decide) (qc h4 (qc h5 (qc (Eq.refl ll) (qc (Eq.refl s) (qc (Eq.refl ((([] : List (Int)) ++ b))) (qc (Eq.refl ((0 : Int))) (qc h1 (qc h6 (qc (Eq.refl ro) (qc (Eq.refl st) (qc (Eq.refl fu) (qc (Eq.refl dn) (qn))))))))))))))))⟩
theorem ch_0o (ll : List Rec) (ro st fu : Int) (dn : Bool) (k : Int) (s t : ByteArray) (b : List Int) (n : Int) (ke : List Int) (rs : List Rec)
 (h1 : ((List.length ll) ≤ (1000 : Nat)))
 (h2 : ((decide ((atF ll s) ≥ (0 : Int))) = true))
 (h3 : ((0 : Int) ≤ (atF ll s)))
 (h4 : ((atF ll s) < (((List.length ll) : Nat) : Int)))
 (h5 : ((k == (0 : Int)) = true))
 (h6 : ((List.length (recW (List.getD ll (Int.toNat (atF ll s)) ([] : List (Abs.Fd))) ((0 : Nat) + (1 : Nat)))) ≤ (281474976710656 : Nat)))
 (h7 : (((List.length (recW (List.getD ll (Int.toNat (atF ll s)) ([] : List (Abs.Fd))) ((0 : Nat) + (1 : Nat)))) + (List.length b)) ≤ (9223372036854775807 : Nat)))
 (h8 : ((((List.length (recW (List.getD ll (Int.toNat (atF ll s)) ([] : List (Abs.Fd))) ((0 : Nat) + (1 : Nat)))) + (List.length b)) * (1 : Nat)) ≤ (140737488355328 : Nat)))
 (h9 : ((wiF ll (recS (List.getD ll (Int.toNat (atF ll s)) ([] : List (Abs.Fd))) (0 : Nat)) ((recW (List.getD ll (Int.toNat (atF ll s)) ([] : List (Abs.Fd))) ((0 : Nat) + (1 : Nat))) ++ b) (recI (List.getD ll (Int.toNat (atF ll s)) ([] : List (Abs.Fd))) (((0 : Nat) + (1 : Nat)) + (1 : Nat)))) = rs)) :
 ∃ ps, runO Try.prog DF gC7 100 Try.f44 (wyIn ll ro st fu dn k s t b n ke) [.is true, .is true] (.v (dV7 rs ro st fu dn)) [] = some ps ∧ AllQ ps := ⟨_, by kernel_rfl, qc h1 (qc h2 (qc h3 (qc h4 (qc h5 (qc h6 (qc h7 (qc h8 (qc (Eq.refl ll) (qc (Eq.refl ((recS (List.getD ll (Int.toNat (atF ll s)) ([] : List (Abs.Fd))) (0 : Nat)))) (qc (Eq.refl (((recW (List.getD ll (Int.toNat (atF ll s)) ([] : List (Abs.Fd))) ((0 : Nat) + (1 : Nat))) ++ b))) (qc (Eq.refl ((recI (List.getD ll (Int.toNat (atF ll s)) ([] : List (Abs.Fd))) (((0 : Nat) + (1 : Nat)) + (1 : Nat))))) (qc h1 (qc h9 (qc (Eq.refl ro) (qc (Eq.refl st) (qc (Eq.refl fu) (qc (Eq.refl dn) (qn))))))))))))))))))⟩
theorem ch_1 (ll : List Rec) (ro st fu : Int) (dn : Bool) (k : Int) (s t : ByteArray) (b : List Int) (n : Int) (ke : List Int) (rs : List Rec)
 (h1 : ((List.length ll) ≤ (1000 : Nat)))
 (h2 : ((decide ((atF ll s) ≥ (0 : Int))) = true))
 (h3 : ((0 : Int) ≤ (atF ll s)))
 (h4 : ((atF ll s) < (((List.length ll) : Nat) : Int)))
 (h5 : ((k == (0 : Int)) = false))
 (h6 : ((k == (1 : Int)) = true))
 (h7 : ((wiF ll (recS (List.getD ll (Int.toNat (atF ll s)) ([] : List (Abs.Fd))) (0 : Nat)) (recW (List.getD ll (Int.toNat (atF ll s)) ([] : List (Abs.Fd))) ((0 : Nat) + (1 : Nat))) (((List.length (recW (List.getD ll (Int.toNat (atF ll s)) ([] : List (Abs.Fd))) ((0 : Nat) + (1 : Nat)))) : Nat) : Int)) = rs)) :
 ∃ ps, runO Try.prog DF gC7 100 Try.f44 (wyIn ll ro st fu dn k s t b n ke) [.is true, .is false, .is true] (.v (dV7 rs ro st fu dn)) [] = some ps ∧ AllQ ps := ⟨_, by kernel_rfl, qc h1 (qc h2 (qc h3 (qc h4 (qc h5 (qc h6 (qc (Eq.refl ll) (qc (Eq.refl ((recS (List.getD ll (Int.toNat (atF ll s)) ([] : List (Abs.Fd))) (0 : Nat)))) (qc (Eq.refl ((recW (List.getD ll (Int.toNat (atF ll s)) ([] : List (Abs.Fd))) ((0 : Nat) + (1 : Nat))))) (qc (Eq.refl ((((List.length (recW (List.getD ll (Int.toNat (atF ll s)) ([] : List (Abs.Fd))) ((0 : Nat) + (1 : Nat)))) : Nat) : Int))) (qc h1 (qc h7 (qc (Eq.refl ro) (qc (Eq.refl st) (qc (Eq.refl fu) (qc (Eq.refl dn) (qn))))))))))))))))⟩
theorem ch_2c (ll : List Rec) (ro st fu : Int) (dn : Bool) (k : Int) (s t : ByteArray) (b : List Int) (n : Int) (ke : List Int) (rs : List Rec)
 (h1 : ((List.length ll) ≤ (1000 : Nat)))
 (h2 : ((decide ((atF ll s) ≥ (0 : Int))) = true))
 (h3 : ((0 : Int) ≤ (atF ll s)))
 (h4 : ((atF ll s) < (((List.length ll) : Nat) : Int)))
 (h5 : ((k == (0 : Int)) = false))
 (h6 : ((k == (1 : Int)) = false))
 (h7 : ((k == (2 : Int)) = true))
 (h8 : ((0 : Int) ≤ n))
 (h9 : (n ≤ (((List.length (recW (List.getD ll (Int.toNat (atF ll s)) ([] : List (Abs.Fd))) ((0 : Nat) + (1 : Nat)))) : Nat) : Int)))
 (h10 : ((List.length (List.drop (0 : Nat) (List.take (Int.toNat n) (recW (List.getD ll (Int.toNat (atF ll s)) ([] : List (Abs.Fd))) ((0 : Nat) + (1 : Nat)))))) ≤ (281474976710656 : Nat)))
 (h11 : ((decide ((recI (List.getD ll (Int.toNat (atF ll s)) ([] : List (Abs.Fd))) (((0 : Nat) + (1 : Nat)) + (1 : Nat))) > n)) = true))
 (h12 : ((wiF ll (recS (List.getD ll (Int.toNat (atF ll s)) ([] : List (Abs.Fd))) (0 : Nat)) (List.drop (0 : Nat) (List.take (Int.toNat n) (recW (List.getD ll (Int.toNat (atF ll s)) ([] : List (Abs.Fd))) ((0 : Nat) + (1 : Nat))))) n) = rs)) :
 ∃ ps, runO Try.prog DF gC7 100 Try.f44 (wyIn ll ro st fu dn k s t b n ke) [.is true, .is false, .is false, .is true, .is true] (.v (dV7 rs ro st fu dn)) [] = some ps ∧ AllQ ps := ⟨_, by kernel_rfl, qc h1 (qc h2 (qc h3 (qc h4 (qc h5 (qc h6 (qc h7 (qc (show ((0 : Int) ≤ (0 : Int)) from by decide) (qc h8 (qc h9 (qc h10 (qc h11 (qc (Eq.refl ll) (qc (Eq.refl ((recS (List.getD ll (Int.toNat (atF ll s)) ([] : List (Abs.Fd))) (0 : Nat)))) (qc (Eq.refl ((List.drop (0 : Nat) (List.take (Int.toNat n) (recW (List.getD ll (Int.toNat (atF ll s)) ([] : List (Abs.Fd))) ((0 : Nat) + (1 : Nat))))))) (qc (Eq.refl n) (qc h1 (qc h12 (qc (Eq.refl ro) (qc (Eq.refl st) (qc (Eq.refl fu) (qc (Eq.refl dn) (qn))))))))))))))))))))))⟩
theorem ch_2k (ll : List Rec) (ro st fu : Int) (dn : Bool) (k : Int) (s t : ByteArray) (b : List Int) (n : Int) (ke : List Int) (rs : List Rec)
 (h1 : ((List.length ll) ≤ (1000 : Nat)))
 (h2 : ((decide ((atF ll s) ≥ (0 : Int))) = true))
 (h3 : ((0 : Int) ≤ (atF ll s)))
 (h4 : ((atF ll s) < (((List.length ll) : Nat) : Int)))
 (h5 : ((k == (0 : Int)) = false))
 (h6 : ((k == (1 : Int)) = false))
 (h7 : ((k == (2 : Int)) = true))
 (h8 : ((0 : Int) ≤ n))
 (h9 : (n ≤ (((List.length (recW (List.getD ll (Int.toNat (atF ll s)) ([] : List (Abs.Fd))) ((0 : Nat) + (1 : Nat)))) : Nat) : Int)))
 (h10 : ((List.length (List.drop (0 : Nat) (List.take (Int.toNat n) (recW (List.getD ll (Int.toNat (atF ll s)) ([] : List (Abs.Fd))) ((0 : Nat) + (1 : Nat)))))) ≤ (281474976710656 : Nat)))
 (h11 : ((decide ((recI (List.getD ll (Int.toNat (atF ll s)) ([] : List (Abs.Fd))) (((0 : Nat) + (1 : Nat)) + (1 : Nat))) > n)) = false))
 (h12 : ((wiF ll (recS (List.getD ll (Int.toNat (atF ll s)) ([] : List (Abs.Fd))) (0 : Nat)) (List.drop (0 : Nat) (List.take (Int.toNat n) (recW (List.getD ll (Int.toNat (atF ll s)) ([] : List (Abs.Fd))) ((0 : Nat) + (1 : Nat))))) (recI (List.getD ll (Int.toNat (atF ll s)) ([] : List (Abs.Fd))) (((0 : Nat) + (1 : Nat)) + (1 : Nat)))) = rs)) :
 ∃ ps, runO Try.prog DF gC7 100 Try.f44 (wyIn ll ro st fu dn k s t b n ke) [.is true, .is false, .is false, .is true, .is false] (.v (dV7 rs ro st fu dn)) [] = some ps ∧ AllQ ps := ⟨_, by kernel_rfl, qc h1 (qc h2 (qc h3 (qc h4 (qc h5 (qc h6 (qc h7 (qc (show ((0 : Int) ≤ (0 : Int)) from by decide) (qc h8 (qc h9 (qc h10 (qc h11 (qc (Eq.refl ll) (qc (Eq.refl ((recS (List.getD ll (Int.toNat (atF ll s)) ([] : List (Abs.Fd))) (0 : Nat)))) (qc (Eq.refl ((List.drop (0 : Nat) (List.take (Int.toNat n) (recW (List.getD ll (Int.toNat (atF ll s)) ([] : List (Abs.Fd))) ((0 : Nat) + (1 : Nat))))))) (qc (Eq.refl ((recI (List.getD ll (Int.toNat (atF ll s)) ([] : List (Abs.Fd))) (((0 : Nat) + (1 : Nat)) + (1 : Nat))))) (qc h1 (qc h12 (qc (Eq.refl ro) (qc (Eq.refl st) (qc (Eq.refl fu) (qc (Eq.refl dn) (qn))))))))))))))))))))))⟩
theorem ch_3 (ll : List Rec) (ro st fu : Int) (dn : Bool) (k : Int) (s t : ByteArray) (b : List Int) (n : Int) (ke : List Int) (rs : List Rec)
 (h1 : ((List.length ll) ≤ (1000 : Nat)))
 (h2 : ((decide ((atF ll s) ≥ (0 : Int))) = true))
 (h3 : ((0 : Int) ≤ (atF ll s)))
 (h4 : ((atF ll s) < (((List.length ll) : Nat) : Int)))
 (h5 : ((k == (0 : Int)) = false))
 (h6 : ((k == (1 : Int)) = false))
 (h7 : ((k == (2 : Int)) = false))
 (h8 : ((k == (3 : Int)) = true))
 (h9 : ((List.length (woF ll s)) ≤ (1000 : Nat)))
 (h10 : ((wiF (woF ll s) t (recW (List.getD ll (Int.toNat (atF ll s)) ([] : List (Abs.Fd))) ((0 : Nat) + (1 : Nat))) (recI (List.getD ll (Int.toNat (atF ll s)) ([] : List (Abs.Fd))) (((0 : Nat) + (1 : Nat)) + (1 : Nat)))) = rs)) :
 ∃ ps, runO Try.prog DF gC7 100 Try.f44 (wyIn ll ro st fu dn k s t b n ke) [.is true, .is false, .is false, .is false, .is true] (.v (dV7 rs ro st fu dn)) [] = some ps ∧ AllQ ps := ⟨_, by kernel_rfl, qc h1 (qc h2 (qc h3 (qc h4 (qc h5 (qc h6 (qc h7 (qc h8 (qc (Eq.refl ll) (qc (Eq.refl s) (qc h1 (qc (Eq.refl ((woF ll s))) (qc (Eq.refl t) (qc (Eq.refl ((recW (List.getD ll (Int.toNat (atF ll s)) ([] : List (Abs.Fd))) ((0 : Nat) + (1 : Nat))))) (qc (Eq.refl ((recI (List.getD ll (Int.toNat (atF ll s)) ([] : List (Abs.Fd))) (((0 : Nat) + (1 : Nat)) + (1 : Nat))))) (qc h9 (qc h10 (qc (Eq.refl ro) (qc (Eq.refl st) (qc (Eq.refl fu) (qc (Eq.refl dn) (qn)))))))))))))))))))))⟩
theorem ch_4 (ll : List Rec) (ro st fu : Int) (dn : Bool) (k : Int) (s t : ByteArray) (b : List Int) (n : Int) (ke : List Int) (rs : List Rec)
 (h1 : ((List.length ll) ≤ (1000 : Nat)))
 (h2 : ((decide ((atF ll s) ≥ (0 : Int))) = true))
 (h3 : ((0 : Int) ≤ (atF ll s)))
 (h4 : ((atF ll s) < (((List.length ll) : Nat) : Int)))
 (h5 : ((k == (0 : Int)) = false))
 (h6 : ((k == (1 : Int)) = false))
 (h7 : ((k == (2 : Int)) = false))
 (h8 : ((k == (3 : Int)) = false))
 (h9 : ((k == (4 : Int)) = true))
 (h10 : ((woF ll s) = rs)) :
 ∃ ps, runO Try.prog DF gC7 100 Try.f44 (wyIn ll ro st fu dn k s t b n ke) [.is true, .is false, .is false, .is false, .is false, .is true] (.v (dV7 rs ro st fu dn)) [] = some ps ∧ AllQ ps := ⟨_, by kernel_rfl, qc h1 (qc h2 (qc h3 (qc h4 (qc h5 (qc h6 (qc h7 (qc h8 (qc h9 (qc (Eq.refl ll) (qc (Eq.refl s) (qc h1 (qc h10 (qc (Eq.refl ro) (qc (Eq.refl st) (qc (Eq.refl fu) (qc (Eq.refl dn) (qn)))))))))))))))))⟩
end Go.Num
namespace Go.Num
open Go.Abs Go.Proofs Go.Shelf Go.RowKit
noncomputable def gX7 : Gam DF := [(freezeId, .fn (freezeD DF [87])), (11, .fz (copyD DF)), (30, .fn safe7D)]
theorem gX7_ok : GamOK Try.prog DF gX7 := gam_freeze (gam_fz (copy_ok DF) (gam_cons safe7_ok gam_nil))
def oB7 (ro st : Int) : BoxSt DF.τ := .fixed 56 [.own 3, .int .i64 false ro, .int .i64 false st, .int .i64 true 0, .bool true false]
def cxSn (ll : List Rec) (ro st fu : Int) (dn : Bool) (ke : List Int) (cur : List Rec) (k : Int) : Sn DF.τ where
  slots := [(1, .v (.one (.words .i64 ke))), (2, .v (.one (.ref 0 0))), (4, .v (.one (.ref 1 0))), (5, .v (.one (.ref 2 0))), (22, .v (.one (.int .i64 false ll.length))), (23, .v (.one (.int .i64 false k)))]
  boxes := [(0, dB7 ll ro st fu dn), (1, dZ7), (2, oB7 ro st), (3, imB cur)]
  nt := 88
def cxEnd (ro st : Int) (cur : List Rec) : Sn DF.τ where
  slots := [(4, .v (.one (.ref 1 0))), (5, .v (.one (.ref 2 0)))]
  boxes := [(1, dZ7), (2, oB7 ro st), (3, imB cur)]
  nt := 88
def ciSn (ll : List Rec) (ro st fu : Int) (dn : Bool) (ke : List Int) (cur : List Rec) (k : Int) (s : ByteArray) (l : List Int) (m n : Int) : Sn DF.τ where
  slots := [(1, .v (.one (.words .i64 ke))), (2, .v (.one (.ref 0 0))), (4, .v (.one (.ref 1 0))), (5, .v (.one (.ref 2 0))), (6, .v (.one (.int .i64 false k))), (7, .v (.one (.ref 4 0))), (8, .v (.one (.int .i64 false n))), (22, .v (.one (.int .i64 false ll.length))), (23, .v (.one (.int .i64 false k)))]
  boxes := [(0, dB7 ll ro st fu dn), (1, dZ7), (2, oB7 ro st), (3, imB cur), (4, .fixed 46 (fP7 s l m))]
  nt := 88
theorem ci_step (ll : List Rec) (ro st fu : Int) (dn : Bool) (ke : List Int) (cur : List Rec) (k : Int) (s : ByteArray) (l : List Int) (m n : Int) (cur' : List Rec) (n' : Int)
 (h1 : ((decide (k < (((List.length ke) : Nat) : Int))) = true))
 (h2 : ((decide (n < (((List.length l) : Nat) : Int))) = true))
 (h3 : (InI64 (n - m)))
 (h4 : ((0 : Int) ≤ k))
 (h5 : (k < (((List.length ke) : Nat) : Int)))
 (h6 : ((decide ((n - m) < (List.getD ke (Int.toNat k) (0 : Int)))) = true))
 (h7 : (Row7 cur))
 (h8 : ((decide ((safeF cur) < ro)) = true))
 (h9 : (InI64 (n + (1 : Int))))
 (h10 : (k < (((List.length cur) : Nat) : Int)))
 (h11 : ((Int.toNat k) < (List.length cur)))
 (h12 : (InI64 ((recI (List.getD cur (Int.toNat k) ([] : List (Abs.Fd))) (((0 : Nat) + (1 : Nat)) + (1 : Nat))) + (1 : Int))))
 (h13 : ((n + (1 : Int)) = n'))
 (h14 : ((List.set cur (Int.toNat k) [(Fd.s (recS (List.getD cur (Int.toNat k) ([] : List (Abs.Fd))) (0 : Nat))), (Fd.w (recW (List.getD cur (Int.toNat k) ([] : List (Abs.Fd))) ((0 : Nat) + (1 : Nat)))), (Fd.i ((recI (List.getD cur (Int.toNat k) ([] : List (Abs.Fd))) (((0 : Nat) + (1 : Nat)) + (1 : Nat))) + (1 : Int)))]) = cur')) :
 ∃ ps, stepPs Try.prog DF gX7 100 (bodyN Try.f42 1) 100 (ciSn ll ro st fu dn ke cur k s l m n).st [.is true, .is true, .is true, .is true] .normal (ciSn ll ro st fu dn ke cur' k s l m n') = some ps ∧ AllQ ps := ⟨_, by kernel_rfl, qc h1 (qc h2 (qc h3 (qc h4 (qc h5 (qc h6 (qc h7 (qc h8 (qc h9 (qc h4 (qc h10 (qc h11 (qc h12 (qc h4 (qc h10 (qc h11 (qc (show ((1 : Nat) = ((Go.TypeInfo.mk (Go.TypeDesc.int Go.IntKind.i64) "int" (1 : Nat) (8 : Nat) false (8 : Nat) (8 : Nat) (Option.some (Go.Value.int Go.IntKind.i64 (0 : Int))) true (Array.mk ([] : List (Method))))).3) from by decide) (qc (Eq.refl ke) (qc (Eq.refl k) (qc h13 (qc (Eq.refl ((((List.length ll) : Nat) : Int))) (qc (Eq.refl k) (qc (Eq.refl ll) (qc (Eq.refl ro) (qc (Eq.refl st) (qc (Eq.refl fu) (qc (Eq.refl dn) (qc (Eq.refl ro) (qc (Eq.refl st) (qc h14 (qc (Eq.refl s) (qc (Eq.refl l) (qc (Eq.refl m) (qn)))))))))))))))))))))))))))))))))⟩
theorem ci_e1 (ll : List Rec) (ro st fu : Int) (dn : Bool) (ke : List Int) (cur : List Rec) (k : Int) (s : ByteArray) (l : List Int) (m n : Int)
 (h1 : ((decide (k < (((List.length ke) : Nat) : Int))) = false)) :
 ∃ ps, stepPs Try.prog DF gX7 100 (bodyN Try.f42 1) 100 (ciSn ll ro st fu dn ke cur k s l m n).st [.is false] (.exit 2) (ciSn ll ro st fu dn ke cur k s l m n) = some ps ∧ AllQ ps := ⟨_, by kernel_rfl, qc h1 (qc (Eq.refl ke) (qc (Eq.refl k) (qc (Eq.refl n) (qc (Eq.refl ((((List.length ll) : Nat) : Int))) (qc (Eq.refl k) (qc (Eq.refl ll) (qc (Eq.refl ro) (qc (Eq.refl st) (qc (Eq.refl fu) (qc (Eq.refl dn) (qc (Eq.refl ro) (qc (Eq.refl st) (qc (Eq.refl cur) (qc (Eq.refl s) (qc (Eq.refl l) (qc (Eq.refl m) (qn)))))))))))))))))⟩
theorem ci_e2 (ll : List Rec) (ro st fu : Int) (dn : Bool) (ke : List Int) (cur : List Rec) (k : Int) (s : ByteArray) (l : List Int) (m n : Int)
 (h1 : ((decide (k < (((List.length ke) : Nat) : Int))) = true))
 (h2 : ((decide (n < (((List.length l) : Nat) : Int))) = false)) :
 ∃ ps, stepPs Try.prog DF gX7 100 (bodyN Try.f42 1) 100 (ciSn ll ro st fu dn ke cur k s l m n).st [.is true, .is false] (.exit 2) (ciSn ll ro st fu dn ke cur k s l m n) = some ps ∧ AllQ ps := ⟨_, by kernel_rfl, qc h1 (qc h2 (qc (Eq.refl ke) (qc (Eq.refl k) (qc (Eq.refl n) (qc (Eq.refl ((((List.length ll) : Nat) : Int))) (qc (Eq.refl k) (qc (Eq.refl ll) (qc (Eq.refl ro) (qc (Eq.refl st) (qc (Eq.refl fu) (qc (Eq.refl dn) (qc (Eq.refl ro) (qc (Eq.refl st) (qc (Eq.refl cur) (qc (Eq.refl s) (qc (Eq.refl l) (qc (Eq.refl m) (qn))))))))))))))))))⟩
theorem ci_e3 (ll : List Rec) (ro st fu : Int) (dn : Bool) (ke : List Int) (cur : List Rec) (k : Int) (s : ByteArray) (l : List Int) (m n : Int)
 (h1 : ((decide (k < (((List.length ke) : Nat) : Int))) = true))
 (h2 : ((decide (n < (((List.length l) : Nat) : Int))) = true))
 (h3 : (InI64 (n - m)))
 (h4 : ((0 : Int) ≤ k))
 (h5 : (k < (((List.length ke) : Nat) : Int)))
 (h6 : ((decide ((n - m) < (List.getD ke (Int.toNat k) (0 : Int)))) = false)) :
 ∃ ps, stepPs Try.prog DF gX7 100 (bodyN Try.f42 1) 100 (ciSn ll ro st fu dn ke cur k s l m n).st [.is true, .is true, .is false] (.exit 2) (ciSn ll ro st fu dn ke cur k s l m n) = some ps ∧ AllQ ps := ⟨_, by kernel_rfl, qc h1 (qc h2 (qc h3 (qc h4 (qc h5 (qc h6 (qc (Eq.refl ke) (qc (Eq.refl k) (qc (Eq.refl n) (qc (Eq.refl ((((List.length ll) : Nat) : Int))) (qc (Eq.refl k) (qc (Eq.refl ll) (qc (Eq.refl ro) (qc (Eq.refl st) (qc (Eq.refl fu) (qc (Eq.refl dn) (qc (Eq.refl ro) (qc (Eq.refl st) (qc (Eq.refl cur) (qc (Eq.refl s) (qc (Eq.refl l) (qc (Eq.refl m) (qn))))))))))))))))))))))⟩
theorem ci_e4 (ll : List Rec) (ro st fu : Int) (dn : Bool) (ke : List Int) (cur : List Rec) (k : Int) (s : ByteArray) (l : List Int) (m n : Int)
 (h1 : ((decide (k < (((List.length ke) : Nat) : Int))) = true))
 (h2 : ((decide (n < (((List.length l) : Nat) : Int))) = true))
 (h3 : (InI64 (n - m)))
 (h4 : ((0 : Int) ≤ k))
 (h5 : (k < (((List.length ke) : Nat) : Int)))
 (h6 : ((decide ((n - m) < (List.getD ke (Int.toNat k) (0 : Int)))) = true))
 (h7 : (Row7 cur))
 (h8 : ((decide ((safeF cur) < ro)) = false)) :
 ∃ ps, stepPs Try.prog DF gX7 100 (bodyN Try.f42 1) 100 (ciSn ll ro st fu dn ke cur k s l m n).st [.is true, .is true, .is true, .is false] (.exit 2) (ciSn ll ro st fu dn ke cur k s l m n) = some ps ∧ AllQ ps := ⟨_, by kernel_rfl, qc h1 (qc h2 (qc h3 (qc h4 (qc h5 (qc h6 (qc h7 (qc h8 (qc (Eq.refl ke) (qc (Eq.refl k) (qc (Eq.refl n) (qc (Eq.refl ((((List.length ll) : Nat) : Int))) (qc (Eq.refl k) (qc (Eq.refl ll) (qc (Eq.refl ro) (qc (Eq.refl st) (qc (Eq.refl fu) (qc (Eq.refl dn) (qc (Eq.refl ro) (qc (Eq.refl st) (qc (Eq.refl cur) (qc (Eq.refl s) (qc (Eq.refl l) (qc (Eq.refl m) (qn))))))))))))))))))))))))⟩
theorem cx_step (ll : List Rec) (ro st fu : Int) (dn : Bool) (ke : List Int) (cur : List Rec) (k : Int) (s : ByteArray) (l : List Int) (m n : Int) (cur' cur2 : List Rec) (k' : Int)
 (h1 : ((decide (k < (((List.length ll) : Nat) : Int))) = true))
 (h2 : ((0 : Int) ≤ k))
 (h3 : (k < (((List.length cur) : Nat) : Int)))
 (h4 : ((Int.toNat k) < (List.length cur)))
 (h5 : SumOK Try.prog DF (bodyN Try.f42 1) (loopL DF (ciSn ll ro st fu dn ke cur k s l m m) (.exit 2) (ciSn ll ro st fu dn ke cur' k s l m n)))
 (h6 : ((recI (List.getD cur (Int.toNat k) ([] : List (Abs.Fd))) (((0 : Nat) + (1 : Nat)) + (1 : Nat))) = m))
 (h7 : ((recS (List.getD cur (Int.toNat k) ([] : List (Abs.Fd))) (0 : Nat)) = s))
 (h8 : ((recW (List.getD cur (Int.toNat k) ([] : List (Abs.Fd))) ((0 : Nat) + (1 : Nat))) = l))
 (h9 : ((0 : Int) ≤ n))
 (h10 : (n ≤ (((List.length l) : Nat) : Int)))
 (h11 : ((List.length (List.drop (0 : Nat) (List.take (Int.toNat n) l))) ≤ (281474976710656 : Nat)))
 (h12 : (k < (((List.length cur') : Nat) : Int)))
 (h13 : ((Int.toNat k) < (List.length cur')))
 (h14 : (InI64 (k + (1 : Int))))
 (h15 : ((k + (1 : Int)) = k'))
 (h16 : ((List.set cur' (Int.toNat k) [(Fd.s s), (Fd.w (List.drop (0 : Nat) (List.take (Int.toNat n) l))), (Fd.i n)]) = cur2)) :
 ∃ ps, stepPs Try.prog DF gX7 100 (bodyN Try.f42 0) 100 (cxSn ll ro st fu dn ke cur k).st [.is true, .loop (loopL DF (ciSn ll ro st fu dn ke cur k s l m m) (.exit 2) (ciSn ll ro st fu dn ke cur' k s l m n))] .normal (cxSn ll ro st fu dn ke cur2 k') = some ps ∧ AllQ ps := ⟨_, by kernel_rfl, qc h1 (qc h2 (qc h3 (qc h4 (qc h5 (qc (Eq.refl ke) (qc (Eq.refl k) (qc h6 (qc (Eq.refl ((((List.length ll) : Nat) : Int))) (qc (Eq.refl k) (qc (Eq.refl ll) (qc (Eq.refl ro) (qc (Eq.refl st) (qc (Eq.refl fu) (qc (Eq.refl dn) (qc (Eq.refl ro) (qc (Eq.refl st) (qc (Eq.refl cur) (qc h7 (qc h8 (qc h6 (qc (show ((0 : Int) ≤ (0 : Int)) from by decide) (qc h9 (qc h10 (qc h11 (qc h2 (qc h12 (qc h13 (qc (show ((3 : Nat) = ((Go.TypeInfo.mk (Go.TypeDesc.named "cresset/api.File" (45 : Nat)) "api.File" (3 : Nat) (48 : Nat) true (8 : Nat) (8 : Nat) (Option.some (Go.Value.agg (Array.mk [(Go.Value.string (ByteArray.mk (Array.mk ([] : List (UInt8))))), (Go.Value.slice (Option.none) (0 : Nat) (0 : Nat)), (Go.Value.int Go.IntKind.i64 (0 : Int))]))) false (Array.mk ([] : List (Method))))).3) from by decide) (qc h14 (qc (Eq.refl ke) (qc (Eq.refl ((((List.length ll) : Nat) : Int))) (qc h15 (qc (Eq.refl ll) (qc (Eq.refl ro) (qc (Eq.refl st) (qc (Eq.refl fu) (qc (Eq.refl dn) (qc (Eq.refl ro) (qc (Eq.refl st) (qc h16 (qn)))))))))))))))))))))))))))))))))))))))))⟩
theorem cx_exit (ll : List Rec) (ro st fu : Int) (dn : Bool) (ke : List Int) (cur : List Rec) (k : Int)
 (h1 : ((decide (k < (((List.length ll) : Nat) : Int))) = false)) :
 ∃ ps, stepPs Try.prog DF gX7 100 (bodyN Try.f42 0) 100 (cxSn ll ro st fu dn ke cur k).st [.is false] (.exit 0) (cxEnd ro st cur) = some ps ∧ AllQ ps := ⟨_, by kernel_rfl, qc h1 (qc (Eq.refl ro) (qc (Eq.refl st) (qc (Eq.refl cur) (qn))))⟩
theorem cx_run (ll : List Rec) (ro st fu : Int) (dn : Bool) (ke : List Int) (rs : List Rec)
 (h1 : (((List.length ll) * (48 : Nat)) ≤ (140737488355328 : Nat)))
 (h2 : ((List.length ll) ≤ (9223372036854775807 : Nat)))
 (h3 : SumOK Try.prog DF (bodyN Try.f42 0) (loopL DF (cxSn ll ro st fu dn ke ll (0 : Nat)) (.exit 0) (cxEnd ro st rs))) :
 ∃ ps, runO Try.prog DF gX7 100 Try.f42 ([], [dV7 ll ro st fu dn, .one (.words .i64 ke)]) [.loop (loopL DF (cxSn ll ro st fu dn ke ll (0 : Nat)) (.exit 0) (cxEnd ro st rs))] (.v (dV7 rs ro st 0 false)) [] = some ps ∧ AllQ ps := ⟨_, by kernel_rfl, qc h1 (qc h2 (qc h3 (qc (Eq.refl ke) (qc (Eq.refl ((((List.length ll) : Nat) : Int))) (qc (show ((0 : Int) = (((0 : Nat) : Nat) : Int)) from by decide) (qc (Eq.refl ll) (qc (Eq.refl ro) (qc (Eq.refl st) (qc (Eq.refl fu) (qc (Eq.refl dn) (qc (Eq.refl ro) (qc (Eq.refl st) (qc (Eq.refl ll) (qc (Eq.refl rs) (qc (Eq.refl ro) (qc (Eq.refl st) (qc (Eq.refl ((0 : Int))) (qc (Eq.refl false) (qn)))))))))))))))))))⟩
end Go.Num
namespace Go.Num
open Go.Abs Go.Proofs Go.Shelf Go.RowKit
def d7V (m : DTv) : A0 DF.τ := dV7 m.1 m.2.1 m.2.2.1 m.2.2.2.1 m.2.2.2.2
def d7Rd : A0 DF.τ → Option DTv
  | .agg [p, .int .i64 _ ro, .int .i64 _ st, .int .i64 _ fu, .bool _ dn] => (prsOf p).map (·, ro, st, fu, dn)
  | _ => none
def oRd : A0 DF.τ → Option OpT
  | .agg [.int .i64 _ k, .str s, .str t, .words .u8 b, .int .i64 _ n, .words .i64 ke] => some ⟨k, s, t, b, n, ke⟩
  | _ => none
def wyRd : List (BoxSt DF.τ) → List (A0 DF.τ) → Option (DTv × OpT)
  | [], [x, y] => match d7Rd x, oRd y with
    | some m, some o => some (m, o)
    | _, _ => none
  | _, _ => none
def wyPre (t : DTv × OpT) : List (BoxSt DF.τ) × List (A0 DF.τ) := ([], [d7V t.1, oP t.2.k t.2.s t.2.t t.2.b t.2.n t.2.ke])
theorem wyRd_nil {bs : List (BoxSt DF.τ)} {xs : List (A0 DF.τ)} {t : DTv × OpT} (h : wyRd bs xs = some t) : bs = [] := by
  unfold wyRd at h
  split at h
  · rfl
  · cases h
theorem int_lt_or (a b : Int) : a < b ∨ b ≤ a := by omega
structure Doc7 (ll : List Rec) (ro : Int) : Prop where
  len : ll.length ≤ 32
  rows : ∀ r ∈ ll, canonR r = r ∧ 0 ≤ recI r 2 ∧ recI r 2 ≤ ((recW r 1).length : Int) ∧ (recW r 1).length ≤ 140737488355328
  room : 0 ≤ ro ∧ ro ≤ 4194304
  free : safeF ll ≤ ro
theorem Doc7.row7 {ll : List Rec} {ro : Int} (h : Doc7 ll ro) : Row7 ll := by
  refine ⟨Nat.le_trans h.len (by decide), fun r hr => ?_⟩
  obtain ⟨_, h1, h2, h3⟩ := h.rows r hr
  exact ⟨h1, by omega, h3⟩
def row7 (ll : List Rec) (s : ByteArray) : Rec := ll.getD (atF ll s).toNat []
def why7 (ll : List Rec) (ro : Int) (dn : Bool) (o : OpT) : Int :=
  if dn = true then 2 else if rightB o.s = false then 40 else if 0 < o.k ∧ atF ll o.s < 0 then 41
  else if o.k = 0 then (if atF ll o.s < 0 ∧ 32 ≤ ll.length then 43 else if (0 ≤ atF ll o.s ∧ 4194304 < (recW (row7 ll o.s) 1).length + o.b.length) ∨ 4194304 < o.b.length then 18 else 0)
  else if o.k = 1 then (if ro < safeF ll - recI (row7 ll o.s) 2 + ((recW (row7 ll o.s) 1).length : Int) then 42 else 0)
  else if o.k = 2 then (if o.n < 0 ∨ ((recW (row7 ll o.s) 1).length : Int) < o.n then 1 else 0)
  else if o.k = 3 then (if rightB o.t = false then 40 else 0) else 0
theorem at_pos {ll : List Rec} {s : ByteArray} (h : 0 ≤ atF ll s) : atF ll s < (ll.length : Int) ∧ recS (row7 ll s) 0 = s := by
  rcases at_cases ll s with ⟨n, h1, h2, h3, h4⟩ | ⟨h1, h2⟩
  · rw [h4]
    refine ⟨by omega, ?_⟩
    unfold row7
    rw [h4, Int.toNat_natCast]
    exact h2
  · omega
noncomputable def why7R := mkF DF Try.f43.ntmps wyRd wyPre (fun t => some (.v (.one (.int .i64 false (why7 t.1.1 t.1.2.1 t.1.2.2.2.2 t.2))), [], [Row7 t.1.1, OpOk t.2, 0 ≤ t.2.k]))
theorem why7_ok : OpOK Try.prog DF 43 (withNew why7R) := by
  refine opOK_mkR mixed Try.func43 (enters_of Try.func43 (by kernel_rfl) rfl) (fun bs xs t h => (wyRd_nil h).symm) ?_
  rintro ⟨⟨ll, ro, st, fu, dn⟩, ⟨k, s, t, b, n, ke⟩⟩ r' ns ps h hps
  simp only [Option.some.injEq, Prod.mk.injEq] at h
  obtain ⟨rfl, rfl, rfl⟩ := h
  have hr : Row7 ll := hps (Row7 ll) (by simp)
  obtain ⟨hs, ht, hb, hn, hk⟩ : OpOk ⟨k, s, t, b, n, ke⟩ := hps (OpOk _) (by simp)
  have hk0 : 0 ≤ k := hps (0 ≤ k) (by simp)
  simp only at hs ht hb hn hk
  have hl := hr.1
  have hsf := hr.safe
  have hrow : 0 ≤ recI (row7 ll s) 2 ∧ recI (row7 ll s) 2 ≤ 140737488355328 ∧ (recW (row7 ll s) 1).length ≤ 140737488355328 := hr.at _
  simp only [why7]
  show ∃ Γ fuel ds, GamOK Try.prog DF Γ ∧ ∃ qs, runO Try.prog DF Γ fuel Try.f43 (wyIn ll ro st fu dn k s t b n ke) ds _ [] = some qs ∧ AllQ qs
  by_cases c0 : dn = true
  · exact ⟨_, _, _, gW7_ok, wy_down ll ro st fu dn k s t b n ke _ c0 (by rw [if_pos c0])⟩
  rw [if_neg c0]
  have c0' : dn = false := by simpa using c0
  cases c1 : rightB s
  · exact ⟨_, _, _, gW7_ok, wy_name ll ro st fu dn k s t b n ke _ c0' c1 hs (by rw [if_pos rfl])⟩
  rw [if_neg (by simp)]
  by_cases c2 : 0 < k
  · by_cases c3 : atF ll s < 0
    · exact ⟨_, _, _, gW7_ok, wy_gone ll ro st fu dn k s t b n ke _ c0' c1 hs hl (decide_eq_true c2) (decide_eq_true c3) (by rw [if_pos ⟨c2, c3⟩])⟩
    rw [if_neg (fun h => c3 h.2), if_neg (by omega)]
    obtain ⟨a1, a2⟩ := at_pos (ll := ll) (s := s) (by omega)
    by_cases d1 : k = 1
    · rw [if_pos d1]
      by_cases d2 : ro < safeF ll - recI (row7 ll s) 2 + ((recW (row7 ll s) 1).length : Int)
      · exact ⟨_, _, _, gW7_ok, wy_142 ll ro st fu dn k s t b n ke _ c0' c1 hs hl (decide_eq_true c2) (decide_eq_false c3) (beq_eq_false_iff_ne.2 (by omega)) (beq_iff_eq.2 d1) hr (by omega) a1 (show InI64 (safeF ll - recI (row7 ll s) 2) from ⟨by omega, by omega⟩) (show InI64 (safeF ll - recI (row7 ll s) 2 + ((recW (row7 ll s) 1).length : Int)) from ⟨by omega, by omega⟩) (decide_eq_true d2) (by rw [if_pos d2])⟩
      · exact ⟨_, _, _, gW7_ok, wy_1 ll ro st fu dn k s t b n ke _ c0' c1 hs hl (decide_eq_true c2) (decide_eq_false c3) (beq_eq_false_iff_ne.2 (by omega)) (beq_iff_eq.2 d1) hr (by omega) a1 (show InI64 (safeF ll - recI (row7 ll s) 2) from ⟨by omega, by omega⟩) (show InI64 (safeF ll - recI (row7 ll s) 2 + ((recW (row7 ll s) 1).length : Int)) from ⟨by omega, by omega⟩) (decide_eq_false d2) (by rw [if_neg d2])⟩
    rw [if_neg d1]
    by_cases d3 : k = 2
    · rw [if_pos d3]
      by_cases e1 : n < 0
      · exact ⟨_, _, _, gW7_ok, wy_2neg ll ro st fu dn k s t b n ke _ c0' c1 hs hl (decide_eq_true c2) (decide_eq_false c3) (beq_eq_false_iff_ne.2 (by omega)) (beq_eq_false_iff_ne.2 (by omega)) (beq_iff_eq.2 d3) (decide_eq_true e1) (by rw [if_pos (Or.inl e1)])⟩
      · by_cases e2 : ((recW (row7 ll s) 1).length : Int) < n
        · exact ⟨_, _, _, gW7_ok, wy_2big ll ro st fu dn k s t b n ke _ c0' c1 hs hl (decide_eq_true c2) (decide_eq_false c3) (beq_eq_false_iff_ne.2 (by omega)) (beq_eq_false_iff_ne.2 (by omega)) (beq_iff_eq.2 d3) (decide_eq_false e1) (by omega) a1 (decide_eq_true e2) (by rw [if_pos (Or.inr e2)])⟩
        · exact ⟨_, _, _, gW7_ok, wy_2 ll ro st fu dn k s t b n ke _ c0' c1 hs hl (decide_eq_true c2) (decide_eq_false c3) (beq_eq_false_iff_ne.2 (by omega)) (beq_eq_false_iff_ne.2 (by omega)) (beq_iff_eq.2 d3) (decide_eq_false e1) (by omega) a1 (decide_eq_false e2) (by rw [if_neg (fun h => h.elim e1 e2)])⟩
    rw [if_neg d3]
    by_cases d4 : k = 3
    · rw [if_pos d4]
      cases e1 : rightB t
      · exact ⟨_, _, _, gW7_ok, wy_340 ll ro st fu dn k s t b n ke _ c0' c1 hs hl (decide_eq_true c2) (decide_eq_false c3) (beq_eq_false_iff_ne.2 (by omega)) (beq_eq_false_iff_ne.2 (by omega)) (beq_eq_false_iff_ne.2 (by omega)) (beq_iff_eq.2 d4) e1 ht (by rw [if_pos rfl])⟩
      · exact ⟨_, _, _, gW7_ok, wy_3 ll ro st fu dn k s t b n ke _ c0' c1 hs hl (decide_eq_true c2) (decide_eq_false c3) (beq_eq_false_iff_ne.2 (by omega)) (beq_eq_false_iff_ne.2 (by omega)) (beq_eq_false_iff_ne.2 (by omega)) (beq_iff_eq.2 d4) e1 ht (by rw [if_neg (by simp)])⟩
    rw [if_neg d4]
    exact ⟨_, _, _, gW7_ok, wy_4 ll ro st fu dn k s t b n ke _ c0' c1 hs hl (decide_eq_true c2) (decide_eq_false c3) (beq_eq_false_iff_ne.2 (by omega)) (beq_eq_false_iff_ne.2 (by omega)) (beq_eq_false_iff_ne.2 (by omega)) (beq_eq_false_iff_ne.2 (by omega)) rfl⟩
  · have hk' : k = 0 := by omega
    rw [if_neg (fun h => c2 h.1), if_pos hk']
    by_cases c3 : atF ll s < 0
    · by_cases d1 : 32 ≤ ll.length
      · exact ⟨_, _, _, gW7_ok, wy_043 ll ro st fu dn k s t b n ke _ c0' c1 hs hl (decide_eq_false c2) (beq_iff_eq.2 hk') (decide_eq_true c3) (decide_eq_true (by omega)) (by rw [if_pos ⟨c3, d1⟩])⟩
      rw [if_neg (fun h => d1 h.2)]
      by_cases d2 : 4194304 < b.length
      · exact ⟨_, _, _, gW7_ok, wy_0n18 ll ro st fu dn k s t b n ke _ c0' c1 hs hl (decide_eq_false c2) (beq_iff_eq.2 hk') (decide_eq_true c3) (decide_eq_false (by omega)) (decide_eq_false (by omega)) (decide_eq_true (by omega)) (by rw [if_pos (Or.inr d2)])⟩
      · exact ⟨_, _, _, gW7_ok, wy_0n ll ro st fu dn k s t b n ke _ c0' c1 hs hl (decide_eq_false c2) (beq_iff_eq.2 hk') (decide_eq_true c3) (decide_eq_false (by omega)) (decide_eq_false (by omega)) (decide_eq_false (by omega)) (by rw [if_neg (fun h => h.elim (fun h => absurd c3 (by have := h.1; omega)) d2)])⟩
    · rw [if_neg (fun h => c3 h.1)]
      obtain ⟨a1, a2⟩ := at_pos (ll := ll) (s := s) (by omega)
      have hin : InI64 (((recW (row7 ll s) 1).length : Int) + (b.length : Int)) := ⟨by omega, by omega⟩
      by_cases d1 : 4194304 < (recW (row7 ll s) 1).length + b.length
      · exact ⟨_, _, _, gW7_ok, wy_0o18 ll ro st fu dn k s t b n ke _ c0' c1 hs hl (decide_eq_false c2) (beq_iff_eq.2 hk') (decide_eq_false c3) (decide_eq_true (by omega)) (by omega) a1 hin (decide_eq_true (by show ((recW (row7 ll s) 1).length : Int) + (b.length : Int) > 4194304; omega)) (by rw [if_pos (Or.inl ⟨by omega, d1⟩)])⟩
      · by_cases d2 : 4194304 < b.length
        · omega
        · exact ⟨_, _, _, gW7_ok, wy_0o ll ro st fu dn k s t b n ke _ c0' c1 hs hl (decide_eq_false c2) (beq_iff_eq.2 hk') (decide_eq_false c3) (decide_eq_true (by omega)) (by omega) a1 hin (decide_eq_false (by show ¬ ((recW (row7 ll s) 1).length : Int) + (b.length : Int) > 4194304; omega)) (decide_eq_false (by omega)) (by rw [if_neg (fun h => h.elim (fun h => d1 h.2) d2)])⟩
def change7 (ll : List Rec) (o : OpT) : List Rec :=
  if o.k = 0 then (if 0 ≤ atF ll o.s then wiF ll (recS (row7 ll o.s) 0) (recW (row7 ll o.s) 1 ++ o.b) (recI (row7 ll o.s) 2) else wiF ll o.s ([] ++ o.b) 0)
  else if o.k = 1 then wiF ll (recS (row7 ll o.s) 0) (recW (row7 ll o.s) 1) ((recW (row7 ll o.s) 1).length : Int)
  else if o.k = 2 then wiF ll (recS (row7 ll o.s) 0) (List.drop 0 (List.take o.n.toNat (recW (row7 ll o.s) 1))) (if recI (row7 ll o.s) 2 > o.n then o.n else recI (row7 ll o.s) 2)
  else if o.k = 3 then wiF (woF ll o.s) o.t (recW (row7 ll o.s) 1) (recI (row7 ll o.s) 2)
  else woF ll o.s
noncomputable def change7R := mkF DF Try.f44.ntmps wyRd wyPre (fun t => some (.v (dV7 (change7 t.1.1 t.2) t.1.2.1 t.1.2.2.1 t.1.2.2.2.1 t.1.2.2.2.2), [], [Row7 t.1.1, OpOk t.2, 0 ≤ t.2.k ∧ t.2.k ≤ 4, why7 t.1.1 t.1.2.1 false t.2 = 0]))
theorem change7_ok : OpOK Try.prog DF 44 (withNew change7R) := by
  refine opOK_mkR mixed Try.func44 (enters_of Try.func44 (by kernel_rfl) rfl) (fun bs xs t h => (wyRd_nil h).symm) ?_
  rintro ⟨⟨ll, ro, st, fu, dn⟩, ⟨k, s, t, b, n, ke⟩⟩ r' ns ps h hps
  simp only [Option.some.injEq, Prod.mk.injEq] at h
  obtain ⟨rfl, rfl, rfl⟩ := h
  have hr : Row7 ll := hps (Row7 ll) (by simp)
  obtain ⟨hs, ht, hb, hn, hk⟩ : OpOk ⟨k, s, t, b, n, ke⟩ := hps (OpOk _) (by simp)
  have hk0 : 0 ≤ k ∧ k ≤ 4 := hps (0 ≤ k ∧ k ≤ 4) (by simp)
  have hw : why7 ll ro false ⟨k, s, t, b, n, ke⟩ = 0 := hps (why7 ll ro false ⟨k, s, t, b, n, ke⟩ = 0) (by simp)
  simp only at hs ht hb hn hk
  have hl := hr.1
  have hrow : 0 ≤ recI (row7 ll s) 2 ∧ recI (row7 ll s) 2 ≤ 140737488355328 ∧ (recW (row7 ll s) 1).length ≤ 140737488355328 := hr.at _
  simp only [why7] at hw
  rw [if_neg (by simp)] at hw
  split at hw
  · cases hw
  split at hw
  · cases hw
  rename_i c1 c2
  simp only [change7]
  show ∃ Γ fuel ds, GamOK Try.prog DF Γ ∧ ∃ qs, runO Try.prog DF Γ fuel Try.f44 (wyIn ll ro st fu dn k s t b n ke) ds _ [] = some qs ∧ AllQ qs
  by_cases d0 : k = 0
  · rw [if_pos d0] at hw
    rw [if_pos d0]
    split at hw
    · cases hw
    split at hw
    · cases hw
    rename_i e1 e2
    by_cases c3 : 0 ≤ atF ll s
    · obtain ⟨a1, a2⟩ := at_pos c3
      have hle : (recW (row7 ll s) 1).length + b.length ≤ 4194304 := by
        rcases Nat.lt_or_ge 4194304 ((recW (row7 ll s) 1).length + b.length) with h | h
        · exact (e2 (Or.inl ⟨c3, h⟩)).elim
        · exact h
      exact ⟨_, _, _, gC7_ok, ch_0o ll ro st fu dn k s t b n ke _ hl (decide_eq_true c3) c3 a1 (beq_iff_eq.2 d0) (show (recW (row7 ll s) 1).length ≤ _ by omega) (show (recW (row7 ll s) 1).length + b.length ≤ _ by omega) (show ((recW (row7 ll s) 1).length + b.length) * 1 ≤ _ by omega) (by rw [if_pos c3]; rfl)⟩
    · have hle : b.length ≤ 4194304 := by
        rcases Nat.lt_or_ge 4194304 b.length with h | h
        · exact (e2 (Or.inr h)).elim
        · exact h
      exact ⟨_, _, _, gC7_ok, ch_0n ll ro st fu dn k s t b n ke _ hl (decide_eq_false c3) (beq_iff_eq.2 d0) (by omega) (by omega) (by rw [if_neg c3])⟩
  rw [if_neg d0] at hw
  rw [if_neg d0]
  have c3 : 0 ≤ atF ll s := by
    rcases int_lt_or (atF ll s) 0 with h | h
    · exact (c2 ⟨by omega, h⟩).elim
    · exact h
  obtain ⟨a1, a2⟩ := at_pos c3
  by_cases d1 : k = 1
  · rw [if_pos d1]
    exact ⟨_, _, _, gC7_ok, ch_1 ll ro st fu dn k s t b n ke _ hl (decide_eq_true c3) c3 a1 (beq_eq_false_iff_ne.2 d0) (beq_iff_eq.2 d1) rfl⟩
  rw [if_neg d1] at hw
  rw [if_neg d1]
  by_cases d2 : k = 2
  · rw [if_pos d2] at hw
    rw [if_pos d2]
    split at hw
    · cases hw
    rename_i e1
    have e2 : 0 ≤ n := by
      rcases int_lt_or n 0 with h | h
      · exact (e1 (Or.inl h)).elim
      · exact h
    have e3 : n ≤ ((recW (row7 ll s) 1).length : Int) := by
      rcases int_lt_or ((recW (row7 ll s) 1).length : Int) n with h | h
      · exact (e1 (Or.inr h)).elim
      · exact h
    have e4 : (List.drop 0 (List.take n.toNat (recW (row7 ll s) 1))).length ≤ 281474976710656 := by
      rw [List.length_drop, List.length_take]; omega
    by_cases e5 : recI (row7 ll s) 2 > n
    · exact ⟨_, _, _, gC7_ok, ch_2c ll ro st fu dn k s t b n ke _ hl (decide_eq_true c3) c3 a1 (beq_eq_false_iff_ne.2 d0) (beq_eq_false_iff_ne.2 d1) (beq_iff_eq.2 d2) e2 e3 e4 (decide_eq_true e5) (by rw [if_pos e5]; rfl)⟩
    · exact ⟨_, _, _, gC7_ok, ch_2k ll ro st fu dn k s t b n ke _ hl (decide_eq_true c3) c3 a1 (beq_eq_false_iff_ne.2 d0) (beq_eq_false_iff_ne.2 d1) (beq_iff_eq.2 d2) e2 e3 e4 (decide_eq_false e5) (by rw [if_neg e5]; rfl)⟩
  rw [if_neg d2]
  have hwo := woF_len ll s
  by_cases d3 : k = 3
  · rw [if_pos d3]
    exact ⟨_, _, _, gC7_ok, ch_3 ll ro st fu dn k s t b n ke _ hl (decide_eq_true c3) c3 a1 (beq_eq_false_iff_ne.2 d0) (beq_eq_false_iff_ne.2 d1) (beq_eq_false_iff_ne.2 d2) (beq_iff_eq.2 d3) (by omega) rfl⟩
  · rw [if_neg d3]
    exact ⟨_, _, _, gC7_ok, ch_4 ll ro st fu dn k s t b n ke _ hl (decide_eq_true c3) c3 a1 (beq_eq_false_iff_ne.2 d0) (beq_eq_false_iff_ne.2 d1) (beq_eq_false_iff_ne.2 d2) (beq_eq_false_iff_ne.2 d3) (beq_iff_eq.2 (by omega)) rfl⟩
end Go.Num
namespace Go.Num
open Go.Abs Go.Proofs Go.Shelf Go.RowKit
def opSh : List FK := [.int .i64, .str, .str, .words .u8, .int .i64, .words .i64]
def opOf (r : Rec) : OpT := ⟨recI r 0, recS r 1, recS r 2, recW r 3, recI r 4, recW r 5⟩
theorem sortK_keys {es es' : List (Rec × Ob)} (h : es'.map (·.1) = es.map (·.1)) : sortK es' = sortK es := by
  unfold sortK keyL
  have : es'.map (fun e => (recS e.1 0).data.toList) = es.map (fun e => (recS e.1 0).data.toList) := by
    have := congrArg (List.map fun r : Rec => (recS r 0).data.toList) h
    rwa [List.map_map, List.map_map] at this
  rw [this]
abbrev cO : ByteArray := ⟨#[111, 119, 110]⟩
def Own (a : List Int) (es : List (Rec × Ob)) : Prop := hasE es [Fd.s cO] = true ∧ obE es [Fd.s cO] = fileOb a a.length
structure ApI (a : List Int) (d : DkT) (k : Nat) : Prop where
  ok : OkN d (k + 5)
  own : Own a d.2.2.2.2
end Go.Num
