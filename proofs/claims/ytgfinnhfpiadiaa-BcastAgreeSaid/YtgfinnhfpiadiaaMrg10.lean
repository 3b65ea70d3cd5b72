/- Several texts put together: B8 BN B9. -/
import Derived.Test.YtgfinnhfpiadiaaMrg9
namespace Go.Num
open Go.Abs Go.Proofs Go.Shelf Go.RowKit
def hnR : Bool → Bool → Int → List Int → List (Rec × Ob) → List Rec → List Rec → List (BoxSt DB.τ)
  | false, false, me, mb, es, ms, ts => hnX me mb es ms ts
  | false, true, me, mb, es, ms, ts => [hubX me mb 2, ansX 3 5, .fam 1 es none, msX ms, .dead, tsX ts]
  | true, false, me, mb, es, ms, ts => [hubX me mb 2, ansX 5 4, .fam 1 es none, .dead, tsX ts, msX ms]
  | true, true, me, mb, es, ms, ts => [hubX me mb 2, ansX 5 6, .fam 1 es none, .dead, .dead, msX ms, tsX ts]
noncomputable def gH2 (q1 p q : Bool) : Gam DB := [(26, .op [true, false] countsN), (27, .op [true, false] ofN), (29, .op [true, false] noteQ), (28, .op [true, false, false, true] (say1Q q1)), (30, .op [true, true, false, true] (con1Q p q))]
theorem gH2_ok (q1 p q : Bool) : GamOK Try.prog DB (gH2 q1 p q) := gam_op countsN_ok (gam_op ofN_ok (gam_op note_ok (gam_op (say1_ok q1) (gam_op (con1_ok p q) gam_nil))))
theorem h2_not (me : Int) (mb : List Int) (es es' : List (Rec × Ob)) (k ep fr wh tp rd : Int) (bd : List Int) (ms ts ms' ts' : List Rec)
 (h1 : ((cntB mb (MsT.mk k ep fr wh tp rd bd)) = false))
 (h2 : ((List.length mb) ≤ (1000 : Nat)))
 (h3 : (es = es'))
 (h4 : (ms = ms'))
 (h5 : (ts = ts')) :
 ∃ ps, runO Try.prog DB (gH2 false false false) 100 Try.f23 (hnX me mb es ms ts, [.one (.ref 0 0), (MsT.mk k ep fr wh tp rd bd).a, .one (.ref 1 0)]) [.is false] (.tup []) (hnR false false me mb es' ms' ts') = some ps ∧ AllQ ps := ⟨_, by kernel_rfl, qc h1 (qc (er k) (qc (er ep) (qc (er fr) (qc (er wh) (qc (er tp) (qc (er rd) (qc (er bd) (qc (er me) (qc (er mb) (qc (er es) (qc h2 (qc (er me) (qc (er mb) (qc h3 (qc h4 (qc h5 (qn)))))))))))))))))⟩
abbrev h2_sFFF_x1 (me : Int) (mb : List Int) (es : List (Rec × Ob)) (k ep fr wh tp rd : Int) (bd : List Int) (ms ts : List Rec) := ((say1M me mb (MsT.mk k ep fr wh tp rd bd) (S7.mk (TkT.mk ((ofT es [(Fd.i tp), (Fd.i wh)])).1 true ((ofT es [(Fd.i tp), (Fd.i wh)])).3 ((ofT es [(Fd.i tp), (Fd.i wh)])).4 ((ofT es [(Fd.i tp), (Fd.i wh)])).5 ((ofT es [(Fd.i tp), (Fd.i wh)])).6) ms ts)))
abbrev h2_sFFF_x2 (me : Int) (mb : List Int) (es : List (Rec × Ob)) (k ep fr wh tp rd : Int) (bd : List Int) (ms ts : List Rec) := (Ob.node [(Fd.b ((((con1M me mb (MsT.mk k ep fr wh tp rd bd) (h2_sFFF_x1 me mb es k ep fr wh tp rd bd ms ts).1)).1).1).2), (Fd.b ((((con1M me mb (MsT.mk k ep fr wh tp rd bd) (h2_sFFF_x1 me mb es k ep fr wh tp rd bd ms ts).1)).1).1).3), (Fd.b ((((con1M me mb (MsT.mk k ep fr wh tp rd bd) (h2_sFFF_x1 me mb es k ep fr wh tp rd bd ms ts).1)).1).1).4)] [((((con1M me mb (MsT.mk k ep fr wh tp rd bd) (h2_sFFF_x1 me mb es k ep fr wh tp rd bd ms ts).1)).1).1).5, ((((con1M me mb (MsT.mk k ep fr wh tp rd bd) (h2_sFFF_x1 me mb es k ep fr wh tp rd bd ms ts).1)).1).1).6])
abbrev h2_sFFF_x3 (me : Int) (mb : List Int) (es : List (Rec × Ob)) (k ep fr wh tp rd : Int) (bd : List Int) (ms ts : List Rec) := ((con1M me mb (MsT.mk k ep fr wh tp rd bd) (h2_sFFF_x1 me mb es k ep fr wh tp rd bd ms ts).1))
theorem h2_sFFF (me : Int) (mb : List Int) (es es' : List (Rec × Ob)) (k ep fr wh tp rd : Int) (bd : List Int) (ms ts ms' ts' : List Rec)
 (h1 : ((cntB mb (MsT.mk k ep fr wh tp rd bd)) = true))
 (h2 : ((List.length mb) ≤ (1000 : Nat)))
 (h3 : ((k == (1 : Int)) = true))
 (h4 : ((fr == wh) = true))
 (h5 : (((ofT es [(Fd.i tp), (Fd.i wh)])).2 = false))
 (h6 : (Base7 (50000 : Nat) mb (MsT.mk k ep fr wh tp rd bd) (S7.mk (TkT.mk ((ofT es [(Fd.i tp), (Fd.i wh)])).1 true ((ofT es [(Fd.i tp), (Fd.i wh)])).3 ((ofT es [(Fd.i tp), (Fd.i wh)])).4 ((ofT es [(Fd.i tp), (Fd.i wh)])).5 ((ofT es [(Fd.i tp), (Fd.i wh)])).6) ms ts)))
 (h7 : (((ofT es [(Fd.i tp), (Fd.i wh)])).1 = [(Fd.i tp), (Fd.i wh)]))
 (h8 : ((cntP mb (MsT.mk k ep fr wh tp rd bd)) ∧ (List.Mem me mb)))
 (h9 : (((h2_sFFF_x1 me mb es k ep fr wh tp rd bd ms ts).2).2 = false))
 (h10 : (Base7 (70000 : Nat) mb (MsT.mk k ep fr wh tp rd bd) (h2_sFFF_x1 me mb es k ep fr wh tp rd bd ms ts).1))
 (h11 : ((((h2_sFFF_x1 me mb es k ep fr wh tp rd bd ms ts).1).1).1 = [(Fd.i tp), (Fd.i wh)]))
 (h12 : ((h2_sFFF_x3 me mb es k ep fr wh tp rd bd ms ts).2 = (false, false)))
 (h13 : ((((h2_sFFF_x3 me mb es k ep fr wh tp rd bd ms ts).1).1).2 = (recB (Ob.r (h2_sFFF_x2 me mb es k ep fr wh tp rd bd ms ts)) (0 : Nat))))
 (h14 : ((((h2_sFFF_x3 me mb es k ep fr wh tp rd bd ms ts).1).1).3 = (recB (Ob.r (h2_sFFF_x2 me mb es k ep fr wh tp rd bd ms ts)) (1 : Nat))))
 (h15 : ((((h2_sFFF_x3 me mb es k ep fr wh tp rd bd ms ts).1).1).4 = (recB (Ob.r (h2_sFFF_x2 me mb es k ep fr wh tp rd bd ms ts)) (2 : Nat))))
 (h16 : ((((h2_sFFF_x3 me mb es k ep fr wh tp rd bd ms ts).1).1).5 = (Ob.c (h2_sFFF_x2 me mb es k ep fr wh tp rd bd ms ts) (0 : Nat))))
 (h17 : ((((h2_sFFF_x3 me mb es k ep fr wh tp rd bd ms ts).1).1).6 = (Ob.c (h2_sFFF_x2 me mb es k ep fr wh tp rd bd ms ts) (1 : Nat))))
 (h18 : ((setE (ofE es [(Fd.i tp), (Fd.i wh)]) (((h2_sFFF_x3 me mb es k ep fr wh tp rd bd ms ts).1).1).1 (h2_sFFF_x2 me mb es k ep fr wh tp rd bd ms ts)) = es'))
 (h19 : (((h2_sFFF_x3 me mb es k ep fr wh tp rd bd ms ts).1).3 = ts'))
 (h20 : (((h2_sFFF_x3 me mb es k ep fr wh tp rd bd ms ts).1).2 = ms')) :
 ∃ ps, runO Try.prog DB (gH2 false false false) 100 Try.f23 (hnX me mb es ms ts, [.one (.ref 0 0), (MsT.mk k ep fr wh tp rd bd).a, .one (.ref 1 0)]) [.is true, .is true, .is true, .is false] (.tup []) (hnR true false me mb es' ms' ts') = some ps ∧ AllQ ps := ⟨_, by kernel_rfl, qc h1 (qc (er k) (qc (er ep) (qc (er fr) (qc (er wh) (qc (er tp) (qc (er rd) (qc (er bd) (qc (er me) (qc (er mb) (qc (er es) (qc h2 (qc (er k) (qc (er ep) (qc (er fr) (qc (er wh) (qc (er tp) (qc (er rd) (qc (er bd) (qc (er me) (qc (er mb) (qc (er es) (qc h3 (qc h4 (qc h5 (qc (er ((2 : Int))) (qc (er k) (qc (er ep) (qc (er fr) (qc (er wh) (qc (er tp) (qc (er rd) (qc (er bd) (qc (er me) (qc (er mb) (qc (er (((ofT es [(Fd.i tp), (Fd.i wh)])).1)) (qc (er ((ofE es [(Fd.i tp), (Fd.i wh)]))) (qc (er ms) (qc (er ts) (qc (er true) (qc (er (((ofT es [(Fd.i tp), (Fd.i wh)])).3)) (qc (er (((ofT es [(Fd.i tp), (Fd.i wh)])).4)) (qc (er (((ofT es [(Fd.i tp), (Fd.i wh)])).5)) (qc (er (((ofT es [(Fd.i tp), (Fd.i wh)])).6)) (qc h6 (qc h7 (qc h8 (qc h9 (qc (er k) (qc (er ep) (qc (er fr) (qc (er wh) (qc (er tp) (qc (er rd) (qc (er bd) (qc (er me) (qc (er mb) (qc (er ((((h2_sFFF_x1 me mb es k ep fr wh tp rd bd ms ts).1).1).2)) (qc (er ((((h2_sFFF_x1 me mb es k ep fr wh tp rd bd ms ts).1).1).3)) (qc (er ((((h2_sFFF_x1 me mb es k ep fr wh tp rd bd ms ts).1).1).4)) (qc (er ((((h2_sFFF_x1 me mb es k ep fr wh tp rd bd ms ts).1).1).1)) (qc (er ((ofE es [(Fd.i tp), (Fd.i wh)]))) (qc (er ((((h2_sFFF_x1 me mb es k ep fr wh tp rd bd ms ts).1).1).5)) (qc (er ((((h2_sFFF_x1 me mb es k ep fr wh tp rd bd ms ts).1).1).6)) (qc (er (((h2_sFFF_x1 me mb es k ep fr wh tp rd bd ms ts).1).2)) (qc (er (((h2_sFFF_x1 me mb es k ep fr wh tp rd bd ms ts).1).3)) (qc h10 (qc h11 (qc h8 (qc h12 (qc h13 (qc h14 (qc h15 (qc h16 (qc h17 (qc (er me) (qc (er mb) (qc h18 (qc h19 (qc h20 (qn))))))))))))))))))))))))))))))))))))))))))))))))))))))))))))))))))))))))))))))))⟩
abbrev h2_sFFT_x1 (me : Int) (mb : List Int) (es : List (Rec × Ob)) (k ep fr wh tp rd : Int) (bd : List Int) (ms ts : List Rec) := ((say1M me mb (MsT.mk k ep fr wh tp rd bd) (S7.mk (TkT.mk ((ofT es [(Fd.i tp), (Fd.i wh)])).1 true ((ofT es [(Fd.i tp), (Fd.i wh)])).3 ((ofT es [(Fd.i tp), (Fd.i wh)])).4 ((ofT es [(Fd.i tp), (Fd.i wh)])).5 ((ofT es [(Fd.i tp), (Fd.i wh)])).6) ms ts)))
abbrev h2_sFFT_x2 (me : Int) (mb : List Int) (es : List (Rec × Ob)) (k ep fr wh tp rd : Int) (bd : List Int) (ms ts : List Rec) := (Ob.node [(Fd.b ((((con1M me mb (MsT.mk k ep fr wh tp rd bd) (h2_sFFT_x1 me mb es k ep fr wh tp rd bd ms ts).1)).1).1).2), (Fd.b ((((con1M me mb (MsT.mk k ep fr wh tp rd bd) (h2_sFFT_x1 me mb es k ep fr wh tp rd bd ms ts).1)).1).1).3), (Fd.b ((((con1M me mb (MsT.mk k ep fr wh tp rd bd) (h2_sFFT_x1 me mb es k ep fr wh tp rd bd ms ts).1)).1).1).4)] [((((con1M me mb (MsT.mk k ep fr wh tp rd bd) (h2_sFFT_x1 me mb es k ep fr wh tp rd bd ms ts).1)).1).1).5, ((((con1M me mb (MsT.mk k ep fr wh tp rd bd) (h2_sFFT_x1 me mb es k ep fr wh tp rd bd ms ts).1)).1).1).6])
abbrev h2_sFFT_x3 (me : Int) (mb : List Int) (es : List (Rec × Ob)) (k ep fr wh tp rd : Int) (bd : List Int) (ms ts : List Rec) := ((con1M me mb (MsT.mk k ep fr wh tp rd bd) (h2_sFFT_x1 me mb es k ep fr wh tp rd bd ms ts).1))
theorem h2_sFFT (me : Int) (mb : List Int) (es es' : List (Rec × Ob)) (k ep fr wh tp rd : Int) (bd : List Int) (ms ts ms' ts' : List Rec)
 (h1 : ((cntB mb (MsT.mk k ep fr wh tp rd bd)) = true))
 (h2 : ((List.length mb) ≤ (1000 : Nat)))
 (h3 : ((k == (1 : Int)) = true))
 (h4 : ((fr == wh) = true))
 (h5 : (((ofT es [(Fd.i tp), (Fd.i wh)])).2 = false))
 (h6 : (Base7 (50000 : Nat) mb (MsT.mk k ep fr wh tp rd bd) (S7.mk (TkT.mk ((ofT es [(Fd.i tp), (Fd.i wh)])).1 true ((ofT es [(Fd.i tp), (Fd.i wh)])).3 ((ofT es [(Fd.i tp), (Fd.i wh)])).4 ((ofT es [(Fd.i tp), (Fd.i wh)])).5 ((ofT es [(Fd.i tp), (Fd.i wh)])).6) ms ts)))
 (h7 : (((ofT es [(Fd.i tp), (Fd.i wh)])).1 = [(Fd.i tp), (Fd.i wh)]))
 (h8 : ((cntP mb (MsT.mk k ep fr wh tp rd bd)) ∧ (List.Mem me mb)))
 (h9 : (((h2_sFFT_x1 me mb es k ep fr wh tp rd bd ms ts).2).2 = false))
 (h10 : (Base7 (70000 : Nat) mb (MsT.mk k ep fr wh tp rd bd) (h2_sFFT_x1 me mb es k ep fr wh tp rd bd ms ts).1))
 (h11 : ((((h2_sFFT_x1 me mb es k ep fr wh tp rd bd ms ts).1).1).1 = [(Fd.i tp), (Fd.i wh)]))
 (h12 : ((h2_sFFT_x3 me mb es k ep fr wh tp rd bd ms ts).2 = (false, true)))
 (h13 : ((((h2_sFFT_x3 me mb es k ep fr wh tp rd bd ms ts).1).1).2 = (recB (Ob.r (h2_sFFT_x2 me mb es k ep fr wh tp rd bd ms ts)) (0 : Nat))))
 (h14 : ((((h2_sFFT_x3 me mb es k ep fr wh tp rd bd ms ts).1).1).3 = (recB (Ob.r (h2_sFFT_x2 me mb es k ep fr wh tp rd bd ms ts)) (1 : Nat))))
 (h15 : ((((h2_sFFT_x3 me mb es k ep fr wh tp rd bd ms ts).1).1).4 = (recB (Ob.r (h2_sFFT_x2 me mb es k ep fr wh tp rd bd ms ts)) (2 : Nat))))
 (h16 : ((((h2_sFFT_x3 me mb es k ep fr wh tp rd bd ms ts).1).1).5 = (Ob.c (h2_sFFT_x2 me mb es k ep fr wh tp rd bd ms ts) (0 : Nat))))
 (h17 : ((((h2_sFFT_x3 me mb es k ep fr wh tp rd bd ms ts).1).1).6 = (Ob.c (h2_sFFT_x2 me mb es k ep fr wh tp rd bd ms ts) (1 : Nat))))
 (h18 : ((setE (ofE es [(Fd.i tp), (Fd.i wh)]) (((h2_sFFT_x3 me mb es k ep fr wh tp rd bd ms ts).1).1).1 (h2_sFFT_x2 me mb es k ep fr wh tp rd bd ms ts)) = es'))
 (h19 : (((h2_sFFT_x3 me mb es k ep fr wh tp rd bd ms ts).1).2 = ms'))
 (h20 : (((h2_sFFT_x3 me mb es k ep fr wh tp rd bd ms ts).1).3 = ts')) :
 ∃ ps, runO Try.prog DB (gH2 false false true) 100 Try.f23 (hnX me mb es ms ts, [.one (.ref 0 0), (MsT.mk k ep fr wh tp rd bd).a, .one (.ref 1 0)]) [.is true, .is true, .is true, .is false] (.tup []) (hnR true true me mb es' ms' ts') = some ps ∧ AllQ ps := ⟨_, by kernel_rfl, qc h1 (qc (er k) (qc (er ep) (qc (er fr) (qc (er wh) (qc (er tp) (qc (er rd) (qc (er bd) (qc (er me) (qc (er mb) (qc (er es) (qc h2 (qc (er k) (qc (er ep) (qc (er fr) (qc (er wh) (qc (er tp) (qc (er rd) (qc (er bd) (qc (er me) (qc (er mb) (qc (er es) (qc h3 (qc h4 (qc h5 (qc (er ((2 : Int))) (qc (er k) (qc (er ep) (qc (er fr) (qc (er wh) (qc (er tp) (qc (er rd) (qc (er bd) (qc (er me) (qc (er mb) (qc (er (((ofT es [(Fd.i tp), (Fd.i wh)])).1)) (qc (er ((ofE es [(Fd.i tp), (Fd.i wh)]))) (qc (er ms) (qc (er ts) (qc (er true) (qc (er (((ofT es [(Fd.i tp), (Fd.i wh)])).3)) (qc (er (((ofT es [(Fd.i tp), (Fd.i wh)])).4)) (qc (er (((ofT es [(Fd.i tp), (Fd.i wh)])).5)) (qc (er (((ofT es [(Fd.i tp), (Fd.i wh)])).6)) (qc h6 (qc h7 (qc h8 (qc h9 (qc (er k) (qc (er ep) (qc (er fr) (qc (er wh) (qc (er tp) (qc (er rd) (qc (er bd) (qc (er me) (qc (er mb) (qc (er ((((h2_sFFT_x1 me mb es k ep fr wh tp rd bd ms ts).1).1).2)) (qc (er ((((h2_sFFT_x1 me mb es k ep fr wh tp rd bd ms ts).1).1).3)) (qc (er ((((h2_sFFT_x1 me mb es k ep fr wh tp rd bd ms ts).1).1).4)) (qc (er ((((h2_sFFT_x1 me mb es k ep fr wh tp rd bd ms ts).1).1).1)) (qc (er ((ofE es [(Fd.i tp), (Fd.i wh)]))) (qc (er ((((h2_sFFT_x1 me mb es k ep fr wh tp rd bd ms ts).1).1).5)) (qc (er ((((h2_sFFT_x1 me mb es k ep fr wh tp rd bd ms ts).1).1).6)) (qc (er (((h2_sFFT_x1 me mb es k ep fr wh tp rd bd ms ts).1).2)) (qc (er (((h2_sFFT_x1 me mb es k ep fr wh tp rd bd ms ts).1).3)) (qc h10 (qc h11 (qc h8 (qc h12 (qc h13 (qc h14 (qc h15 (qc h16 (qc h17 (qc (er me) (qc (er mb) (qc h18 (qc h19 (qc h20 (qn))))))))))))))))))))))))))))))))))))))))))))))))))))))))))))))))))))))))))))))))⟩
abbrev h2_sFTF_x1 (me : Int) (mb : List Int) (es : List (Rec × Ob)) (k ep fr wh tp rd : Int) (bd : List Int) (ms ts : List Rec) := ((say1M me mb (MsT.mk k ep fr wh tp rd bd) (S7.mk (TkT.mk ((ofT es [(Fd.i tp), (Fd.i wh)])).1 true ((ofT es [(Fd.i tp), (Fd.i wh)])).3 ((ofT es [(Fd.i tp), (Fd.i wh)])).4 ((ofT es [(Fd.i tp), (Fd.i wh)])).5 ((ofT es [(Fd.i tp), (Fd.i wh)])).6) ms ts)))
abbrev h2_sFTF_x2 (me : Int) (mb : List Int) (es : List (Rec × Ob)) (k ep fr wh tp rd : Int) (bd : List Int) (ms ts : List Rec) := (Ob.node [(Fd.b ((((con1M me mb (MsT.mk k ep fr wh tp rd bd) (h2_sFTF_x1 me mb es k ep fr wh tp rd bd ms ts).1)).1).1).2), (Fd.b ((((con1M me mb (MsT.mk k ep fr wh tp rd bd) (h2_sFTF_x1 me mb es k ep fr wh tp rd bd ms ts).1)).1).1).3), (Fd.b ((((con1M me mb (MsT.mk k ep fr wh tp rd bd) (h2_sFTF_x1 me mb es k ep fr wh tp rd bd ms ts).1)).1).1).4)] [((((con1M me mb (MsT.mk k ep fr wh tp rd bd) (h2_sFTF_x1 me mb es k ep fr wh tp rd bd ms ts).1)).1).1).5, ((((con1M me mb (MsT.mk k ep fr wh tp rd bd) (h2_sFTF_x1 me mb es k ep fr wh tp rd bd ms ts).1)).1).1).6])
abbrev h2_sFTF_x3 (me : Int) (mb : List Int) (es : List (Rec × Ob)) (k ep fr wh tp rd : Int) (bd : List Int) (ms ts : List Rec) := ((con1M me mb (MsT.mk k ep fr wh tp rd bd) (h2_sFTF_x1 me mb es k ep fr wh tp rd bd ms ts).1))
theorem h2_sFTF (me : Int) (mb : List Int) (es es' : List (Rec × Ob)) (k ep fr wh tp rd : Int) (bd : List Int) (ms ts ms' ts' : List Rec)
 (h1 : ((cntB mb (MsT.mk k ep fr wh tp rd bd)) = true))
 (h2 : ((List.length mb) ≤ (1000 : Nat)))
 (h3 : ((k == (1 : Int)) = true))
 (h4 : ((fr == wh) = true))
 (h5 : (((ofT es [(Fd.i tp), (Fd.i wh)])).2 = false))
 (h6 : (Base7 (50000 : Nat) mb (MsT.mk k ep fr wh tp rd bd) (S7.mk (TkT.mk ((ofT es [(Fd.i tp), (Fd.i wh)])).1 true ((ofT es [(Fd.i tp), (Fd.i wh)])).3 ((ofT es [(Fd.i tp), (Fd.i wh)])).4 ((ofT es [(Fd.i tp), (Fd.i wh)])).5 ((ofT es [(Fd.i tp), (Fd.i wh)])).6) ms ts)))
 (h7 : (((ofT es [(Fd.i tp), (Fd.i wh)])).1 = [(Fd.i tp), (Fd.i wh)]))
 (h8 : ((cntP mb (MsT.mk k ep fr wh tp rd bd)) ∧ (List.Mem me mb)))
 (h9 : (((h2_sFTF_x1 me mb es k ep fr wh tp rd bd ms ts).2).2 = false))
 (h10 : (Base7 (70000 : Nat) mb (MsT.mk k ep fr wh tp rd bd) (h2_sFTF_x1 me mb es k ep fr wh tp rd bd ms ts).1))
 (h11 : ((((h2_sFTF_x1 me mb es k ep fr wh tp rd bd ms ts).1).1).1 = [(Fd.i tp), (Fd.i wh)]))
 (h12 : ((h2_sFTF_x3 me mb es k ep fr wh tp rd bd ms ts).2 = (true, false)))
 (h13 : ((((h2_sFTF_x3 me mb es k ep fr wh tp rd bd ms ts).1).1).2 = (recB (Ob.r (h2_sFTF_x2 me mb es k ep fr wh tp rd bd ms ts)) (0 : Nat))))
 (h14 : ((((h2_sFTF_x3 me mb es k ep fr wh tp rd bd ms ts).1).1).3 = (recB (Ob.r (h2_sFTF_x2 me mb es k ep fr wh tp rd bd ms ts)) (1 : Nat))))
 (h15 : ((((h2_sFTF_x3 me mb es k ep fr wh tp rd bd ms ts).1).1).4 = (recB (Ob.r (h2_sFTF_x2 me mb es k ep fr wh tp rd bd ms ts)) (2 : Nat))))
 (h16 : ((((h2_sFTF_x3 me mb es k ep fr wh tp rd bd ms ts).1).1).5 = (Ob.c (h2_sFTF_x2 me mb es k ep fr wh tp rd bd ms ts) (0 : Nat))))
 (h17 : ((((h2_sFTF_x3 me mb es k ep fr wh tp rd bd ms ts).1).1).6 = (Ob.c (h2_sFTF_x2 me mb es k ep fr wh tp rd bd ms ts) (1 : Nat))))
 (h18 : ((setE (ofE es [(Fd.i tp), (Fd.i wh)]) (((h2_sFTF_x3 me mb es k ep fr wh tp rd bd ms ts).1).1).1 (h2_sFTF_x2 me mb es k ep fr wh tp rd bd ms ts)) = es'))
 (h19 : (((h2_sFTF_x3 me mb es k ep fr wh tp rd bd ms ts).1).3 = ts'))
 (h20 : (((h2_sFTF_x3 me mb es k ep fr wh tp rd bd ms ts).1).2 = ms')) :
 ∃ ps, runO Try.prog DB (gH2 false true false) 100 Try.f23 (hnX me mb es ms ts, [.one (.ref 0 0), (MsT.mk k ep fr wh tp rd bd).a, .one (.ref 1 0)]) [.is true, .is true, .is true, .is false] (.tup []) (hnR true false me mb es' ms' ts') = some ps ∧ AllQ ps := ⟨_, by kernel_rfl, qc h1 (qc (er k) (qc (er ep) (qc (er fr) (qc (er wh) (qc (er tp) (qc (er rd) (qc (er bd) (qc (er me) (qc (er mb) (qc (er es) (qc h2 (qc (er k) (qc (er ep) (qc (er fr) (qc (er wh) (qc (er tp) (qc (er rd) (qc (er bd) (qc (er me) (qc (er mb) (qc (er es) (qc h3 (qc h4 (qc h5 (qc (er ((2 : Int))) (qc (er k) (qc (er ep) (qc (er fr) (qc (er wh) (qc (er tp) (qc (er rd) (qc (er bd) (qc (er me) (qc (er mb) (qc (er (((ofT es [(Fd.i tp), (Fd.i wh)])).1)) (qc (er ((ofE es [(Fd.i tp), (Fd.i wh)]))) (qc (er ms) (qc (er ts) (qc (er true) (qc (er (((ofT es [(Fd.i tp), (Fd.i wh)])).3)) (qc (er (((ofT es [(Fd.i tp), (Fd.i wh)])).4)) (qc (er (((ofT es [(Fd.i tp), (Fd.i wh)])).5)) (qc (er (((ofT es [(Fd.i tp), (Fd.i wh)])).6)) (qc h6 (qc h7 (qc h8 (qc h9 (qc (er k) (qc (er ep) (qc (er fr) (qc (er wh) (qc (er tp) (qc (er rd) (qc (er bd) (qc (er me) (qc (er mb) (qc (er ((((h2_sFTF_x1 me mb es k ep fr wh tp rd bd ms ts).1).1).2)) (qc (er ((((h2_sFTF_x1 me mb es k ep fr wh tp rd bd ms ts).1).1).3)) (qc (er ((((h2_sFTF_x1 me mb es k ep fr wh tp rd bd ms ts).1).1).4)) (qc (er ((((h2_sFTF_x1 me mb es k ep fr wh tp rd bd ms ts).1).1).1)) (qc (er ((ofE es [(Fd.i tp), (Fd.i wh)]))) (qc (er ((((h2_sFTF_x1 me mb es k ep fr wh tp rd bd ms ts).1).1).5)) (qc (er ((((h2_sFTF_x1 me mb es k ep fr wh tp rd bd ms ts).1).1).6)) (qc (er (((h2_sFTF_x1 me mb es k ep fr wh tp rd bd ms ts).1).2)) (qc (er (((h2_sFTF_x1 me mb es k ep fr wh tp rd bd ms ts).1).3)) (qc h10 (qc h11 (qc h8 (qc h12 (qc h13 (qc h14 (qc h15 (qc h16 (qc h17 (qc (er me) (qc (er mb) (qc h18 (qc h19 (qc h20 (qn))))))))))))))))))))))))))))))))))))))))))))))))))))))))))))))))))))))))))))))))⟩
abbrev h2_sFTT_x1 (me : Int) (mb : List Int) (es : List (Rec × Ob)) (k ep fr wh tp rd : Int) (bd : List Int) (ms ts : List Rec) := ((say1M me mb (MsT.mk k ep fr wh tp rd bd) (S7.mk (TkT.mk ((ofT es [(Fd.i tp), (Fd.i wh)])).1 true ((ofT es [(Fd.i tp), (Fd.i wh)])).3 ((ofT es [(Fd.i tp), (Fd.i wh)])).4 ((ofT es [(Fd.i tp), (Fd.i wh)])).5 ((ofT es [(Fd.i tp), (Fd.i wh)])).6) ms ts)))
abbrev h2_sFTT_x2 (me : Int) (mb : List Int) (es : List (Rec × Ob)) (k ep fr wh tp rd : Int) (bd : List Int) (ms ts : List Rec) := (Ob.node [(Fd.b ((((con1M me mb (MsT.mk k ep fr wh tp rd bd) (h2_sFTT_x1 me mb es k ep fr wh tp rd bd ms ts).1)).1).1).2), (Fd.b ((((con1M me mb (MsT.mk k ep fr wh tp rd bd) (h2_sFTT_x1 me mb es k ep fr wh tp rd bd ms ts).1)).1).1).3), (Fd.b ((((con1M me mb (MsT.mk k ep fr wh tp rd bd) (h2_sFTT_x1 me mb es k ep fr wh tp rd bd ms ts).1)).1).1).4)] [((((con1M me mb (MsT.mk k ep fr wh tp rd bd) (h2_sFTT_x1 me mb es k ep fr wh tp rd bd ms ts).1)).1).1).5, ((((con1M me mb (MsT.mk k ep fr wh tp rd bd) (h2_sFTT_x1 me mb es k ep fr wh tp rd bd ms ts).1)).1).1).6])
abbrev h2_sFTT_x3 (me : Int) (mb : List Int) (es : List (Rec × Ob)) (k ep fr wh tp rd : Int) (bd : List Int) (ms ts : List Rec) := ((con1M me mb (MsT.mk k ep fr wh tp rd bd) (h2_sFTT_x1 me mb es k ep fr wh tp rd bd ms ts).1))
theorem h2_sFTT (me : Int) (mb : List Int) (es es' : List (Rec × Ob)) (k ep fr wh tp rd : Int) (bd : List Int) (ms ts ms' ts' : List Rec)
 (h1 : ((cntB mb (MsT.mk k ep fr wh tp rd bd)) = true))
 (h2 : ((List.length mb) ≤ (1000 : Nat)))
 (h3 : ((k == (1 : Int)) = true))
 (h4 : ((fr == wh) = true))
 (h5 : (((ofT es [(Fd.i tp), (Fd.i wh)])).2 = false))
 (h6 : (Base7 (50000 : Nat) mb (MsT.mk k ep fr wh tp rd bd) (S7.mk (TkT.mk ((ofT es [(Fd.i tp), (Fd.i wh)])).1 true ((ofT es [(Fd.i tp), (Fd.i wh)])).3 ((ofT es [(Fd.i tp), (Fd.i wh)])).4 ((ofT es [(Fd.i tp), (Fd.i wh)])).5 ((ofT es [(Fd.i tp), (Fd.i wh)])).6) ms ts)))
 (h7 : (((ofT es [(Fd.i tp), (Fd.i wh)])).1 = [(Fd.i tp), (Fd.i wh)]))
 (h8 : ((cntP mb (MsT.mk k ep fr wh tp rd bd)) ∧ (List.Mem me mb)))
 (h9 : (((h2_sFTT_x1 me mb es k ep fr wh tp rd bd ms ts).2).2 = false))
 (h10 : (Base7 (70000 : Nat) mb (MsT.mk k ep fr wh tp rd bd) (h2_sFTT_x1 me mb es k ep fr wh tp rd bd ms ts).1))
 (h11 : ((((h2_sFTT_x1 me mb es k ep fr wh tp rd bd ms ts).1).1).1 = [(Fd.i tp), (Fd.i wh)]))
 (h12 : ((h2_sFTT_x3 me mb es k ep fr wh tp rd bd ms ts).2 = (true, true)))
 (h13 : ((((h2_sFTT_x3 me mb es k ep fr wh tp rd bd ms ts).1).1).2 = (recB (Ob.r (h2_sFTT_x2 me mb es k ep fr wh tp rd bd ms ts)) (0 : Nat))))
 (h14 : ((((h2_sFTT_x3 me mb es k ep fr wh tp rd bd ms ts).1).1).3 = (recB (Ob.r (h2_sFTT_x2 me mb es k ep fr wh tp rd bd ms ts)) (1 : Nat))))
 (h15 : ((((h2_sFTT_x3 me mb es k ep fr wh tp rd bd ms ts).1).1).4 = (recB (Ob.r (h2_sFTT_x2 me mb es k ep fr wh tp rd bd ms ts)) (2 : Nat))))
 (h16 : ((((h2_sFTT_x3 me mb es k ep fr wh tp rd bd ms ts).1).1).5 = (Ob.c (h2_sFTT_x2 me mb es k ep fr wh tp rd bd ms ts) (0 : Nat))))
 (h17 : ((((h2_sFTT_x3 me mb es k ep fr wh tp rd bd ms ts).1).1).6 = (Ob.c (h2_sFTT_x2 me mb es k ep fr wh tp rd bd ms ts) (1 : Nat))))
 (h18 : ((setE (ofE es [(Fd.i tp), (Fd.i wh)]) (((h2_sFTT_x3 me mb es k ep fr wh tp rd bd ms ts).1).1).1 (h2_sFTT_x2 me mb es k ep fr wh tp rd bd ms ts)) = es'))
 (h19 : (((h2_sFTT_x3 me mb es k ep fr wh tp rd bd ms ts).1).2 = ms'))
 (h20 : (((h2_sFTT_x3 me mb es k ep fr wh tp rd bd ms ts).1).3 = ts')) :
 ∃ ps, runO Try.prog DB (gH2 false true true) 100 Try.f23 (hnX me mb es ms ts, [.one (.ref 0 0), (MsT.mk k ep fr wh tp rd bd).a, .one (.ref 1 0)]) [.is true, .is true, .is true, .is false] (.tup []) (hnR true true me mb es' ms' ts') = some ps ∧ AllQ ps := ⟨_, by kernel_rfl, qc h1 (qc (er k) (qc (er ep) (qc (er fr) (qc (er wh) (qc (er tp) (qc (er rd) (qc (er bd) (qc (er me) (qc (er mb) (qc (er es) (qc h2 (qc (er k) (qc (er ep) (qc (er fr) (qc (er wh) (qc (er tp) (qc (er rd) (qc (er bd) (qc (er me) (qc (er mb) (qc (er es) (qc h3 (qc h4 (qc h5 (qc (er ((2 : Int))) (qc (er k) (qc (er ep) (qc (er fr) (qc (er wh) (qc (er tp) (qc (er rd) (qc (er bd) (qc (er me) (qc (er mb) (qc (er (((ofT es [(Fd.i tp), (Fd.i wh)])).1)) (qc (er ((ofE es [(Fd.i tp), (Fd.i wh)]))) (qc (er ms) (qc (er ts) (qc (er true) (qc (er (((ofT es [(Fd.i tp), (Fd.i wh)])).3)) (qc (er (((ofT es [(Fd.i tp), (Fd.i wh)])).4)) (qc (er (((ofT es [(Fd.i tp), (Fd.i wh)])).5)) (qc (er (((ofT es [(Fd.i tp), (Fd.i wh)])).6)) (qc h6 (qc h7 (qc h8 (qc h9 (qc (er k) (qc (er ep) (qc (er fr) (qc (er wh) (qc (er tp) (qc (er rd) (qc (er bd) (qc (er me) (qc (er mb) (qc (er ((((h2_sFTT_x1 me mb es k ep fr wh tp rd bd ms ts).1).1).2)) (qc (er ((((h2_sFTT_x1 me mb es k ep fr wh tp rd bd ms ts).1).1).3)) (qc (er ((((h2_sFTT_x1 me mb es k ep fr wh tp rd bd ms ts).1).1).4)) (qc (er ((((h2_sFTT_x1 me mb es k ep fr wh tp rd bd ms ts).1).1).1)) (qc (er ((ofE es [(Fd.i tp), (Fd.i wh)]))) (qc (er ((((h2_sFTT_x1 me mb es k ep fr wh tp rd bd ms ts).1).1).5)) (qc (er ((((h2_sFTT_x1 me mb es k ep fr wh tp rd bd ms ts).1).1).6)) (qc (er (((h2_sFTT_x1 me mb es k ep fr wh tp rd bd ms ts).1).2)) (qc (er (((h2_sFTT_x1 me mb es k ep fr wh tp rd bd ms ts).1).3)) (qc h10 (qc h11 (qc h8 (qc h12 (qc h13 (qc h14 (qc h15 (qc h16 (qc h17 (qc (er me) (qc (er mb) (qc h18 (qc h19 (qc h20 (qn))))))))))))))))))))))))))))))))))))))))))))))))))))))))))))))))))))))))))))))))⟩
abbrev h2_sTFF_x1 (me : Int) (mb : List Int) (es : List (Rec × Ob)) (k ep fr wh tp rd : Int) (bd : List Int) (ms ts : List Rec) := ((say1M me mb (MsT.mk k ep fr wh tp rd bd) (S7.mk (TkT.mk ((ofT es [(Fd.i tp), (Fd.i wh)])).1 true ((ofT es [(Fd.i tp), (Fd.i wh)])).3 ((ofT es [(Fd.i tp), (Fd.i wh)])).4 ((ofT es [(Fd.i tp), (Fd.i wh)])).5 ((ofT es [(Fd.i tp), (Fd.i wh)])).6) ms ts)))
abbrev h2_sTFF_x2 (me : Int) (mb : List Int) (es : List (Rec × Ob)) (k ep fr wh tp rd : Int) (bd : List Int) (ms ts : List Rec) := (Ob.node [(Fd.b ((((con1M me mb (MsT.mk k ep fr wh tp rd bd) (h2_sTFF_x1 me mb es k ep fr wh tp rd bd ms ts).1)).1).1).2), (Fd.b ((((con1M me mb (MsT.mk k ep fr wh tp rd bd) (h2_sTFF_x1 me mb es k ep fr wh tp rd bd ms ts).1)).1).1).3), (Fd.b ((((con1M me mb (MsT.mk k ep fr wh tp rd bd) (h2_sTFF_x1 me mb es k ep fr wh tp rd bd ms ts).1)).1).1).4)] [((((con1M me mb (MsT.mk k ep fr wh tp rd bd) (h2_sTFF_x1 me mb es k ep fr wh tp rd bd ms ts).1)).1).1).5, ((((con1M me mb (MsT.mk k ep fr wh tp rd bd) (h2_sTFF_x1 me mb es k ep fr wh tp rd bd ms ts).1)).1).1).6])
abbrev h2_sTFF_x3 (me : Int) (mb : List Int) (es : List (Rec × Ob)) (k ep fr wh tp rd : Int) (bd : List Int) (ms ts : List Rec) := ((con1M me mb (MsT.mk k ep fr wh tp rd bd) (h2_sTFF_x1 me mb es k ep fr wh tp rd bd ms ts).1))
theorem h2_sTFF (me : Int) (mb : List Int) (es es' : List (Rec × Ob)) (k ep fr wh tp rd : Int) (bd : List Int) (ms ts ms' ts' : List Rec)
 (h1 : ((cntB mb (MsT.mk k ep fr wh tp rd bd)) = true))
 (h2 : ((List.length mb) ≤ (1000 : Nat)))
 (h3 : ((k == (1 : Int)) = true))
 (h4 : ((fr == wh) = true))
 (h5 : (((ofT es [(Fd.i tp), (Fd.i wh)])).2 = false))
 (h6 : (Base7 (50000 : Nat) mb (MsT.mk k ep fr wh tp rd bd) (S7.mk (TkT.mk ((ofT es [(Fd.i tp), (Fd.i wh)])).1 true ((ofT es [(Fd.i tp), (Fd.i wh)])).3 ((ofT es [(Fd.i tp), (Fd.i wh)])).4 ((ofT es [(Fd.i tp), (Fd.i wh)])).5 ((ofT es [(Fd.i tp), (Fd.i wh)])).6) ms ts)))
 (h7 : (((ofT es [(Fd.i tp), (Fd.i wh)])).1 = [(Fd.i tp), (Fd.i wh)]))
 (h8 : ((cntP mb (MsT.mk k ep fr wh tp rd bd)) ∧ (List.Mem me mb)))
 (h9 : (((h2_sTFF_x1 me mb es k ep fr wh tp rd bd ms ts).2).2 = true))
 (h10 : (Base7 (70000 : Nat) mb (MsT.mk k ep fr wh tp rd bd) (h2_sTFF_x1 me mb es k ep fr wh tp rd bd ms ts).1))
 (h11 : ((((h2_sTFF_x1 me mb es k ep fr wh tp rd bd ms ts).1).1).1 = [(Fd.i tp), (Fd.i wh)]))
 (h12 : ((h2_sTFF_x3 me mb es k ep fr wh tp rd bd ms ts).2 = (false, false)))
 (h13 : ((((h2_sTFF_x3 me mb es k ep fr wh tp rd bd ms ts).1).1).2 = (recB (Ob.r (h2_sTFF_x2 me mb es k ep fr wh tp rd bd ms ts)) (0 : Nat))))
 (h14 : ((((h2_sTFF_x3 me mb es k ep fr wh tp rd bd ms ts).1).1).3 = (recB (Ob.r (h2_sTFF_x2 me mb es k ep fr wh tp rd bd ms ts)) (1 : Nat))))
 (h15 : ((((h2_sTFF_x3 me mb es k ep fr wh tp rd bd ms ts).1).1).4 = (recB (Ob.r (h2_sTFF_x2 me mb es k ep fr wh tp rd bd ms ts)) (2 : Nat))))
 (h16 : ((((h2_sTFF_x3 me mb es k ep fr wh tp rd bd ms ts).1).1).5 = (Ob.c (h2_sTFF_x2 me mb es k ep fr wh tp rd bd ms ts) (0 : Nat))))
 (h17 : ((((h2_sTFF_x3 me mb es k ep fr wh tp rd bd ms ts).1).1).6 = (Ob.c (h2_sTFF_x2 me mb es k ep fr wh tp rd bd ms ts) (1 : Nat))))
 (h18 : ((setE (ofE es [(Fd.i tp), (Fd.i wh)]) (((h2_sTFF_x3 me mb es k ep fr wh tp rd bd ms ts).1).1).1 (h2_sTFF_x2 me mb es k ep fr wh tp rd bd ms ts)) = es'))
 (h19 : (((h2_sTFF_x3 me mb es k ep fr wh tp rd bd ms ts).1).2 = ms'))
 (h20 : (((h2_sTFF_x3 me mb es k ep fr wh tp rd bd ms ts).1).3 = ts')) :
 ∃ ps, runO Try.prog DB (gH2 true false false) 100 Try.f23 (hnX me mb es ms ts, [.one (.ref 0 0), (MsT.mk k ep fr wh tp rd bd).a, .one (.ref 1 0)]) [.is true, .is true, .is true, .is false] (.tup []) (hnR true true me mb es' ms' ts') = some ps ∧ AllQ ps := ⟨_, by kernel_rfl, qc h1 (qc (er k) (qc (er ep) (qc (er fr) (qc (er wh) (qc (er tp) (qc (er rd) (qc (er bd) (qc (er me) (qc (er mb) (qc (er es) (qc h2 (qc (er k) (qc (er ep) (qc (er fr) (qc (er wh) (qc (er tp) (qc (er rd) (qc (er bd) (qc (er me) (qc (er mb) (qc (er es) (qc h3 (qc h4 (qc h5 (qc (er ((2 : Int))) (qc (er k) (qc (er ep) (qc (er fr) (qc (er wh) (qc (er tp) (qc (er rd) (qc (er bd) (qc (er me) (qc (er mb) (qc (er (((ofT es [(Fd.i tp), (Fd.i wh)])).1)) (qc (er ((ofE es [(Fd.i tp), (Fd.i wh)]))) (qc (er ms) (qc (er ts) (qc (er true) (qc (er (((ofT es [(Fd.i tp), (Fd.i wh)])).3)) (qc (er (((ofT es [(Fd.i tp), (Fd.i wh)])).4)) (qc (er (((ofT es [(Fd.i tp), (Fd.i wh)])).5)) (qc (er (((ofT es [(Fd.i tp), (Fd.i wh)])).6)) (qc h6 (qc h7 (qc h8 (qc h9 (qc (er k) (qc (er ep) (qc (er fr) (qc (er wh) (qc (er tp) (qc (er rd) (qc (er bd) (qc (er me) (qc (er mb) (qc (er ((((h2_sTFF_x1 me mb es k ep fr wh tp rd bd ms ts).1).1).2)) (qc (er ((((h2_sTFF_x1 me mb es k ep fr wh tp rd bd ms ts).1).1).3)) (qc (er ((((h2_sTFF_x1 me mb es k ep fr wh tp rd bd ms ts).1).1).4)) (qc (er ((((h2_sTFF_x1 me mb es k ep fr wh tp rd bd ms ts).1).1).1)) (qc (er ((ofE es [(Fd.i tp), (Fd.i wh)]))) (qc (er ((((h2_sTFF_x1 me mb es k ep fr wh tp rd bd ms ts).1).1).5)) (qc (er ((((h2_sTFF_x1 me mb es k ep fr wh tp rd bd ms ts).1).1).6)) (qc (er (((h2_sTFF_x1 me mb es k ep fr wh tp rd bd ms ts).1).2)) (qc (er (((h2_sTFF_x1 me mb es k ep fr wh tp rd bd ms ts).1).3)) (qc h10 (qc h11 (qc h8 (qc h12 (qc h13 (qc h14 (qc h15 (qc h16 (qc h17 (qc (er me) (qc (er mb) (qc h18 (qc h19 (qc h20 (qn))))))))))))))))))))))))))))))))))))))))))))))))))))))))))))))))))))))))))))))))⟩
abbrev h2_sTTF_x1 (me : Int) (mb : List Int) (es : List (Rec × Ob)) (k ep fr wh tp rd : Int) (bd : List Int) (ms ts : List Rec) := ((say1M me mb (MsT.mk k ep fr wh tp rd bd) (S7.mk (TkT.mk ((ofT es [(Fd.i tp), (Fd.i wh)])).1 true ((ofT es [(Fd.i tp), (Fd.i wh)])).3 ((ofT es [(Fd.i tp), (Fd.i wh)])).4 ((ofT es [(Fd.i tp), (Fd.i wh)])).5 ((ofT es [(Fd.i tp), (Fd.i wh)])).6) ms ts)))
abbrev h2_sTTF_x2 (me : Int) (mb : List Int) (es : List (Rec × Ob)) (k ep fr wh tp rd : Int) (bd : List Int) (ms ts : List Rec) := (Ob.node [(Fd.b ((((con1M me mb (MsT.mk k ep fr wh tp rd bd) (h2_sTTF_x1 me mb es k ep fr wh tp rd bd ms ts).1)).1).1).2), (Fd.b ((((con1M me mb (MsT.mk k ep fr wh tp rd bd) (h2_sTTF_x1 me mb es k ep fr wh tp rd bd ms ts).1)).1).1).3), (Fd.b ((((con1M me mb (MsT.mk k ep fr wh tp rd bd) (h2_sTTF_x1 me mb es k ep fr wh tp rd bd ms ts).1)).1).1).4)] [((((con1M me mb (MsT.mk k ep fr wh tp rd bd) (h2_sTTF_x1 me mb es k ep fr wh tp rd bd ms ts).1)).1).1).5, ((((con1M me mb (MsT.mk k ep fr wh tp rd bd) (h2_sTTF_x1 me mb es k ep fr wh tp rd bd ms ts).1)).1).1).6])
abbrev h2_sTTF_x3 (me : Int) (mb : List Int) (es : List (Rec × Ob)) (k ep fr wh tp rd : Int) (bd : List Int) (ms ts : List Rec) := ((con1M me mb (MsT.mk k ep fr wh tp rd bd) (h2_sTTF_x1 me mb es k ep fr wh tp rd bd ms ts).1))
theorem h2_sTTF (me : Int) (mb : List Int) (es es' : List (Rec × Ob)) (k ep fr wh tp rd : Int) (bd : List Int) (ms ts ms' ts' : List Rec)
 (h1 : ((cntB mb (MsT.mk k ep fr wh tp rd bd)) = true))
 (h2 : ((List.length mb) ≤ (1000 : Nat)))
 (h3 : ((k == (1 : Int)) = true))
 (h4 : ((fr == wh) = true))
 (h5 : (((ofT es [(Fd.i tp), (Fd.i wh)])).2 = false))
 (h6 : (Base7 (50000 : Nat) mb (MsT.mk k ep fr wh tp rd bd) (S7.mk (TkT.mk ((ofT es [(Fd.i tp), (Fd.i wh)])).1 true ((ofT es [(Fd.i tp), (Fd.i wh)])).3 ((ofT es [(Fd.i tp), (Fd.i wh)])).4 ((ofT es [(Fd.i tp), (Fd.i wh)])).5 ((ofT es [(Fd.i tp), (Fd.i wh)])).6) ms ts)))
 (h7 : (((ofT es [(Fd.i tp), (Fd.i wh)])).1 = [(Fd.i tp), (Fd.i wh)]))
 (h8 : ((cntP mb (MsT.mk k ep fr wh tp rd bd)) ∧ (List.Mem me mb)))
 (h9 : (((h2_sTTF_x1 me mb es k ep fr wh tp rd bd ms ts).2).2 = true))
 (h10 : (Base7 (70000 : Nat) mb (MsT.mk k ep fr wh tp rd bd) (h2_sTTF_x1 me mb es k ep fr wh tp rd bd ms ts).1))
 (h11 : ((((h2_sTTF_x1 me mb es k ep fr wh tp rd bd ms ts).1).1).1 = [(Fd.i tp), (Fd.i wh)]))
 (h12 : ((h2_sTTF_x3 me mb es k ep fr wh tp rd bd ms ts).2 = (true, false)))
 (h13 : ((((h2_sTTF_x3 me mb es k ep fr wh tp rd bd ms ts).1).1).2 = (recB (Ob.r (h2_sTTF_x2 me mb es k ep fr wh tp rd bd ms ts)) (0 : Nat))))
 (h14 : ((((h2_sTTF_x3 me mb es k ep fr wh tp rd bd ms ts).1).1).3 = (recB (Ob.r (h2_sTTF_x2 me mb es k ep fr wh tp rd bd ms ts)) (1 : Nat))))
 (h15 : ((((h2_sTTF_x3 me mb es k ep fr wh tp rd bd ms ts).1).1).4 = (recB (Ob.r (h2_sTTF_x2 me mb es k ep fr wh tp rd bd ms ts)) (2 : Nat))))
 (h16 : ((((h2_sTTF_x3 me mb es k ep fr wh tp rd bd ms ts).1).1).5 = (Ob.c (h2_sTTF_x2 me mb es k ep fr wh tp rd bd ms ts) (0 : Nat))))
 (h17 : ((((h2_sTTF_x3 me mb es k ep fr wh tp rd bd ms ts).1).1).6 = (Ob.c (h2_sTTF_x2 me mb es k ep fr wh tp rd bd ms ts) (1 : Nat))))
 (h18 : ((setE (ofE es [(Fd.i tp), (Fd.i wh)]) (((h2_sTTF_x3 me mb es k ep fr wh tp rd bd ms ts).1).1).1 (h2_sTTF_x2 me mb es k ep fr wh tp rd bd ms ts)) = es'))
 (h19 : (((h2_sTTF_x3 me mb es k ep fr wh tp rd bd ms ts).1).2 = ms'))
 (h20 : (((h2_sTTF_x3 me mb es k ep fr wh tp rd bd ms ts).1).3 = ts')) :
 ∃ ps, runO Try.prog DB (gH2 true true false) 100 Try.f23 (hnX me mb es ms ts, [.one (.ref 0 0), (MsT.mk k ep fr wh tp rd bd).a, .one (.ref 1 0)]) [.is true, .is true, .is true, .is false] (.tup []) (hnR true true me mb es' ms' ts') = some ps ∧ AllQ ps := ⟨_, by kernel_rfl, qc h1 (qc (er k) (qc (er ep) (qc (er fr) (qc (er wh) (qc (er tp) (qc (er rd) (qc (er bd) (qc (er me) (qc (er mb) (qc (er es) (qc h2 (qc (er k) (qc (er ep) (qc (er fr) (qc (er wh) (qc (er tp) (qc (er rd) (qc (er bd) (qc (er me) (qc (er mb) (qc (er es) (qc h3 (qc h4 (qc h5 (qc (er ((2 : Int))) (qc (er k) (qc (er ep) (qc (er fr) (qc (er wh) (qc (er tp) (qc (er rd) (qc (er bd) (qc (er me) (qc (er mb) (qc (er (((ofT es [(Fd.i tp), (Fd.i wh)])).1)) (qc (er ((ofE es [(Fd.i tp), (Fd.i wh)]))) (qc (er ms) (qc (er ts) (qc (er true) (qc (er (((ofT es [(Fd.i tp), (Fd.i wh)])).3)) (qc (er (((ofT es [(Fd.i tp), (Fd.i wh)])).4)) (qc (er (((ofT es [(Fd.i tp), (Fd.i wh)])).5)) (qc (er (((ofT es [(Fd.i tp), (Fd.i wh)])).6)) (qc h6 (qc h7 (qc h8 (qc h9 (qc (er k) (qc (er ep) (qc (er fr) (qc (er wh) (qc (er tp) (qc (er rd) (qc (er bd) (qc (er me) (qc (er mb) (qc (er ((((h2_sTTF_x1 me mb es k ep fr wh tp rd bd ms ts).1).1).2)) (qc (er ((((h2_sTTF_x1 me mb es k ep fr wh tp rd bd ms ts).1).1).3)) (qc (er ((((h2_sTTF_x1 me mb es k ep fr wh tp rd bd ms ts).1).1).4)) (qc (er ((((h2_sTTF_x1 me mb es k ep fr wh tp rd bd ms ts).1).1).1)) (qc (er ((ofE es [(Fd.i tp), (Fd.i wh)]))) (qc (er ((((h2_sTTF_x1 me mb es k ep fr wh tp rd bd ms ts).1).1).5)) (qc (er ((((h2_sTTF_x1 me mb es k ep fr wh tp rd bd ms ts).1).1).6)) (qc (er (((h2_sTTF_x1 me mb es k ep fr wh tp rd bd ms ts).1).2)) (qc (er (((h2_sTTF_x1 me mb es k ep fr wh tp rd bd ms ts).1).3)) (qc h10 (qc h11 (qc h8 (qc h12 (qc h13 (qc h14 (qc h15 (qc h16 (qc h17 (qc (er me) (qc (er mb) (qc h18 (qc h19 (qc h20 (qn))))))))))))))))))))))))))))))))))))))))))))))))))))))))))))))))))))))))))))))))⟩
abbrev h2_wFF_x1 (me : Int) (mb : List Int) (es : List (Rec × Ob)) (k ep fr wh tp rd : Int) (bd : List Int) (ms ts : List Rec) := (Ob.node [(Fd.b ((((con1M me mb (MsT.mk k ep fr wh tp rd bd) (S7.mk (ofT es [(Fd.i tp), (Fd.i wh)]) ms ts))).1).1).2), (Fd.b ((((con1M me mb (MsT.mk k ep fr wh tp rd bd) (S7.mk (ofT es [(Fd.i tp), (Fd.i wh)]) ms ts))).1).1).3), (Fd.b ((((con1M me mb (MsT.mk k ep fr wh tp rd bd) (S7.mk (ofT es [(Fd.i tp), (Fd.i wh)]) ms ts))).1).1).4)] [((((con1M me mb (MsT.mk k ep fr wh tp rd bd) (S7.mk (ofT es [(Fd.i tp), (Fd.i wh)]) ms ts))).1).1).5, ((((con1M me mb (MsT.mk k ep fr wh tp rd bd) (S7.mk (ofT es [(Fd.i tp), (Fd.i wh)]) ms ts))).1).1).6])
abbrev h2_wFF_x2 (me : Int) (mb : List Int) (es : List (Rec × Ob)) (k ep fr wh tp rd : Int) (bd : List Int) (ms ts : List Rec) := ((con1M me mb (MsT.mk k ep fr wh tp rd bd) (S7.mk (ofT es [(Fd.i tp), (Fd.i wh)]) ms ts)))
theorem h2_wFF (me : Int) (mb : List Int) (es es' : List (Rec × Ob)) (k ep fr wh tp rd : Int) (bd : List Int) (ms ts ms' ts' : List Rec)
 (h1 : ((cntB mb (MsT.mk k ep fr wh tp rd bd)) = true))
 (h2 : ((List.length mb) ≤ (1000 : Nat)))
 (h3 : ((k == (1 : Int)) = true))
 (h4 : ((fr == wh) = false))
 (h5 : (Base7 (70000 : Nat) mb (MsT.mk k ep fr wh tp rd bd) (S7.mk (ofT es [(Fd.i tp), (Fd.i wh)]) ms ts)))
 (h6 : (((ofT es [(Fd.i tp), (Fd.i wh)])).1 = [(Fd.i tp), (Fd.i wh)]))
 (h7 : ((cntP mb (MsT.mk k ep fr wh tp rd bd)) ∧ (List.Mem me mb)))
 (h8 : ((h2_wFF_x2 me mb es k ep fr wh tp rd bd ms ts).2 = (false, false)))
 (h9 : ((((h2_wFF_x2 me mb es k ep fr wh tp rd bd ms ts).1).1).2 = (recB (Ob.r (h2_wFF_x1 me mb es k ep fr wh tp rd bd ms ts)) (0 : Nat))))
 (h10 : ((((h2_wFF_x2 me mb es k ep fr wh tp rd bd ms ts).1).1).3 = (recB (Ob.r (h2_wFF_x1 me mb es k ep fr wh tp rd bd ms ts)) (1 : Nat))))
 (h11 : ((((h2_wFF_x2 me mb es k ep fr wh tp rd bd ms ts).1).1).4 = (recB (Ob.r (h2_wFF_x1 me mb es k ep fr wh tp rd bd ms ts)) (2 : Nat))))
 (h12 : ((((h2_wFF_x2 me mb es k ep fr wh tp rd bd ms ts).1).1).5 = (Ob.c (h2_wFF_x1 me mb es k ep fr wh tp rd bd ms ts) (0 : Nat))))
 (h13 : ((((h2_wFF_x2 me mb es k ep fr wh tp rd bd ms ts).1).1).6 = (Ob.c (h2_wFF_x1 me mb es k ep fr wh tp rd bd ms ts) (1 : Nat))))
 (h14 : ((setE (ofE es [(Fd.i tp), (Fd.i wh)]) (((h2_wFF_x2 me mb es k ep fr wh tp rd bd ms ts).1).1).1 (h2_wFF_x1 me mb es k ep fr wh tp rd bd ms ts)) = es'))
 (h15 : (((h2_wFF_x2 me mb es k ep fr wh tp rd bd ms ts).1).2 = ms'))
 (h16 : (((h2_wFF_x2 me mb es k ep fr wh tp rd bd ms ts).1).3 = ts')) :
 ∃ ps, runO Try.prog DB (gH2 false false false) 100 Try.f23 (hnX me mb es ms ts, [.one (.ref 0 0), (MsT.mk k ep fr wh tp rd bd).a, .one (.ref 1 0)]) [.is true, .is true, .is false] (.tup []) (hnR false false me mb es' ms' ts') = some ps ∧ AllQ ps := ⟨_, by kernel_rfl, qc h1 (qc (er k) (qc (er ep) (qc (er fr) (qc (er wh) (qc (er tp) (qc (er rd) (qc (er bd) (qc (er me) (qc (er mb) (qc (er es) (qc h2 (qc (er k) (qc (er ep) (qc (er fr) (qc (er wh) (qc (er tp) (qc (er rd) (qc (er bd) (qc (er me) (qc (er mb) (qc (er es) (qc h3 (qc h4 (qc (er k) (qc (er ep) (qc (er fr) (qc (er wh) (qc (er tp) (qc (er rd) (qc (er bd) (qc (er me) (qc (er mb) (qc (er (((ofT es [(Fd.i tp), (Fd.i wh)])).2)) (qc (er (((ofT es [(Fd.i tp), (Fd.i wh)])).3)) (qc (er (((ofT es [(Fd.i tp), (Fd.i wh)])).4)) (qc (er (((ofT es [(Fd.i tp), (Fd.i wh)])).1)) (qc (er ((ofE es [(Fd.i tp), (Fd.i wh)]))) (qc (er (((ofT es [(Fd.i tp), (Fd.i wh)])).5)) (qc (er (((ofT es [(Fd.i tp), (Fd.i wh)])).6)) (qc (er ms) (qc (er ts) (qc h5 (qc h6 (qc h7 (qc h8 (qc h9 (qc h10 (qc h11 (qc h12 (qc h13 (qc (er me) (qc (er mb) (qc h14 (qc h15 (qc h16 (qn))))))))))))))))))))))))))))))))))))))))))))))))))))))))⟩
abbrev h2_bFF_x1 (me : Int) (mb : List Int) (es : List (Rec × Ob)) (k ep fr wh tp rd : Int) (bd : List Int) (ms ts : List Rec) := (Ob.node [(Fd.b ((((con1M me mb (MsT.mk k ep fr wh tp rd bd) (S7.mk (ofT es [(Fd.i tp), (Fd.i wh)]) ms ts))).1).1).2), (Fd.b ((((con1M me mb (MsT.mk k ep fr wh tp rd bd) (S7.mk (ofT es [(Fd.i tp), (Fd.i wh)]) ms ts))).1).1).3), (Fd.b ((((con1M me mb (MsT.mk k ep fr wh tp rd bd) (S7.mk (ofT es [(Fd.i tp), (Fd.i wh)]) ms ts))).1).1).4)] [((((con1M me mb (MsT.mk k ep fr wh tp rd bd) (S7.mk (ofT es [(Fd.i tp), (Fd.i wh)]) ms ts))).1).1).5, ((((con1M me mb (MsT.mk k ep fr wh tp rd bd) (S7.mk (ofT es [(Fd.i tp), (Fd.i wh)]) ms ts))).1).1).6])
abbrev h2_bFF_x2 (me : Int) (mb : List Int) (es : List (Rec × Ob)) (k ep fr wh tp rd : Int) (bd : List Int) (ms ts : List Rec) := ((con1M me mb (MsT.mk k ep fr wh tp rd bd) (S7.mk (ofT es [(Fd.i tp), (Fd.i wh)]) ms ts)))
theorem h2_bFF (me : Int) (mb : List Int) (es es' : List (Rec × Ob)) (k ep fr wh tp rd : Int) (bd : List Int) (ms ts ms' ts' : List Rec)
 (h1 : ((cntB mb (MsT.mk k ep fr wh tp rd bd)) = true))
 (h2 : ((List.length mb) ≤ (1000 : Nat)))
 (h3 : ((k == (1 : Int)) = true))
 (h4 : ((fr == wh) = true))
 (h5 : (((ofT es [(Fd.i tp), (Fd.i wh)])).2 = true))
 (h6 : (Base7 (70000 : Nat) mb (MsT.mk k ep fr wh tp rd bd) (S7.mk (ofT es [(Fd.i tp), (Fd.i wh)]) ms ts)))
 (h7 : (((ofT es [(Fd.i tp), (Fd.i wh)])).1 = [(Fd.i tp), (Fd.i wh)]))
 (h8 : ((cntP mb (MsT.mk k ep fr wh tp rd bd)) ∧ (List.Mem me mb)))
 (h9 : ((h2_bFF_x2 me mb es k ep fr wh tp rd bd ms ts).2 = (false, false)))
 (h10 : ((((h2_bFF_x2 me mb es k ep fr wh tp rd bd ms ts).1).1).2 = (recB (Ob.r (h2_bFF_x1 me mb es k ep fr wh tp rd bd ms ts)) (0 : Nat))))
 (h11 : ((((h2_bFF_x2 me mb es k ep fr wh tp rd bd ms ts).1).1).3 = (recB (Ob.r (h2_bFF_x1 me mb es k ep fr wh tp rd bd ms ts)) (1 : Nat))))
 (h12 : ((((h2_bFF_x2 me mb es k ep fr wh tp rd bd ms ts).1).1).4 = (recB (Ob.r (h2_bFF_x1 me mb es k ep fr wh tp rd bd ms ts)) (2 : Nat))))
 (h13 : ((((h2_bFF_x2 me mb es k ep fr wh tp rd bd ms ts).1).1).5 = (Ob.c (h2_bFF_x1 me mb es k ep fr wh tp rd bd ms ts) (0 : Nat))))
 (h14 : ((((h2_bFF_x2 me mb es k ep fr wh tp rd bd ms ts).1).1).6 = (Ob.c (h2_bFF_x1 me mb es k ep fr wh tp rd bd ms ts) (1 : Nat))))
 (h15 : ((setE (ofE es [(Fd.i tp), (Fd.i wh)]) (((h2_bFF_x2 me mb es k ep fr wh tp rd bd ms ts).1).1).1 (h2_bFF_x1 me mb es k ep fr wh tp rd bd ms ts)) = es'))
 (h16 : (((h2_bFF_x2 me mb es k ep fr wh tp rd bd ms ts).1).2 = ms'))
 (h17 : (((h2_bFF_x2 me mb es k ep fr wh tp rd bd ms ts).1).3 = ts')) :
 ∃ ps, runO Try.prog DB (gH2 false false false) 100 Try.f23 (hnX me mb es ms ts, [.one (.ref 0 0), (MsT.mk k ep fr wh tp rd bd).a, .one (.ref 1 0)]) [.is true, .is true, .is true, .is true] (.tup []) (hnR false false me mb es' ms' ts') = some ps ∧ AllQ ps := ⟨_, by kernel_rfl, qc h1 (qc (er k) (qc (er ep) (qc (er fr) (qc (er wh) (qc (er tp) (qc (er rd) (qc (er bd) (qc (er me) (qc (er mb) (qc (er es) (qc h2 (qc (er k) (qc (er ep) (qc (er fr) (qc (er wh) (qc (er tp) (qc (er rd) (qc (er bd) (qc (er me) (qc (er mb) (qc (er es) (qc h3 (qc h4 (qc h5 (qc (er k) (qc (er ep) (qc (er fr) (qc (er wh) (qc (er tp) (qc (er rd) (qc (er bd) (qc (er me) (qc (er mb) (qc (er (((ofT es [(Fd.i tp), (Fd.i wh)])).2)) (qc (er (((ofT es [(Fd.i tp), (Fd.i wh)])).3)) (qc (er (((ofT es [(Fd.i tp), (Fd.i wh)])).4)) (qc (er (((ofT es [(Fd.i tp), (Fd.i wh)])).1)) (qc (er ((ofE es [(Fd.i tp), (Fd.i wh)]))) (qc (er (((ofT es [(Fd.i tp), (Fd.i wh)])).5)) (qc (er (((ofT es [(Fd.i tp), (Fd.i wh)])).6)) (qc (er ms) (qc (er ts) (qc h6 (qc h7 (qc h8 (qc h9 (qc h10 (qc h11 (qc h12 (qc h13 (qc h14 (qc (er me) (qc (er mb) (qc h15 (qc h16 (qc h17 (qn)))))))))))))))))))))))))))))))))))))))))))))))))))))))))⟩
abbrev h2_eFF_x1 (me : Int) (mb : List Int) (es : List (Rec × Ob)) (k ep fr wh tp rd : Int) (bd : List Int) (ms ts : List Rec) := ((con1M me mb (MsT.mk k ep fr wh tp rd bd) (S7.mk (TkT.mk ((ofT es [(Fd.i tp), (Fd.i wh)])).1 ((ofT es [(Fd.i tp), (Fd.i wh)])).2 ((ofT es [(Fd.i tp), (Fd.i wh)])).3 ((ofT es [(Fd.i tp), (Fd.i wh)])).4 (noteM ((ofT es [(Fd.i tp), (Fd.i wh)])).5 fr bd) ((ofT es [(Fd.i tp), (Fd.i wh)])).6) ms ts)))
abbrev h2_eFF_x2 (me : Int) (mb : List Int) (es : List (Rec × Ob)) (k ep fr wh tp rd : Int) (bd : List Int) (ms ts : List Rec) := (Ob.node [(Fd.b (((h2_eFF_x1 me mb es k ep fr wh tp rd bd ms ts).1).1).2), (Fd.b (((h2_eFF_x1 me mb es k ep fr wh tp rd bd ms ts).1).1).3), (Fd.b (((h2_eFF_x1 me mb es k ep fr wh tp rd bd ms ts).1).1).4)] [(((h2_eFF_x1 me mb es k ep fr wh tp rd bd ms ts).1).1).5, (((h2_eFF_x1 me mb es k ep fr wh tp rd bd ms ts).1).1).6])
theorem h2_eFF (me : Int) (mb : List Int) (es es' : List (Rec × Ob)) (k ep fr wh tp rd : Int) (bd : List Int) (ms ts ms' ts' : List Rec)
 (h1 : ((cntB mb (MsT.mk k ep fr wh tp rd bd)) = true))
 (h2 : ((List.length mb) ≤ (1000 : Nat)))
 (h3 : ((k == (1 : Int)) = false))
 (h4 : ((k == (2 : Int)) = true))
 (h5 : ((!(hasE ((ofT es [(Fd.i tp), (Fd.i wh)])).5 [(Fd.i fr)])) = true))
 (h6 : ((List.length bd) ≤ (140737488355328 : Nat)))
 (h7 : (Base7 (70000 : Nat) mb (MsT.mk k ep fr wh tp rd bd) (S7.mk (TkT.mk ((ofT es [(Fd.i tp), (Fd.i wh)])).1 ((ofT es [(Fd.i tp), (Fd.i wh)])).2 ((ofT es [(Fd.i tp), (Fd.i wh)])).3 ((ofT es [(Fd.i tp), (Fd.i wh)])).4 (noteM ((ofT es [(Fd.i tp), (Fd.i wh)])).5 fr bd) ((ofT es [(Fd.i tp), (Fd.i wh)])).6) ms ts)))
 (h8 : (((ofT es [(Fd.i tp), (Fd.i wh)])).1 = [(Fd.i tp), (Fd.i wh)]))
 (h9 : ((cntP mb (MsT.mk k ep fr wh tp rd bd)) ∧ (List.Mem me mb)))
 (h10 : ((h2_eFF_x1 me mb es k ep fr wh tp rd bd ms ts).2 = (false, false)))
 (h11 : ((((h2_eFF_x1 me mb es k ep fr wh tp rd bd ms ts).1).1).2 = (recB (Ob.r (h2_eFF_x2 me mb es k ep fr wh tp rd bd ms ts)) (0 : Nat))))
 (h12 : ((((h2_eFF_x1 me mb es k ep fr wh tp rd bd ms ts).1).1).3 = (recB (Ob.r (h2_eFF_x2 me mb es k ep fr wh tp rd bd ms ts)) (1 : Nat))))
 (h13 : ((((h2_eFF_x1 me mb es k ep fr wh tp rd bd ms ts).1).1).4 = (recB (Ob.r (h2_eFF_x2 me mb es k ep fr wh tp rd bd ms ts)) (2 : Nat))))
 (h14 : ((((h2_eFF_x1 me mb es k ep fr wh tp rd bd ms ts).1).1).5 = (Ob.c (h2_eFF_x2 me mb es k ep fr wh tp rd bd ms ts) (0 : Nat))))
 (h15 : ((((h2_eFF_x1 me mb es k ep fr wh tp rd bd ms ts).1).1).6 = (Ob.c (h2_eFF_x2 me mb es k ep fr wh tp rd bd ms ts) (1 : Nat))))
 (h16 : ((setE (ofE es [(Fd.i tp), (Fd.i wh)]) (((h2_eFF_x1 me mb es k ep fr wh tp rd bd ms ts).1).1).1 (h2_eFF_x2 me mb es k ep fr wh tp rd bd ms ts)) = es'))
 (h17 : (((h2_eFF_x1 me mb es k ep fr wh tp rd bd ms ts).1).2 = ms'))
 (h18 : (((h2_eFF_x1 me mb es k ep fr wh tp rd bd ms ts).1).3 = ts')) :
 ∃ ps, runO Try.prog DB (gH2 false false false) 100 Try.f23 (hnX me mb es ms ts, [.one (.ref 0 0), (MsT.mk k ep fr wh tp rd bd).a, .one (.ref 1 0)]) [.is true, .is false, .is true, .is true] (.tup []) (hnR false false me mb es' ms' ts') = some ps ∧ AllQ ps := ⟨_, by kernel_rfl, qc h1 (qc (er k) (qc (er ep) (qc (er fr) (qc (er wh) (qc (er tp) (qc (er rd) (qc (er bd) (qc (er me) (qc (er mb) (qc (er es) (qc h2 (qc (er k) (qc (er ep) (qc (er fr) (qc (er wh) (qc (er tp) (qc (er rd) (qc (er bd) (qc (er me) (qc (er mb) (qc (er es) (qc h3 (qc h4 (qc h5 (qc (er k) (qc (er ep) (qc (er fr) (qc (er wh) (qc (er tp) (qc (er rd) (qc (er bd) (qc (er (((ofT es [(Fd.i tp), (Fd.i wh)])).5)) (qc h6 (qc (er k) (qc (er ep) (qc (er fr) (qc (er wh) (qc (er tp) (qc (er rd) (qc (er bd) (qc (er me) (qc (er mb) (qc (er (((ofT es [(Fd.i tp), (Fd.i wh)])).2)) (qc (er (((ofT es [(Fd.i tp), (Fd.i wh)])).3)) (qc (er (((ofT es [(Fd.i tp), (Fd.i wh)])).4)) (qc (er (((ofT es [(Fd.i tp), (Fd.i wh)])).1)) (qc (er ((ofE es [(Fd.i tp), (Fd.i wh)]))) (qc (er ((noteM ((ofT es [(Fd.i tp), (Fd.i wh)])).5 fr bd))) (qc (er (((ofT es [(Fd.i tp), (Fd.i wh)])).6)) (qc (er ms) (qc (er ts) (qc h7 (qc h8 (qc h9 (qc h10 (qc h11 (qc h12 (qc h13 (qc h14 (qc h15 (qc (er me) (qc (er mb) (qc h16 (qc h17 (qc h18 (qn))))))))))))))))))))))))))))))))))))))))))))))))))))))))))))))))))⟩
abbrev h2_rFF_x1 (me : Int) (mb : List Int) (es : List (Rec × Ob)) (k ep fr wh tp rd : Int) (bd : List Int) (ms ts : List Rec) := ((con1M me mb (MsT.mk k ep fr wh tp rd bd) (S7.mk (TkT.mk ((ofT es [(Fd.i tp), (Fd.i wh)])).1 ((ofT es [(Fd.i tp), (Fd.i wh)])).2 ((ofT es [(Fd.i tp), (Fd.i wh)])).3 ((ofT es [(Fd.i tp), (Fd.i wh)])).4 ((ofT es [(Fd.i tp), (Fd.i wh)])).5 (noteM ((ofT es [(Fd.i tp), (Fd.i wh)])).6 fr bd)) ms ts)))
abbrev h2_rFF_x2 (me : Int) (mb : List Int) (es : List (Rec × Ob)) (k ep fr wh tp rd : Int) (bd : List Int) (ms ts : List Rec) := (Ob.node [(Fd.b (((h2_rFF_x1 me mb es k ep fr wh tp rd bd ms ts).1).1).2), (Fd.b (((h2_rFF_x1 me mb es k ep fr wh tp rd bd ms ts).1).1).3), (Fd.b (((h2_rFF_x1 me mb es k ep fr wh tp rd bd ms ts).1).1).4)] [(((h2_rFF_x1 me mb es k ep fr wh tp rd bd ms ts).1).1).5, (((h2_rFF_x1 me mb es k ep fr wh tp rd bd ms ts).1).1).6])
theorem h2_rFF (me : Int) (mb : List Int) (es es' : List (Rec × Ob)) (k ep fr wh tp rd : Int) (bd : List Int) (ms ts ms' ts' : List Rec)
 (h1 : ((cntB mb (MsT.mk k ep fr wh tp rd bd)) = true))
 (h2 : ((List.length mb) ≤ (1000 : Nat)))
 (h3 : ((k == (1 : Int)) = false))
 (h4 : ((k == (2 : Int)) = false))
 (h5 : ((k == (3 : Int)) = true))
 (h6 : ((!(hasE ((ofT es [(Fd.i tp), (Fd.i wh)])).6 [(Fd.i fr)])) = true))
 (h7 : ((List.length bd) ≤ (140737488355328 : Nat)))
 (h8 : (Base7 (70000 : Nat) mb (MsT.mk k ep fr wh tp rd bd) (S7.mk (TkT.mk ((ofT es [(Fd.i tp), (Fd.i wh)])).1 ((ofT es [(Fd.i tp), (Fd.i wh)])).2 ((ofT es [(Fd.i tp), (Fd.i wh)])).3 ((ofT es [(Fd.i tp), (Fd.i wh)])).4 ((ofT es [(Fd.i tp), (Fd.i wh)])).5 (noteM ((ofT es [(Fd.i tp), (Fd.i wh)])).6 fr bd)) ms ts)))
 (h9 : (((ofT es [(Fd.i tp), (Fd.i wh)])).1 = [(Fd.i tp), (Fd.i wh)]))
 (h10 : ((cntP mb (MsT.mk k ep fr wh tp rd bd)) ∧ (List.Mem me mb)))
 (h11 : ((h2_rFF_x1 me mb es k ep fr wh tp rd bd ms ts).2 = (false, false)))
 (h12 : ((((h2_rFF_x1 me mb es k ep fr wh tp rd bd ms ts).1).1).2 = (recB (Ob.r (h2_rFF_x2 me mb es k ep fr wh tp rd bd ms ts)) (0 : Nat))))
 (h13 : ((((h2_rFF_x1 me mb es k ep fr wh tp rd bd ms ts).1).1).3 = (recB (Ob.r (h2_rFF_x2 me mb es k ep fr wh tp rd bd ms ts)) (1 : Nat))))
 (h14 : ((((h2_rFF_x1 me mb es k ep fr wh tp rd bd ms ts).1).1).4 = (recB (Ob.r (h2_rFF_x2 me mb es k ep fr wh tp rd bd ms ts)) (2 : Nat))))
 (h15 : ((((h2_rFF_x1 me mb es k ep fr wh tp rd bd ms ts).1).1).5 = (Ob.c (h2_rFF_x2 me mb es k ep fr wh tp rd bd ms ts) (0 : Nat))))
 (h16 : ((((h2_rFF_x1 me mb es k ep fr wh tp rd bd ms ts).1).1).6 = (Ob.c (h2_rFF_x2 me mb es k ep fr wh tp rd bd ms ts) (1 : Nat))))
 (h17 : ((setE (ofE es [(Fd.i tp), (Fd.i wh)]) (((h2_rFF_x1 me mb es k ep fr wh tp rd bd ms ts).1).1).1 (h2_rFF_x2 me mb es k ep fr wh tp rd bd ms ts)) = es'))
 (h18 : (((h2_rFF_x1 me mb es k ep fr wh tp rd bd ms ts).1).2 = ms'))
 (h19 : (((h2_rFF_x1 me mb es k ep fr wh tp rd bd ms ts).1).3 = ts')) :
 ∃ ps, runO Try.prog DB (gH2 false false false) 100 Try.f23 (hnX me mb es ms ts, [.one (.ref 0 0), (MsT.mk k ep fr wh tp rd bd).a, .one (.ref 1 0)]) [.is true, .is false, .is false, .is true, .is true] (.tup []) (hnR false false me mb es' ms' ts') = some ps ∧ AllQ ps := ⟨_, by kernel_rfl, qc h1 (qc (er k) (qc (er ep) (qc (er fr) (qc (er wh) (qc (er tp) (qc (er rd) (qc (er bd) (qc (er me) (qc (er mb) (qc (er es) (qc h2 (qc (er k) (qc (er ep) (qc (er fr) (qc (er wh) (qc (er tp) (qc (er rd) (qc (er bd) (qc (er me) (qc (er mb) (qc (er es) (qc h3 (qc h4 (qc h5 (qc h6 (qc (er k) (qc (er ep) (qc (er fr) (qc (er wh) (qc (er tp) (qc (er rd) (qc (er bd) (qc (er (((ofT es [(Fd.i tp), (Fd.i wh)])).6)) (qc h7 (qc (er k) (qc (er ep) (qc (er fr) (qc (er wh) (qc (er tp) (qc (er rd) (qc (er bd) (qc (er me) (qc (er mb) (qc (er (((ofT es [(Fd.i tp), (Fd.i wh)])).2)) (qc (er (((ofT es [(Fd.i tp), (Fd.i wh)])).3)) (qc (er (((ofT es [(Fd.i tp), (Fd.i wh)])).4)) (qc (er (((ofT es [(Fd.i tp), (Fd.i wh)])).1)) (qc (er ((ofE es [(Fd.i tp), (Fd.i wh)]))) (qc (er (((ofT es [(Fd.i tp), (Fd.i wh)])).5)) (qc (er ((noteM ((ofT es [(Fd.i tp), (Fd.i wh)])).6 fr bd))) (qc (er ms) (qc (er ts) (qc h8 (qc h9 (qc h10 (qc h11 (qc h12 (qc h13 (qc h14 (qc h15 (qc h16 (qc (er me) (qc (er mb) (qc h17 (qc h18 (qc h19 (qn)))))))))))))))))))))))))))))))))))))))))))))))))))))))))))))))))))⟩
abbrev h2_wFT_x1 (me : Int) (mb : List Int) (es : List (Rec × Ob)) (k ep fr wh tp rd : Int) (bd : List Int) (ms ts : List Rec) := (Ob.node [(Fd.b ((((con1M me mb (MsT.mk k ep fr wh tp rd bd) (S7.mk (ofT es [(Fd.i tp), (Fd.i wh)]) ms ts))).1).1).2), (Fd.b ((((con1M me mb (MsT.mk k ep fr wh tp rd bd) (S7.mk (ofT es [(Fd.i tp), (Fd.i wh)]) ms ts))).1).1).3), (Fd.b ((((con1M me mb (MsT.mk k ep fr wh tp rd bd) (S7.mk (ofT es [(Fd.i tp), (Fd.i wh)]) ms ts))).1).1).4)] [((((con1M me mb (MsT.mk k ep fr wh tp rd bd) (S7.mk (ofT es [(Fd.i tp), (Fd.i wh)]) ms ts))).1).1).5, ((((con1M me mb (MsT.mk k ep fr wh tp rd bd) (S7.mk (ofT es [(Fd.i tp), (Fd.i wh)]) ms ts))).1).1).6])
abbrev h2_wFT_x2 (me : Int) (mb : List Int) (es : List (Rec × Ob)) (k ep fr wh tp rd : Int) (bd : List Int) (ms ts : List Rec) := ((con1M me mb (MsT.mk k ep fr wh tp rd bd) (S7.mk (ofT es [(Fd.i tp), (Fd.i wh)]) ms ts)))
theorem h2_wFT (me : Int) (mb : List Int) (es es' : List (Rec × Ob)) (k ep fr wh tp rd : Int) (bd : List Int) (ms ts ms' ts' : List Rec)
 (h1 : ((cntB mb (MsT.mk k ep fr wh tp rd bd)) = true))
 (h2 : ((List.length mb) ≤ (1000 : Nat)))
 (h3 : ((k == (1 : Int)) = true))
 (h4 : ((fr == wh) = false))
 (h5 : (Base7 (70000 : Nat) mb (MsT.mk k ep fr wh tp rd bd) (S7.mk (ofT es [(Fd.i tp), (Fd.i wh)]) ms ts)))
 (h6 : (((ofT es [(Fd.i tp), (Fd.i wh)])).1 = [(Fd.i tp), (Fd.i wh)]))
 (h7 : ((cntP mb (MsT.mk k ep fr wh tp rd bd)) ∧ (List.Mem me mb)))
 (h8 : ((h2_wFT_x2 me mb es k ep fr wh tp rd bd ms ts).2 = (false, true)))
 (h9 : ((((h2_wFT_x2 me mb es k ep fr wh tp rd bd ms ts).1).1).2 = (recB (Ob.r (h2_wFT_x1 me mb es k ep fr wh tp rd bd ms ts)) (0 : Nat))))
 (h10 : ((((h2_wFT_x2 me mb es k ep fr wh tp rd bd ms ts).1).1).3 = (recB (Ob.r (h2_wFT_x1 me mb es k ep fr wh tp rd bd ms ts)) (1 : Nat))))
 (h11 : ((((h2_wFT_x2 me mb es k ep fr wh tp rd bd ms ts).1).1).4 = (recB (Ob.r (h2_wFT_x1 me mb es k ep fr wh tp rd bd ms ts)) (2 : Nat))))
 (h12 : ((((h2_wFT_x2 me mb es k ep fr wh tp rd bd ms ts).1).1).5 = (Ob.c (h2_wFT_x1 me mb es k ep fr wh tp rd bd ms ts) (0 : Nat))))
 (h13 : ((((h2_wFT_x2 me mb es k ep fr wh tp rd bd ms ts).1).1).6 = (Ob.c (h2_wFT_x1 me mb es k ep fr wh tp rd bd ms ts) (1 : Nat))))
 (h14 : ((setE (ofE es [(Fd.i tp), (Fd.i wh)]) (((h2_wFT_x2 me mb es k ep fr wh tp rd bd ms ts).1).1).1 (h2_wFT_x1 me mb es k ep fr wh tp rd bd ms ts)) = es'))
 (h15 : (((h2_wFT_x2 me mb es k ep fr wh tp rd bd ms ts).1).2 = ms'))
 (h16 : (((h2_wFT_x2 me mb es k ep fr wh tp rd bd ms ts).1).3 = ts')) :
 ∃ ps, runO Try.prog DB (gH2 false false true) 100 Try.f23 (hnX me mb es ms ts, [.one (.ref 0 0), (MsT.mk k ep fr wh tp rd bd).a, .one (.ref 1 0)]) [.is true, .is true, .is false] (.tup []) (hnR false true me mb es' ms' ts') = some ps ∧ AllQ ps := ⟨_, by kernel_rfl, qc h1 (qc (er k) (qc (er ep) (qc (er fr) (qc (er wh) (qc (er tp) (qc (er rd) (qc (er bd) (qc (er me) (qc (er mb) (qc (er es) (qc h2 (qc (er k) (qc (er ep) (qc (er fr) (qc (er wh) (qc (er tp) (qc (er rd) (qc (er bd) (qc (er me) (qc (er mb) (qc (er es) (qc h3 (qc h4 (qc (er k) (qc (er ep) (qc (er fr) (qc (er wh) (qc (er tp) (qc (er rd) (qc (er bd) (qc (er me) (qc (er mb) (qc (er (((ofT es [(Fd.i tp), (Fd.i wh)])).2)) (qc (er (((ofT es [(Fd.i tp), (Fd.i wh)])).3)) (qc (er (((ofT es [(Fd.i tp), (Fd.i wh)])).4)) (qc (er (((ofT es [(Fd.i tp), (Fd.i wh)])).1)) (qc (er ((ofE es [(Fd.i tp), (Fd.i wh)]))) (qc (er (((ofT es [(Fd.i tp), (Fd.i wh)])).5)) (qc (er (((ofT es [(Fd.i tp), (Fd.i wh)])).6)) (qc (er ms) (qc (er ts) (qc h5 (qc h6 (qc h7 (qc h8 (qc h9 (qc h10 (qc h11 (qc h12 (qc h13 (qc (er me) (qc (er mb) (qc h14 (qc h15 (qc h16 (qn))))))))))))))))))))))))))))))))))))))))))))))))))))))))⟩
abbrev h2_bFT_x1 (me : Int) (mb : List Int) (es : List (Rec × Ob)) (k ep fr wh tp rd : Int) (bd : List Int) (ms ts : List Rec) := (Ob.node [(Fd.b ((((con1M me mb (MsT.mk k ep fr wh tp rd bd) (S7.mk (ofT es [(Fd.i tp), (Fd.i wh)]) ms ts))).1).1).2), (Fd.b ((((con1M me mb (MsT.mk k ep fr wh tp rd bd) (S7.mk (ofT es [(Fd.i tp), (Fd.i wh)]) ms ts))).1).1).3), (Fd.b ((((con1M me mb (MsT.mk k ep fr wh tp rd bd) (S7.mk (ofT es [(Fd.i tp), (Fd.i wh)]) ms ts))).1).1).4)] [((((con1M me mb (MsT.mk k ep fr wh tp rd bd) (S7.mk (ofT es [(Fd.i tp), (Fd.i wh)]) ms ts))).1).1).5, ((((con1M me mb (MsT.mk k ep fr wh tp rd bd) (S7.mk (ofT es [(Fd.i tp), (Fd.i wh)]) ms ts))).1).1).6])
abbrev h2_bFT_x2 (me : Int) (mb : List Int) (es : List (Rec × Ob)) (k ep fr wh tp rd : Int) (bd : List Int) (ms ts : List Rec) := ((con1M me mb (MsT.mk k ep fr wh tp rd bd) (S7.mk (ofT es [(Fd.i tp), (Fd.i wh)]) ms ts)))
theorem h2_bFT (me : Int) (mb : List Int) (es es' : List (Rec × Ob)) (k ep fr wh tp rd : Int) (bd : List Int) (ms ts ms' ts' : List Rec)
 (h1 : ((cntB mb (MsT.mk k ep fr wh tp rd bd)) = true))
 (h2 : ((List.length mb) ≤ (1000 : Nat)))
 (h3 : ((k == (1 : Int)) = true))
 (h4 : ((fr == wh) = true))
 (h5 : (((ofT es [(Fd.i tp), (Fd.i wh)])).2 = true))
 (h6 : (Base7 (70000 : Nat) mb (MsT.mk k ep fr wh tp rd bd) (S7.mk (ofT es [(Fd.i tp), (Fd.i wh)]) ms ts)))
 (h7 : (((ofT es [(Fd.i tp), (Fd.i wh)])).1 = [(Fd.i tp), (Fd.i wh)]))
 (h8 : ((cntP mb (MsT.mk k ep fr wh tp rd bd)) ∧ (List.Mem me mb)))
 (h9 : ((h2_bFT_x2 me mb es k ep fr wh tp rd bd ms ts).2 = (false, true)))
 (h10 : ((((h2_bFT_x2 me mb es k ep fr wh tp rd bd ms ts).1).1).2 = (recB (Ob.r (h2_bFT_x1 me mb es k ep fr wh tp rd bd ms ts)) (0 : Nat))))
 (h11 : ((((h2_bFT_x2 me mb es k ep fr wh tp rd bd ms ts).1).1).3 = (recB (Ob.r (h2_bFT_x1 me mb es k ep fr wh tp rd bd ms ts)) (1 : Nat))))
 (h12 : ((((h2_bFT_x2 me mb es k ep fr wh tp rd bd ms ts).1).1).4 = (recB (Ob.r (h2_bFT_x1 me mb es k ep fr wh tp rd bd ms ts)) (2 : Nat))))
 (h13 : ((((h2_bFT_x2 me mb es k ep fr wh tp rd bd ms ts).1).1).5 = (Ob.c (h2_bFT_x1 me mb es k ep fr wh tp rd bd ms ts) (0 : Nat))))
 (h14 : ((((h2_bFT_x2 me mb es k ep fr wh tp rd bd ms ts).1).1).6 = (Ob.c (h2_bFT_x1 me mb es k ep fr wh tp rd bd ms ts) (1 : Nat))))
 (h15 : ((setE (ofE es [(Fd.i tp), (Fd.i wh)]) (((h2_bFT_x2 me mb es k ep fr wh tp rd bd ms ts).1).1).1 (h2_bFT_x1 me mb es k ep fr wh tp rd bd ms ts)) = es'))
 (h16 : (((h2_bFT_x2 me mb es k ep fr wh tp rd bd ms ts).1).2 = ms'))
 (h17 : (((h2_bFT_x2 me mb es k ep fr wh tp rd bd ms ts).1).3 = ts')) :
 ∃ ps, runO Try.prog DB (gH2 false false true) 100 Try.f23 (hnX me mb es ms ts, [.one (.ref 0 0), (MsT.mk k ep fr wh tp rd bd).a, .one (.ref 1 0)]) [.is true, .is true, .is true, .is true] (.tup []) (hnR false true me mb es' ms' ts') = some ps ∧ AllQ ps := ⟨_, by kernel_rfl, qc h1 (qc (er k) (qc (er ep) (qc (er fr) (qc (er wh) (qc (er tp) (qc (er rd) (qc (er bd) (qc (er me) (qc (er mb) (qc (er es) (qc h2 (qc (er k) (qc (er ep) (qc (er fr) (qc (er wh) (qc (er tp) (qc (er rd) (qc (er bd) (qc (er me) (qc (er mb) (qc (er es) (qc h3 (qc h4 (qc h5 (qc (er k) (qc (er ep) (qc (er fr) (qc (er wh) (qc (er tp) (qc (er rd) (qc (er bd) (qc (er me) (qc (er mb) (qc (er (((ofT es [(Fd.i tp), (Fd.i wh)])).2)) (qc (er (((ofT es [(Fd.i tp), (Fd.i wh)])).3)) (qc (er (((ofT es [(Fd.i tp), (Fd.i wh)])).4)) (qc (er (((ofT es [(Fd.i tp), (Fd.i wh)])).1)) (qc (er ((ofE es [(Fd.i tp), (Fd.i wh)]))) (qc (er (((ofT es [(Fd.i tp), (Fd.i wh)])).5)) (qc (er (((ofT es [(Fd.i tp), (Fd.i wh)])).6)) (qc (er ms) (qc (er ts) (qc h6 (qc h7 (qc h8 (qc h9 (qc h10 (qc h11 (qc h12 (qc h13 (qc h14 (qc (er me) (qc (er mb) (qc h15 (qc h16 (qc h17 (qn)))))))))))))))))))))))))))))))))))))))))))))))))))))))))⟩
abbrev h2_eFT_x1 (me : Int) (mb : List Int) (es : List (Rec × Ob)) (k ep fr wh tp rd : Int) (bd : List Int) (ms ts : List Rec) := ((con1M me mb (MsT.mk k ep fr wh tp rd bd) (S7.mk (TkT.mk ((ofT es [(Fd.i tp), (Fd.i wh)])).1 ((ofT es [(Fd.i tp), (Fd.i wh)])).2 ((ofT es [(Fd.i tp), (Fd.i wh)])).3 ((ofT es [(Fd.i tp), (Fd.i wh)])).4 (noteM ((ofT es [(Fd.i tp), (Fd.i wh)])).5 fr bd) ((ofT es [(Fd.i tp), (Fd.i wh)])).6) ms ts)))
abbrev h2_eFT_x2 (me : Int) (mb : List Int) (es : List (Rec × Ob)) (k ep fr wh tp rd : Int) (bd : List Int) (ms ts : List Rec) := (Ob.node [(Fd.b (((h2_eFT_x1 me mb es k ep fr wh tp rd bd ms ts).1).1).2), (Fd.b (((h2_eFT_x1 me mb es k ep fr wh tp rd bd ms ts).1).1).3), (Fd.b (((h2_eFT_x1 me mb es k ep fr wh tp rd bd ms ts).1).1).4)] [(((h2_eFT_x1 me mb es k ep fr wh tp rd bd ms ts).1).1).5, (((h2_eFT_x1 me mb es k ep fr wh tp rd bd ms ts).1).1).6])
theorem h2_eFT (me : Int) (mb : List Int) (es es' : List (Rec × Ob)) (k ep fr wh tp rd : Int) (bd : List Int) (ms ts ms' ts' : List Rec)
 (h1 : ((cntB mb (MsT.mk k ep fr wh tp rd bd)) = true))
 (h2 : ((List.length mb) ≤ (1000 : Nat)))
 (h3 : ((k == (1 : Int)) = false))
 (h4 : ((k == (2 : Int)) = true))
 (h5 : ((!(hasE ((ofT es [(Fd.i tp), (Fd.i wh)])).5 [(Fd.i fr)])) = true))
 (h6 : ((List.length bd) ≤ (140737488355328 : Nat)))
 (h7 : (Base7 (70000 : Nat) mb (MsT.mk k ep fr wh tp rd bd) (S7.mk (TkT.mk ((ofT es [(Fd.i tp), (Fd.i wh)])).1 ((ofT es [(Fd.i tp), (Fd.i wh)])).2 ((ofT es [(Fd.i tp), (Fd.i wh)])).3 ((ofT es [(Fd.i tp), (Fd.i wh)])).4 (noteM ((ofT es [(Fd.i tp), (Fd.i wh)])).5 fr bd) ((ofT es [(Fd.i tp), (Fd.i wh)])).6) ms ts)))
 (h8 : (((ofT es [(Fd.i tp), (Fd.i wh)])).1 = [(Fd.i tp), (Fd.i wh)]))
 (h9 : ((cntP mb (MsT.mk k ep fr wh tp rd bd)) ∧ (List.Mem me mb)))
 (h10 : ((h2_eFT_x1 me mb es k ep fr wh tp rd bd ms ts).2 = (false, true)))
 (h11 : ((((h2_eFT_x1 me mb es k ep fr wh tp rd bd ms ts).1).1).2 = (recB (Ob.r (h2_eFT_x2 me mb es k ep fr wh tp rd bd ms ts)) (0 : Nat))))
 (h12 : ((((h2_eFT_x1 me mb es k ep fr wh tp rd bd ms ts).1).1).3 = (recB (Ob.r (h2_eFT_x2 me mb es k ep fr wh tp rd bd ms ts)) (1 : Nat))))
 (h13 : ((((h2_eFT_x1 me mb es k ep fr wh tp rd bd ms ts).1).1).4 = (recB (Ob.r (h2_eFT_x2 me mb es k ep fr wh tp rd bd ms ts)) (2 : Nat))))
 (h14 : ((((h2_eFT_x1 me mb es k ep fr wh tp rd bd ms ts).1).1).5 = (Ob.c (h2_eFT_x2 me mb es k ep fr wh tp rd bd ms ts) (0 : Nat))))
 (h15 : ((((h2_eFT_x1 me mb es k ep fr wh tp rd bd ms ts).1).1).6 = (Ob.c (h2_eFT_x2 me mb es k ep fr wh tp rd bd ms ts) (1 : Nat))))
 (h16 : ((setE (ofE es [(Fd.i tp), (Fd.i wh)]) (((h2_eFT_x1 me mb es k ep fr wh tp rd bd ms ts).1).1).1 (h2_eFT_x2 me mb es k ep fr wh tp rd bd ms ts)) = es'))
 (h17 : (((h2_eFT_x1 me mb es k ep fr wh tp rd bd ms ts).1).2 = ms'))
 (h18 : (((h2_eFT_x1 me mb es k ep fr wh tp rd bd ms ts).1).3 = ts')) :
 ∃ ps, runO Try.prog DB (gH2 false false true) 100 Try.f23 (hnX me mb es ms ts, [.one (.ref 0 0), (MsT.mk k ep fr wh tp rd bd).a, .one (.ref 1 0)]) [.is true, .is false, .is true, .is true] (.tup []) (hnR false true me mb es' ms' ts') = some ps ∧ AllQ ps := ⟨_, by kernel_rfl, qc h1 (qc (er k) (qc (er ep) (qc (er fr) (qc (er wh) (qc (er tp) (qc (er rd) (qc (er bd) (qc (er me) (qc (er mb) (qc (er es) (qc h2 (qc (er k) (qc (er ep) (qc (er fr) (qc (er wh) (qc (er tp) (qc (er rd) (qc (er bd) (qc (er me) (qc (er mb) (qc (er es) (qc h3 (qc h4 (qc h5 (qc (er k) (qc (er ep) (qc (er fr) (qc (er wh) (qc (er tp) (qc (er rd) (qc (er bd) (qc (er (((ofT es [(Fd.i tp), (Fd.i wh)])).5)) (qc h6 (qc (er k) (qc (er ep) (qc (er fr) (qc (er wh) (qc (er tp) (qc (er rd) (qc (er bd) (qc (er me) (qc (er mb) (qc (er (((ofT es [(Fd.i tp), (Fd.i wh)])).2)) (qc (er (((ofT es [(Fd.i tp), (Fd.i wh)])).3)) (qc (er (((ofT es [(Fd.i tp), (Fd.i wh)])).4)) (qc (er (((ofT es [(Fd.i tp), (Fd.i wh)])).1)) (qc (er ((ofE es [(Fd.i tp), (Fd.i wh)]))) (qc (er ((noteM ((ofT es [(Fd.i tp), (Fd.i wh)])).5 fr bd))) (qc (er (((ofT es [(Fd.i tp), (Fd.i wh)])).6)) (qc (er ms) (qc (er ts) (qc h7 (qc h8 (qc h9 (qc h10 (qc h11 (qc h12 (qc h13 (qc h14 (qc h15 (qc (er me) (qc (er mb) (qc h16 (qc h17 (qc h18 (qn))))))))))))))))))))))))))))))))))))))))))))))))))))))))))))))))))⟩
abbrev h2_rFT_x1 (me : Int) (mb : List Int) (es : List (Rec × Ob)) (k ep fr wh tp rd : Int) (bd : List Int) (ms ts : List Rec) := ((con1M me mb (MsT.mk k ep fr wh tp rd bd) (S7.mk (TkT.mk ((ofT es [(Fd.i tp), (Fd.i wh)])).1 ((ofT es [(Fd.i tp), (Fd.i wh)])).2 ((ofT es [(Fd.i tp), (Fd.i wh)])).3 ((ofT es [(Fd.i tp), (Fd.i wh)])).4 ((ofT es [(Fd.i tp), (Fd.i wh)])).5 (noteM ((ofT es [(Fd.i tp), (Fd.i wh)])).6 fr bd)) ms ts)))
abbrev h2_rFT_x2 (me : Int) (mb : List Int) (es : List (Rec × Ob)) (k ep fr wh tp rd : Int) (bd : List Int) (ms ts : List Rec) := (Ob.node [(Fd.b (((h2_rFT_x1 me mb es k ep fr wh tp rd bd ms ts).1).1).2), (Fd.b (((h2_rFT_x1 me mb es k ep fr wh tp rd bd ms ts).1).1).3), (Fd.b (((h2_rFT_x1 me mb es k ep fr wh tp rd bd ms ts).1).1).4)] [(((h2_rFT_x1 me mb es k ep fr wh tp rd bd ms ts).1).1).5, (((h2_rFT_x1 me mb es k ep fr wh tp rd bd ms ts).1).1).6])
theorem h2_rFT (me : Int) (mb : List Int) (es es' : List (Rec × Ob)) (k ep fr wh tp rd : Int) (bd : List Int) (ms ts ms' ts' : List Rec)
 (h1 : ((cntB mb (MsT.mk k ep fr wh tp rd bd)) = true))
 (h2 : ((List.length mb) ≤ (1000 : Nat)))
 (h3 : ((k == (1 : Int)) = false))
 (h4 : ((k == (2 : Int)) = false))
 (h5 : ((k == (3 : Int)) = true))
 (h6 : ((!(hasE ((ofT es [(Fd.i tp), (Fd.i wh)])).6 [(Fd.i fr)])) = true))
 (h7 : ((List.length bd) ≤ (140737488355328 : Nat)))
 (h8 : (Base7 (70000 : Nat) mb (MsT.mk k ep fr wh tp rd bd) (S7.mk (TkT.mk ((ofT es [(Fd.i tp), (Fd.i wh)])).1 ((ofT es [(Fd.i tp), (Fd.i wh)])).2 ((ofT es [(Fd.i tp), (Fd.i wh)])).3 ((ofT es [(Fd.i tp), (Fd.i wh)])).4 ((ofT es [(Fd.i tp), (Fd.i wh)])).5 (noteM ((ofT es [(Fd.i tp), (Fd.i wh)])).6 fr bd)) ms ts)))
 (h9 : (((ofT es [(Fd.i tp), (Fd.i wh)])).1 = [(Fd.i tp), (Fd.i wh)]))
 (h10 : ((cntP mb (MsT.mk k ep fr wh tp rd bd)) ∧ (List.Mem me mb)))
 (h11 : ((h2_rFT_x1 me mb es k ep fr wh tp rd bd ms ts).2 = (false, true)))
 (h12 : ((((h2_rFT_x1 me mb es k ep fr wh tp rd bd ms ts).1).1).2 = (recB (Ob.r (h2_rFT_x2 me mb es k ep fr wh tp rd bd ms ts)) (0 : Nat))))
 (h13 : ((((h2_rFT_x1 me mb es k ep fr wh tp rd bd ms ts).1).1).3 = (recB (Ob.r (h2_rFT_x2 me mb es k ep fr wh tp rd bd ms ts)) (1 : Nat))))
 (h14 : ((((h2_rFT_x1 me mb es k ep fr wh tp rd bd ms ts).1).1).4 = (recB (Ob.r (h2_rFT_x2 me mb es k ep fr wh tp rd bd ms ts)) (2 : Nat))))
 (h15 : ((((h2_rFT_x1 me mb es k ep fr wh tp rd bd ms ts).1).1).5 = (Ob.c (h2_rFT_x2 me mb es k ep fr wh tp rd bd ms ts) (0 : Nat))))
 (h16 : ((((h2_rFT_x1 me mb es k ep fr wh tp rd bd ms ts).1).1).6 = (Ob.c (h2_rFT_x2 me mb es k ep fr wh tp rd bd ms ts) (1 : Nat))))
 (h17 : ((setE (ofE es [(Fd.i tp), (Fd.i wh)]) (((h2_rFT_x1 me mb es k ep fr wh tp rd bd ms ts).1).1).1 (h2_rFT_x2 me mb es k ep fr wh tp rd bd ms ts)) = es'))
 (h18 : (((h2_rFT_x1 me mb es k ep fr wh tp rd bd ms ts).1).2 = ms'))
 (h19 : (((h2_rFT_x1 me mb es k ep fr wh tp rd bd ms ts).1).3 = ts')) :
 ∃ ps, runO Try.prog DB (gH2 false false true) 100 Try.f23 (hnX me mb es ms ts, [.one (.ref 0 0), (MsT.mk k ep fr wh tp rd bd).a, .one (.ref 1 0)]) [.is true, .is false, .is false, .is true, .is true] (.tup []) (hnR false true me mb es' ms' ts') = some ps ∧ AllQ ps := ⟨_, by kernel_rfl, qc h1 (qc (er k) (qc (er ep) (qc (er fr) (qc (er wh) (qc (er tp) (qc (er rd) (qc (er bd) (qc (er me) (qc (er mb) (qc (er es) (qc h2 (qc (er k) (qc (er ep) (qc (er fr) (qc (er wh) (qc (er tp) (qc (er rd) (qc (er bd) (qc (er me) (qc (er mb) (qc (er es) (qc h3 (qc h4 (qc h5 (qc h6 (qc (er k) (qc (er ep) (qc (er fr) (qc (er wh) (qc (er tp) (qc (er rd) (qc (er bd) (qc (er (((ofT es [(Fd.i tp), (Fd.i wh)])).6)) (qc h7 (qc (er k) (qc (er ep) (qc (er fr) (qc (er wh) (qc (er tp) (qc (er rd) (qc (er bd) (qc (er me) (qc (er mb) (qc (er (((ofT es [(Fd.i tp), (Fd.i wh)])).2)) (qc (er (((ofT es [(Fd.i tp), (Fd.i wh)])).3)) (qc (er (((ofT es [(Fd.i tp), (Fd.i wh)])).4)) (qc (er (((ofT es [(Fd.i tp), (Fd.i wh)])).1)) (qc (er ((ofE es [(Fd.i tp), (Fd.i wh)]))) (qc (er (((ofT es [(Fd.i tp), (Fd.i wh)])).5)) (qc (er ((noteM ((ofT es [(Fd.i tp), (Fd.i wh)])).6 fr bd))) (qc (er ms) (qc (er ts) (qc h8 (qc h9 (qc h10 (qc h11 (qc h12 (qc h13 (qc h14 (qc h15 (qc h16 (qc (er me) (qc (er mb) (qc h17 (qc h18 (qc h19 (qn)))))))))))))))))))))))))))))))))))))))))))))))))))))))))))))))))))⟩
abbrev h2_wTF_x1 (me : Int) (mb : List Int) (es : List (Rec × Ob)) (k ep fr wh tp rd : Int) (bd : List Int) (ms ts : List Rec) := (Ob.node [(Fd.b ((((con1M me mb (MsT.mk k ep fr wh tp rd bd) (S7.mk (ofT es [(Fd.i tp), (Fd.i wh)]) ms ts))).1).1).2), (Fd.b ((((con1M me mb (MsT.mk k ep fr wh tp rd bd) (S7.mk (ofT es [(Fd.i tp), (Fd.i wh)]) ms ts))).1).1).3), (Fd.b ((((con1M me mb (MsT.mk k ep fr wh tp rd bd) (S7.mk (ofT es [(Fd.i tp), (Fd.i wh)]) ms ts))).1).1).4)] [((((con1M me mb (MsT.mk k ep fr wh tp rd bd) (S7.mk (ofT es [(Fd.i tp), (Fd.i wh)]) ms ts))).1).1).5, ((((con1M me mb (MsT.mk k ep fr wh tp rd bd) (S7.mk (ofT es [(Fd.i tp), (Fd.i wh)]) ms ts))).1).1).6])
abbrev h2_wTF_x2 (me : Int) (mb : List Int) (es : List (Rec × Ob)) (k ep fr wh tp rd : Int) (bd : List Int) (ms ts : List Rec) := ((con1M me mb (MsT.mk k ep fr wh tp rd bd) (S7.mk (ofT es [(Fd.i tp), (Fd.i wh)]) ms ts)))
theorem h2_wTF (me : Int) (mb : List Int) (es es' : List (Rec × Ob)) (k ep fr wh tp rd : Int) (bd : List Int) (ms ts ms' ts' : List Rec)
 (h1 : ((cntB mb (MsT.mk k ep fr wh tp rd bd)) = true))
 (h2 : ((List.length mb) ≤ (1000 : Nat)))
 (h3 : ((k == (1 : Int)) = true))
 (h4 : ((fr == wh) = false))
 (h5 : (Base7 (70000 : Nat) mb (MsT.mk k ep fr wh tp rd bd) (S7.mk (ofT es [(Fd.i tp), (Fd.i wh)]) ms ts)))
 (h6 : (((ofT es [(Fd.i tp), (Fd.i wh)])).1 = [(Fd.i tp), (Fd.i wh)]))
 (h7 : ((cntP mb (MsT.mk k ep fr wh tp rd bd)) ∧ (List.Mem me mb)))
 (h8 : ((h2_wTF_x2 me mb es k ep fr wh tp rd bd ms ts).2 = (true, false)))
 (h9 : ((((h2_wTF_x2 me mb es k ep fr wh tp rd bd ms ts).1).1).2 = (recB (Ob.r (h2_wTF_x1 me mb es k ep fr wh tp rd bd ms ts)) (0 : Nat))))
 (h10 : ((((h2_wTF_x2 me mb es k ep fr wh tp rd bd ms ts).1).1).3 = (recB (Ob.r (h2_wTF_x1 me mb es k ep fr wh tp rd bd ms ts)) (1 : Nat))))
 (h11 : ((((h2_wTF_x2 me mb es k ep fr wh tp rd bd ms ts).1).1).4 = (recB (Ob.r (h2_wTF_x1 me mb es k ep fr wh tp rd bd ms ts)) (2 : Nat))))
 (h12 : ((((h2_wTF_x2 me mb es k ep fr wh tp rd bd ms ts).1).1).5 = (Ob.c (h2_wTF_x1 me mb es k ep fr wh tp rd bd ms ts) (0 : Nat))))
 (h13 : ((((h2_wTF_x2 me mb es k ep fr wh tp rd bd ms ts).1).1).6 = (Ob.c (h2_wTF_x1 me mb es k ep fr wh tp rd bd ms ts) (1 : Nat))))
 (h14 : ((setE (ofE es [(Fd.i tp), (Fd.i wh)]) (((h2_wTF_x2 me mb es k ep fr wh tp rd bd ms ts).1).1).1 (h2_wTF_x1 me mb es k ep fr wh tp rd bd ms ts)) = es'))
 (h15 : (((h2_wTF_x2 me mb es k ep fr wh tp rd bd ms ts).1).3 = ts'))
 (h16 : (((h2_wTF_x2 me mb es k ep fr wh tp rd bd ms ts).1).2 = ms')) :
 ∃ ps, runO Try.prog DB (gH2 false true false) 100 Try.f23 (hnX me mb es ms ts, [.one (.ref 0 0), (MsT.mk k ep fr wh tp rd bd).a, .one (.ref 1 0)]) [.is true, .is true, .is false] (.tup []) (hnR true false me mb es' ms' ts') = some ps ∧ AllQ ps := ⟨_, by kernel_rfl, qc h1 (qc (er k) (qc (er ep) (qc (er fr) (qc (er wh) (qc (er tp) (qc (er rd) (qc (er bd) (qc (er me) (qc (er mb) (qc (er es) (qc h2 (qc (er k) (qc (er ep) (qc (er fr) (qc (er wh) (qc (er tp) (qc (er rd) (qc (er bd) (qc (er me) (qc (er mb) (qc (er es) (qc h3 (qc h4 (qc (er k) (qc (er ep) (qc (er fr) (qc (er wh) (qc (er tp) (qc (er rd) (qc (er bd) (qc (er me) (qc (er mb) (qc (er (((ofT es [(Fd.i tp), (Fd.i wh)])).2)) (qc (er (((ofT es [(Fd.i tp), (Fd.i wh)])).3)) (qc (er (((ofT es [(Fd.i tp), (Fd.i wh)])).4)) (qc (er (((ofT es [(Fd.i tp), (Fd.i wh)])).1)) (qc (er ((ofE es [(Fd.i tp), (Fd.i wh)]))) (qc (er (((ofT es [(Fd.i tp), (Fd.i wh)])).5)) (qc (er (((ofT es [(Fd.i tp), (Fd.i wh)])).6)) (qc (er ms) (qc (er ts) (qc h5 (qc h6 (qc h7 (qc h8 (qc h9 (qc h10 (qc h11 (qc h12 (qc h13 (qc (er me) (qc (er mb) (qc h14 (qc h15 (qc h16 (qn))))))))))))))))))))))))))))))))))))))))))))))))))))))))⟩
abbrev h2_bTF_x1 (me : Int) (mb : List Int) (es : List (Rec × Ob)) (k ep fr wh tp rd : Int) (bd : List Int) (ms ts : List Rec) := (Ob.node [(Fd.b ((((con1M me mb (MsT.mk k ep fr wh tp rd bd) (S7.mk (ofT es [(Fd.i tp), (Fd.i wh)]) ms ts))).1).1).2), (Fd.b ((((con1M me mb (MsT.mk k ep fr wh tp rd bd) (S7.mk (ofT es [(Fd.i tp), (Fd.i wh)]) ms ts))).1).1).3), (Fd.b ((((con1M me mb (MsT.mk k ep fr wh tp rd bd) (S7.mk (ofT es [(Fd.i tp), (Fd.i wh)]) ms ts))).1).1).4)] [((((con1M me mb (MsT.mk k ep fr wh tp rd bd) (S7.mk (ofT es [(Fd.i tp), (Fd.i wh)]) ms ts))).1).1).5, ((((con1M me mb (MsT.mk k ep fr wh tp rd bd) (S7.mk (ofT es [(Fd.i tp), (Fd.i wh)]) ms ts))).1).1).6])
abbrev h2_bTF_x2 (me : Int) (mb : List Int) (es : List (Rec × Ob)) (k ep fr wh tp rd : Int) (bd : List Int) (ms ts : List Rec) := ((con1M me mb (MsT.mk k ep fr wh tp rd bd) (S7.mk (ofT es [(Fd.i tp), (Fd.i wh)]) ms ts)))
theorem h2_bTF (me : Int) (mb : List Int) (es es' : List (Rec × Ob)) (k ep fr wh tp rd : Int) (bd : List Int) (ms ts ms' ts' : List Rec)
 (h1 : ((cntB mb (MsT.mk k ep fr wh tp rd bd)) = true))
 (h2 : ((List.length mb) ≤ (1000 : Nat)))
 (h3 : ((k == (1 : Int)) = true))
 (h4 : ((fr == wh) = true))
 (h5 : (((ofT es [(Fd.i tp), (Fd.i wh)])).2 = true))
 (h6 : (Base7 (70000 : Nat) mb (MsT.mk k ep fr wh tp rd bd) (S7.mk (ofT es [(Fd.i tp), (Fd.i wh)]) ms ts)))
 (h7 : (((ofT es [(Fd.i tp), (Fd.i wh)])).1 = [(Fd.i tp), (Fd.i wh)]))
 (h8 : ((cntP mb (MsT.mk k ep fr wh tp rd bd)) ∧ (List.Mem me mb)))
 (h9 : ((h2_bTF_x2 me mb es k ep fr wh tp rd bd ms ts).2 = (true, false)))
 (h10 : ((((h2_bTF_x2 me mb es k ep fr wh tp rd bd ms ts).1).1).2 = (recB (Ob.r (h2_bTF_x1 me mb es k ep fr wh tp rd bd ms ts)) (0 : Nat))))
 (h11 : ((((h2_bTF_x2 me mb es k ep fr wh tp rd bd ms ts).1).1).3 = (recB (Ob.r (h2_bTF_x1 me mb es k ep fr wh tp rd bd ms ts)) (1 : Nat))))
 (h12 : ((((h2_bTF_x2 me mb es k ep fr wh tp rd bd ms ts).1).1).4 = (recB (Ob.r (h2_bTF_x1 me mb es k ep fr wh tp rd bd ms ts)) (2 : Nat))))
 (h13 : ((((h2_bTF_x2 me mb es k ep fr wh tp rd bd ms ts).1).1).5 = (Ob.c (h2_bTF_x1 me mb es k ep fr wh tp rd bd ms ts) (0 : Nat))))
 (h14 : ((((h2_bTF_x2 me mb es k ep fr wh tp rd bd ms ts).1).1).6 = (Ob.c (h2_bTF_x1 me mb es k ep fr wh tp rd bd ms ts) (1 : Nat))))
 (h15 : ((setE (ofE es [(Fd.i tp), (Fd.i wh)]) (((h2_bTF_x2 me mb es k ep fr wh tp rd bd ms ts).1).1).1 (h2_bTF_x1 me mb es k ep fr wh tp rd bd ms ts)) = es'))
 (h16 : (((h2_bTF_x2 me mb es k ep fr wh tp rd bd ms ts).1).3 = ts'))
 (h17 : (((h2_bTF_x2 me mb es k ep fr wh tp rd bd ms ts).1).2 = ms')) :
 ∃ ps, runO Try.prog DB (gH2 false true false) 100 Try.f23 (hnX me mb es ms ts, [.one (.ref 0 0), (MsT.mk k ep fr wh tp rd bd).a, .one (.ref 1 0)]) [.is true, .is true, .is true, .is true] (.tup []) (hnR true false me mb es' ms' ts') = some ps ∧ AllQ ps := ⟨_, by kernel_rfl, qc h1 (qc (er k) (qc (er ep) (qc (er fr) (qc (er wh) (qc (er tp) (qc (er rd) (qc (er bd) (qc (er me) (qc (er mb) (qc (er es) (qc h2 (qc (er k) (qc (er ep) (qc (er fr) (qc (er wh) (qc (er tp) (qc (er rd) (qc (er bd) (qc (er me) (qc (er mb) (qc (er es) (qc h3 (qc h4 (qc h5 (qc (er k) (qc (er ep) (qc (er fr) (qc (er wh) (qc (er tp) (qc (er rd) (qc (er bd) (qc (er me) (qc (er mb) (qc (er (((ofT es [(Fd.i tp), (Fd.i wh)])).2)) (qc (er (((ofT es [(Fd.i tp), (Fd.i wh)])).3)) (qc (er (((ofT es [(Fd.i tp), (Fd.i wh)])).4)) (qc (er (((ofT es [(Fd.i tp), (Fd.i wh)])).1)) (qc (er ((ofE es [(Fd.i tp), (Fd.i wh)]))) (qc (er (((ofT es [(Fd.i tp), (Fd.i wh)])).5)) (qc (er (((ofT es [(Fd.i tp), (Fd.i wh)])).6)) (qc (er ms) (qc (er ts) (qc h6 (qc h7 (qc h8 (qc h9 (qc h10 (qc h11 (qc h12 (qc h13 (qc h14 (qc (er me) (qc (er mb) (qc h15 (qc h16 (qc h17 (qn)))))))))))))))))))))))))))))))))))))))))))))))))))))))))⟩
abbrev h2_eTF_x1 (me : Int) (mb : List Int) (es : List (Rec × Ob)) (k ep fr wh tp rd : Int) (bd : List Int) (ms ts : List Rec) := ((con1M me mb (MsT.mk k ep fr wh tp rd bd) (S7.mk (TkT.mk ((ofT es [(Fd.i tp), (Fd.i wh)])).1 ((ofT es [(Fd.i tp), (Fd.i wh)])).2 ((ofT es [(Fd.i tp), (Fd.i wh)])).3 ((ofT es [(Fd.i tp), (Fd.i wh)])).4 (noteM ((ofT es [(Fd.i tp), (Fd.i wh)])).5 fr bd) ((ofT es [(Fd.i tp), (Fd.i wh)])).6) ms ts)))
abbrev h2_eTF_x2 (me : Int) (mb : List Int) (es : List (Rec × Ob)) (k ep fr wh tp rd : Int) (bd : List Int) (ms ts : List Rec) := (Ob.node [(Fd.b (((h2_eTF_x1 me mb es k ep fr wh tp rd bd ms ts).1).1).2), (Fd.b (((h2_eTF_x1 me mb es k ep fr wh tp rd bd ms ts).1).1).3), (Fd.b (((h2_eTF_x1 me mb es k ep fr wh tp rd bd ms ts).1).1).4)] [(((h2_eTF_x1 me mb es k ep fr wh tp rd bd ms ts).1).1).5, (((h2_eTF_x1 me mb es k ep fr wh tp rd bd ms ts).1).1).6])
theorem h2_eTF (me : Int) (mb : List Int) (es es' : List (Rec × Ob)) (k ep fr wh tp rd : Int) (bd : List Int) (ms ts ms' ts' : List Rec)
 (h1 : ((cntB mb (MsT.mk k ep fr wh tp rd bd)) = true))
 (h2 : ((List.length mb) ≤ (1000 : Nat)))
 (h3 : ((k == (1 : Int)) = false))
 (h4 : ((k == (2 : Int)) = true))
 (h5 : ((!(hasE ((ofT es [(Fd.i tp), (Fd.i wh)])).5 [(Fd.i fr)])) = true))
 (h6 : ((List.length bd) ≤ (140737488355328 : Nat)))
 (h7 : (Base7 (70000 : Nat) mb (MsT.mk k ep fr wh tp rd bd) (S7.mk (TkT.mk ((ofT es [(Fd.i tp), (Fd.i wh)])).1 ((ofT es [(Fd.i tp), (Fd.i wh)])).2 ((ofT es [(Fd.i tp), (Fd.i wh)])).3 ((ofT es [(Fd.i tp), (Fd.i wh)])).4 (noteM ((ofT es [(Fd.i tp), (Fd.i wh)])).5 fr bd) ((ofT es [(Fd.i tp), (Fd.i wh)])).6) ms ts)))
 (h8 : (((ofT es [(Fd.i tp), (Fd.i wh)])).1 = [(Fd.i tp), (Fd.i wh)]))
 (h9 : ((cntP mb (MsT.mk k ep fr wh tp rd bd)) ∧ (List.Mem me mb)))
 (h10 : ((h2_eTF_x1 me mb es k ep fr wh tp rd bd ms ts).2 = (true, false)))
 (h11 : ((((h2_eTF_x1 me mb es k ep fr wh tp rd bd ms ts).1).1).2 = (recB (Ob.r (h2_eTF_x2 me mb es k ep fr wh tp rd bd ms ts)) (0 : Nat))))
 (h12 : ((((h2_eTF_x1 me mb es k ep fr wh tp rd bd ms ts).1).1).3 = (recB (Ob.r (h2_eTF_x2 me mb es k ep fr wh tp rd bd ms ts)) (1 : Nat))))
 (h13 : ((((h2_eTF_x1 me mb es k ep fr wh tp rd bd ms ts).1).1).4 = (recB (Ob.r (h2_eTF_x2 me mb es k ep fr wh tp rd bd ms ts)) (2 : Nat))))
 (h14 : ((((h2_eTF_x1 me mb es k ep fr wh tp rd bd ms ts).1).1).5 = (Ob.c (h2_eTF_x2 me mb es k ep fr wh tp rd bd ms ts) (0 : Nat))))
 (h15 : ((((h2_eTF_x1 me mb es k ep fr wh tp rd bd ms ts).1).1).6 = (Ob.c (h2_eTF_x2 me mb es k ep fr wh tp rd bd ms ts) (1 : Nat))))
 (h16 : ((setE (ofE es [(Fd.i tp), (Fd.i wh)]) (((h2_eTF_x1 me mb es k ep fr wh tp rd bd ms ts).1).1).1 (h2_eTF_x2 me mb es k ep fr wh tp rd bd ms ts)) = es'))
 (h17 : (((h2_eTF_x1 me mb es k ep fr wh tp rd bd ms ts).1).3 = ts'))
 (h18 : (((h2_eTF_x1 me mb es k ep fr wh tp rd bd ms ts).1).2 = ms')) :
 ∃ ps, runO Try.prog DB (gH2 false true false) 100 Try.f23 (hnX me mb es ms ts, [.one (.ref 0 0), (MsT.mk k ep fr wh tp rd bd).a, .one (.ref 1 0)]) [.is true, .is false, .is true, .is true] (.tup []) (hnR true false me mb es' ms' ts') = some ps ∧ AllQ ps := ⟨_, by kernel_rfl, qc h1 (qc (er k) (qc (er ep) (qc (er fr) (qc (er wh) (qc (er tp) (qc (er rd) (qc (er bd) (qc (er me) (qc (er mb) (qc (er es) (qc h2 (qc (er k) (qc (er ep) (qc (er fr) (qc (er wh) (qc (er tp) (qc (er rd) (qc (er bd) (qc (er me) (qc (er mb) (qc (er es) (qc h3 (qc h4 (qc h5 (qc (er k) (qc (er ep) (qc (er fr) (qc (er wh) (qc (er tp) (qc (er rd) (qc (er bd) (qc (er (((ofT es [(Fd.i tp), (Fd.i wh)])).5)) (qc h6 (qc (er k) (qc (er ep) (qc (er fr) (qc (er wh) (qc (er tp) (qc (er rd) (qc (er bd) (qc (er me) (qc (er mb) (qc (er (((ofT es [(Fd.i tp), (Fd.i wh)])).2)) (qc (er (((ofT es [(Fd.i tp), (Fd.i wh)])).3)) (qc (er (((ofT es [(Fd.i tp), (Fd.i wh)])).4)) (qc (er (((ofT es [(Fd.i tp), (Fd.i wh)])).1)) (qc (er ((ofE es [(Fd.i tp), (Fd.i wh)]))) (qc (er ((noteM ((ofT es [(Fd.i tp), (Fd.i wh)])).5 fr bd))) (qc (er (((ofT es [(Fd.i tp), (Fd.i wh)])).6)) (qc (er ms) (qc (er ts) (qc h7 (qc h8 (qc h9 (qc h10 (qc h11 (qc h12 (qc h13 (qc h14 (qc h15 (qc (er me) (qc (er mb) (qc h16 (qc h17 (qc h18 (qn))))))))))))))))))))))))))))))))))))))))))))))))))))))))))))))))))⟩
abbrev h2_rTF_x1 (me : Int) (mb : List Int) (es : List (Rec × Ob)) (k ep fr wh tp rd : Int) (bd : List Int) (ms ts : List Rec) := ((con1M me mb (MsT.mk k ep fr wh tp rd bd) (S7.mk (TkT.mk ((ofT es [(Fd.i tp), (Fd.i wh)])).1 ((ofT es [(Fd.i tp), (Fd.i wh)])).2 ((ofT es [(Fd.i tp), (Fd.i wh)])).3 ((ofT es [(Fd.i tp), (Fd.i wh)])).4 ((ofT es [(Fd.i tp), (Fd.i wh)])).5 (noteM ((ofT es [(Fd.i tp), (Fd.i wh)])).6 fr bd)) ms ts)))
abbrev h2_rTF_x2 (me : Int) (mb : List Int) (es : List (Rec × Ob)) (k ep fr wh tp rd : Int) (bd : List Int) (ms ts : List Rec) := (Ob.node [(Fd.b (((h2_rTF_x1 me mb es k ep fr wh tp rd bd ms ts).1).1).2), (Fd.b (((h2_rTF_x1 me mb es k ep fr wh tp rd bd ms ts).1).1).3), (Fd.b (((h2_rTF_x1 me mb es k ep fr wh tp rd bd ms ts).1).1).4)] [(((h2_rTF_x1 me mb es k ep fr wh tp rd bd ms ts).1).1).5, (((h2_rTF_x1 me mb es k ep fr wh tp rd bd ms ts).1).1).6])
theorem h2_rTF (me : Int) (mb : List Int) (es es' : List (Rec × Ob)) (k ep fr wh tp rd : Int) (bd : List Int) (ms ts ms' ts' : List Rec)
 (h1 : ((cntB mb (MsT.mk k ep fr wh tp rd bd)) = true))
 (h2 : ((List.length mb) ≤ (1000 : Nat)))
 (h3 : ((k == (1 : Int)) = false))
 (h4 : ((k == (2 : Int)) = false))
 (h5 : ((k == (3 : Int)) = true))
 (h6 : ((!(hasE ((ofT es [(Fd.i tp), (Fd.i wh)])).6 [(Fd.i fr)])) = true))
 (h7 : ((List.length bd) ≤ (140737488355328 : Nat)))
 (h8 : (Base7 (70000 : Nat) mb (MsT.mk k ep fr wh tp rd bd) (S7.mk (TkT.mk ((ofT es [(Fd.i tp), (Fd.i wh)])).1 ((ofT es [(Fd.i tp), (Fd.i wh)])).2 ((ofT es [(Fd.i tp), (Fd.i wh)])).3 ((ofT es [(Fd.i tp), (Fd.i wh)])).4 ((ofT es [(Fd.i tp), (Fd.i wh)])).5 (noteM ((ofT es [(Fd.i tp), (Fd.i wh)])).6 fr bd)) ms ts)))
 (h9 : (((ofT es [(Fd.i tp), (Fd.i wh)])).1 = [(Fd.i tp), (Fd.i wh)]))
 (h10 : ((cntP mb (MsT.mk k ep fr wh tp rd bd)) ∧ (List.Mem me mb)))
 (h11 : ((h2_rTF_x1 me mb es k ep fr wh tp rd bd ms ts).2 = (true, false)))
 (h12 : ((((h2_rTF_x1 me mb es k ep fr wh tp rd bd ms ts).1).1).2 = (recB (Ob.r (h2_rTF_x2 me mb es k ep fr wh tp rd bd ms ts)) (0 : Nat))))
 (h13 : ((((h2_rTF_x1 me mb es k ep fr wh tp rd bd ms ts).1).1).3 = (recB (Ob.r (h2_rTF_x2 me mb es k ep fr wh tp rd bd ms ts)) (1 : Nat))))
 (h14 : ((((h2_rTF_x1 me mb es k ep fr wh tp rd bd ms ts).1).1).4 = (recB (Ob.r (h2_rTF_x2 me mb es k ep fr wh tp rd bd ms ts)) (2 : Nat))))
 (h15 : ((((h2_rTF_x1 me mb es k ep fr wh tp rd bd ms ts).1).1).5 = (Ob.c (h2_rTF_x2 me mb es k ep fr wh tp rd bd ms ts) (0 : Nat))))
 (h16 : ((((h2_rTF_x1 me mb es k ep fr wh tp rd bd ms ts).1).1).6 = (Ob.c (h2_rTF_x2 me mb es k ep fr wh tp rd bd ms ts) (1 : Nat))))
 (h17 : ((setE (ofE es [(Fd.i tp), (Fd.i wh)]) (((h2_rTF_x1 me mb es k ep fr wh tp rd bd ms ts).1).1).1 (h2_rTF_x2 me mb es k ep fr wh tp rd bd ms ts)) = es'))
 (h18 : (((h2_rTF_x1 me mb es k ep fr wh tp rd bd ms ts).1).3 = ts'))
 (h19 : (((h2_rTF_x1 me mb es k ep fr wh tp rd bd ms ts).1).2 = ms')) :
 ∃ ps, runO Try.prog DB (gH2 false true false) 100 Try.f23 (hnX me mb es ms ts, [.one (.ref 0 0), (MsT.mk k ep fr wh tp rd bd).a, .one (.ref 1 0)]) [.is true, .is false, .is false, .is true, .is true] (.tup []) (hnR true false me mb es' ms' ts') = some ps ∧ AllQ ps := ⟨_, by kernel_rfl, qc h1 (qc (er k) (qc (er ep) (qc (er fr) (qc (er wh) (qc (er tp) (qc (er rd) (qc (er bd) (qc (er me) (qc (er mb) (qc (er es) (qc h2 (qc (er k) (qc (er ep) (qc (er fr) (qc (er wh) (qc (er tp) (qc (er rd) (qc (er bd) (qc (er me) (qc (er mb) (qc (er es) (qc h3 (qc h4 (qc h5 (qc h6 (qc (er k) (qc (er ep) (qc (er fr) (qc (er wh) (qc (er tp) (qc (er rd) (qc (er bd) (qc (er (((ofT es [(Fd.i tp), (Fd.i wh)])).6)) (qc h7 (qc (er k) (qc (er ep) (qc (er fr) (qc (er wh) (qc (er tp) (qc (er rd) (qc (er bd) (qc (er me) (qc (er mb) (qc (er (((ofT es [(Fd.i tp), (Fd.i wh)])).2)) (qc (er (((ofT es [(Fd.i tp), (Fd.i wh)])).3)) (qc (er (((ofT es [(Fd.i tp), (Fd.i wh)])).4)) (qc (er (((ofT es [(Fd.i tp), (Fd.i wh)])).1)) (qc (er ((ofE es [(Fd.i tp), (Fd.i wh)]))) (qc (er (((ofT es [(Fd.i tp), (Fd.i wh)])).5)) (qc (er ((noteM ((ofT es [(Fd.i tp), (Fd.i wh)])).6 fr bd))) (qc (er ms) (qc (er ts) (qc h8 (qc h9 (qc h10 (qc h11 (qc h12 (qc h13 (qc h14 (qc h15 (qc h16 (qc (er me) (qc (er mb) (qc h17 (qc h18 (qc h19 (qn)))))))))))))))))))))))))))))))))))))))))))))))))))))))))))))))))))⟩
abbrev h2_wTT_x1 (me : Int) (mb : List Int) (es : List (Rec × Ob)) (k ep fr wh tp rd : Int) (bd : List Int) (ms ts : List Rec) := (Ob.node [(Fd.b ((((con1M me mb (MsT.mk k ep fr wh tp rd bd) (S7.mk (ofT es [(Fd.i tp), (Fd.i wh)]) ms ts))).1).1).2), (Fd.b ((((con1M me mb (MsT.mk k ep fr wh tp rd bd) (S7.mk (ofT es [(Fd.i tp), (Fd.i wh)]) ms ts))).1).1).3), (Fd.b ((((con1M me mb (MsT.mk k ep fr wh tp rd bd) (S7.mk (ofT es [(Fd.i tp), (Fd.i wh)]) ms ts))).1).1).4)] [((((con1M me mb (MsT.mk k ep fr wh tp rd bd) (S7.mk (ofT es [(Fd.i tp), (Fd.i wh)]) ms ts))).1).1).5, ((((con1M me mb (MsT.mk k ep fr wh tp rd bd) (S7.mk (ofT es [(Fd.i tp), (Fd.i wh)]) ms ts))).1).1).6])
abbrev h2_wTT_x2 (me : Int) (mb : List Int) (es : List (Rec × Ob)) (k ep fr wh tp rd : Int) (bd : List Int) (ms ts : List Rec) := ((con1M me mb (MsT.mk k ep fr wh tp rd bd) (S7.mk (ofT es [(Fd.i tp), (Fd.i wh)]) ms ts)))
theorem h2_wTT (me : Int) (mb : List Int) (es es' : List (Rec × Ob)) (k ep fr wh tp rd : Int) (bd : List Int) (ms ts ms' ts' : List Rec)
 (h1 : ((cntB mb (MsT.mk k ep fr wh tp rd bd)) = true))
 (h2 : ((List.length mb) ≤ (1000 : Nat)))
 (h3 : ((k == (1 : Int)) = true))
 (h4 : ((fr == wh) = false))
 (h5 : (Base7 (70000 : Nat) mb (MsT.mk k ep fr wh tp rd bd) (S7.mk (ofT es [(Fd.i tp), (Fd.i wh)]) ms ts)))
 (h6 : (((ofT es [(Fd.i tp), (Fd.i wh)])).1 = [(Fd.i tp), (Fd.i wh)]))
 (h7 : ((cntP mb (MsT.mk k ep fr wh tp rd bd)) ∧ (List.Mem me mb)))
 (h8 : ((h2_wTT_x2 me mb es k ep fr wh tp rd bd ms ts).2 = (true, true)))
 (h9 : ((((h2_wTT_x2 me mb es k ep fr wh tp rd bd ms ts).1).1).2 = (recB (Ob.r (h2_wTT_x1 me mb es k ep fr wh tp rd bd ms ts)) (0 : Nat))))
 (h10 : ((((h2_wTT_x2 me mb es k ep fr wh tp rd bd ms ts).1).1).3 = (recB (Ob.r (h2_wTT_x1 me mb es k ep fr wh tp rd bd ms ts)) (1 : Nat))))
 (h11 : ((((h2_wTT_x2 me mb es k ep fr wh tp rd bd ms ts).1).1).4 = (recB (Ob.r (h2_wTT_x1 me mb es k ep fr wh tp rd bd ms ts)) (2 : Nat))))
 (h12 : ((((h2_wTT_x2 me mb es k ep fr wh tp rd bd ms ts).1).1).5 = (Ob.c (h2_wTT_x1 me mb es k ep fr wh tp rd bd ms ts) (0 : Nat))))
 (h13 : ((((h2_wTT_x2 me mb es k ep fr wh tp rd bd ms ts).1).1).6 = (Ob.c (h2_wTT_x1 me mb es k ep fr wh tp rd bd ms ts) (1 : Nat))))
 (h14 : ((setE (ofE es [(Fd.i tp), (Fd.i wh)]) (((h2_wTT_x2 me mb es k ep fr wh tp rd bd ms ts).1).1).1 (h2_wTT_x1 me mb es k ep fr wh tp rd bd ms ts)) = es'))
 (h15 : (((h2_wTT_x2 me mb es k ep fr wh tp rd bd ms ts).1).2 = ms'))
 (h16 : (((h2_wTT_x2 me mb es k ep fr wh tp rd bd ms ts).1).3 = ts')) :
 ∃ ps, runO Try.prog DB (gH2 false true true) 100 Try.f23 (hnX me mb es ms ts, [.one (.ref 0 0), (MsT.mk k ep fr wh tp rd bd).a, .one (.ref 1 0)]) [.is true, .is true, .is false] (.tup []) (hnR true true me mb es' ms' ts') = some ps ∧ AllQ ps := ⟨_, by kernel_rfl, qc h1 (qc (er k) (qc (er ep) (qc (er fr) (qc (er wh) (qc (er tp) (qc (er rd) (qc (er bd) (qc (er me) (qc (er mb) (qc (er es) (qc h2 (qc (er k) (qc (er ep) (qc (er fr) (qc (er wh) (qc (er tp) (qc (er rd) (qc (er bd) (qc (er me) (qc (er mb) (qc (er es) (qc h3 (qc h4 (qc (er k) (qc (er ep) (qc (er fr) (qc (er wh) (qc (er tp) (qc (er rd) (qc (er bd) (qc (er me) (qc (er mb) (qc (er (((ofT es [(Fd.i tp), (Fd.i wh)])).2)) (qc (er (((ofT es [(Fd.i tp), (Fd.i wh)])).3)) (qc (er (((ofT es [(Fd.i tp), (Fd.i wh)])).4)) (qc (er (((ofT es [(Fd.i tp), (Fd.i wh)])).1)) (qc (er ((ofE es [(Fd.i tp), (Fd.i wh)]))) (qc (er (((ofT es [(Fd.i tp), (Fd.i wh)])).5)) (qc (er (((ofT es [(Fd.i tp), (Fd.i wh)])).6)) (qc (er ms) (qc (er ts) (qc h5 (qc h6 (qc h7 (qc h8 (qc h9 (qc h10 (qc h11 (qc h12 (qc h13 (qc (er me) (qc (er mb) (qc h14 (qc h15 (qc h16 (qn))))))))))))))))))))))))))))))))))))))))))))))))))))))))⟩
abbrev h2_bTT_x1 (me : Int) (mb : List Int) (es : List (Rec × Ob)) (k ep fr wh tp rd : Int) (bd : List Int) (ms ts : List Rec) := (Ob.node [(Fd.b ((((con1M me mb (MsT.mk k ep fr wh tp rd bd) (S7.mk (ofT es [(Fd.i tp), (Fd.i wh)]) ms ts))).1).1).2), (Fd.b ((((con1M me mb (MsT.mk k ep fr wh tp rd bd) (S7.mk (ofT es [(Fd.i tp), (Fd.i wh)]) ms ts))).1).1).3), (Fd.b ((((con1M me mb (MsT.mk k ep fr wh tp rd bd) (S7.mk (ofT es [(Fd.i tp), (Fd.i wh)]) ms ts))).1).1).4)] [((((con1M me mb (MsT.mk k ep fr wh tp rd bd) (S7.mk (ofT es [(Fd.i tp), (Fd.i wh)]) ms ts))).1).1).5, ((((con1M me mb (MsT.mk k ep fr wh tp rd bd) (S7.mk (ofT es [(Fd.i tp), (Fd.i wh)]) ms ts))).1).1).6])
abbrev h2_bTT_x2 (me : Int) (mb : List Int) (es : List (Rec × Ob)) (k ep fr wh tp rd : Int) (bd : List Int) (ms ts : List Rec) := ((con1M me mb (MsT.mk k ep fr wh tp rd bd) (S7.mk (ofT es [(Fd.i tp), (Fd.i wh)]) ms ts)))
theorem h2_bTT (me : Int) (mb : List Int) (es es' : List (Rec × Ob)) (k ep fr wh tp rd : Int) (bd : List Int) (ms ts ms' ts' : List Rec)
 (h1 : ((cntB mb (MsT.mk k ep fr wh tp rd bd)) = true))
 (h2 : ((List.length mb) ≤ (1000 : Nat)))
 (h3 : ((k == (1 : Int)) = true))
 (h4 : ((fr == wh) = true))
 (h5 : (((ofT es [(Fd.i tp), (Fd.i wh)])).2 = true))
 (h6 : (Base7 (70000 : Nat) mb (MsT.mk k ep fr wh tp rd bd) (S7.mk (ofT es [(Fd.i tp), (Fd.i wh)]) ms ts)))
 (h7 : (((ofT es [(Fd.i tp), (Fd.i wh)])).1 = [(Fd.i tp), (Fd.i wh)]))
 (h8 : ((cntP mb (MsT.mk k ep fr wh tp rd bd)) ∧ (List.Mem me mb)))
 (h9 : ((h2_bTT_x2 me mb es k ep fr wh tp rd bd ms ts).2 = (true, true)))
 (h10 : ((((h2_bTT_x2 me mb es k ep fr wh tp rd bd ms ts).1).1).2 = (recB (Ob.r (h2_bTT_x1 me mb es k ep fr wh tp rd bd ms ts)) (0 : Nat))))
 (h11 : ((((h2_bTT_x2 me mb es k ep fr wh tp rd bd ms ts).1).1).3 = (recB (Ob.r (h2_bTT_x1 me mb es k ep fr wh tp rd bd ms ts)) (1 : Nat))))
 (h12 : ((((h2_bTT_x2 me mb es k ep fr wh tp rd bd ms ts).1).1).4 = (recB (Ob.r (h2_bTT_x1 me mb es k ep fr wh tp rd bd ms ts)) (2 : Nat))))
 (h13 : ((((h2_bTT_x2 me mb es k ep fr wh tp rd bd ms ts).1).1).5 = (Ob.c (h2_bTT_x1 me mb es k ep fr wh tp rd bd ms ts) (0 : Nat))))
 (h14 : ((((h2_bTT_x2 me mb es k ep fr wh tp rd bd ms ts).1).1).6 = (Ob.c (h2_bTT_x1 me mb es k ep fr wh tp rd bd ms ts) (1 : Nat))))
 (h15 : ((setE (ofE es [(Fd.i tp), (Fd.i wh)]) (((h2_bTT_x2 me mb es k ep fr wh tp rd bd ms ts).1).1).1 (h2_bTT_x1 me mb es k ep fr wh tp rd bd ms ts)) = es'))
 (h16 : (((h2_bTT_x2 me mb es k ep fr wh tp rd bd ms ts).1).2 = ms'))
 (h17 : (((h2_bTT_x2 me mb es k ep fr wh tp rd bd ms ts).1).3 = ts')) :
 ∃ ps, runO Try.prog DB (gH2 false true true) 100 Try.f23 (hnX me mb es ms ts, [.one (.ref 0 0), (MsT.mk k ep fr wh tp rd bd).a, .one (.ref 1 0)]) [.is true, .is true, .is true, .is true] (.tup []) (hnR true true me mb es' ms' ts') = some ps ∧ AllQ ps := ⟨_, by kernel_rfl, qc h1 (qc (er k) (qc (er ep) (qc (er fr) (qc (er wh) (qc (er tp) (qc (er rd) (qc (er bd) (qc (er me) (qc (er mb) (qc (er es) (qc h2 (qc (er k) (qc (er ep) (qc (er fr) (qc (er wh) (qc (er tp) (qc (er rd) (qc (er bd) (qc (er me) (qc (er mb) (qc (er es) (qc h3 (qc h4 (qc h5 (qc (er k) (qc (er ep) (qc (er fr) (qc (er wh) (qc (er tp) (qc (er rd) (qc (er bd) (qc (er me) (qc (er mb) (qc (er (((ofT es [(Fd.i tp), (Fd.i wh)])).2)) (qc (er (((ofT es [(Fd.i tp), (Fd.i wh)])).3)) (qc (er (((ofT es [(Fd.i tp), (Fd.i wh)])).4)) (qc (er (((ofT es [(Fd.i tp), (Fd.i wh)])).1)) (qc (er ((ofE es [(Fd.i tp), (Fd.i wh)]))) (qc (er (((ofT es [(Fd.i tp), (Fd.i wh)])).5)) (qc (er (((ofT es [(Fd.i tp), (Fd.i wh)])).6)) (qc (er ms) (qc (er ts) (qc h6 (qc h7 (qc h8 (qc h9 (qc h10 (qc h11 (qc h12 (qc h13 (qc h14 (qc (er me) (qc (er mb) (qc h15 (qc h16 (qc h17 (qn)))))))))))))))))))))))))))))))))))))))))))))))))))))))))⟩
abbrev h2_eTT_x1 (me : Int) (mb : List Int) (es : List (Rec × Ob)) (k ep fr wh tp rd : Int) (bd : List Int) (ms ts : List Rec) := ((con1M me mb (MsT.mk k ep fr wh tp rd bd) (S7.mk (TkT.mk ((ofT es [(Fd.i tp), (Fd.i wh)])).1 ((ofT es [(Fd.i tp), (Fd.i wh)])).2 ((ofT es [(Fd.i tp), (Fd.i wh)])).3 ((ofT es [(Fd.i tp), (Fd.i wh)])).4 (noteM ((ofT es [(Fd.i tp), (Fd.i wh)])).5 fr bd) ((ofT es [(Fd.i tp), (Fd.i wh)])).6) ms ts)))
abbrev h2_eTT_x2 (me : Int) (mb : List Int) (es : List (Rec × Ob)) (k ep fr wh tp rd : Int) (bd : List Int) (ms ts : List Rec) := (Ob.node [(Fd.b (((h2_eTT_x1 me mb es k ep fr wh tp rd bd ms ts).1).1).2), (Fd.b (((h2_eTT_x1 me mb es k ep fr wh tp rd bd ms ts).1).1).3), (Fd.b (((h2_eTT_x1 me mb es k ep fr wh tp rd bd ms ts).1).1).4)] [(((h2_eTT_x1 me mb es k ep fr wh tp rd bd ms ts).1).1).5, (((h2_eTT_x1 me mb es k ep fr wh tp rd bd ms ts).1).1).6])
theorem h2_eTT (me : Int) (mb : List Int) (es es' : List (Rec × Ob)) (k ep fr wh tp rd : Int) (bd : List Int) (ms ts ms' ts' : List Rec)
 (h1 : ((cntB mb (MsT.mk k ep fr wh tp rd bd)) = true))
 (h2 : ((List.length mb) ≤ (1000 : Nat)))
 (h3 : ((k == (1 : Int)) = false))
 (h4 : ((k == (2 : Int)) = true))
 (h5 : ((!(hasE ((ofT es [(Fd.i tp), (Fd.i wh)])).5 [(Fd.i fr)])) = true))
 (h6 : ((List.length bd) ≤ (140737488355328 : Nat)))
 (h7 : (Base7 (70000 : Nat) mb (MsT.mk k ep fr wh tp rd bd) (S7.mk (TkT.mk ((ofT es [(Fd.i tp), (Fd.i wh)])).1 ((ofT es [(Fd.i tp), (Fd.i wh)])).2 ((ofT es [(Fd.i tp), (Fd.i wh)])).3 ((ofT es [(Fd.i tp), (Fd.i wh)])).4 (noteM ((ofT es [(Fd.i tp), (Fd.i wh)])).5 fr bd) ((ofT es [(Fd.i tp), (Fd.i wh)])).6) ms ts)))
 (h8 : (((ofT es [(Fd.i tp), (Fd.i wh)])).1 = [(Fd.i tp), (Fd.i wh)]))
 (h9 : ((cntP mb (MsT.mk k ep fr wh tp rd bd)) ∧ (List.Mem me mb)))
 (h10 : ((h2_eTT_x1 me mb es k ep fr wh tp rd bd ms ts).2 = (true, true)))
 (h11 : ((((h2_eTT_x1 me mb es k ep fr wh tp rd bd ms ts).1).1).2 = (recB (Ob.r (h2_eTT_x2 me mb es k ep fr wh tp rd bd ms ts)) (0 : Nat))))
 (h12 : ((((h2_eTT_x1 me mb es k ep fr wh tp rd bd ms ts).1).1).3 = (recB (Ob.r (h2_eTT_x2 me mb es k ep fr wh tp rd bd ms ts)) (1 : Nat))))
 (h13 : ((((h2_eTT_x1 me mb es k ep fr wh tp rd bd ms ts).1).1).4 = (recB (Ob.r (h2_eTT_x2 me mb es k ep fr wh tp rd bd ms ts)) (2 : Nat))))
 (h14 : ((((h2_eTT_x1 me mb es k ep fr wh tp rd bd ms ts).1).1).5 = (Ob.c (h2_eTT_x2 me mb es k ep fr wh tp rd bd ms ts) (0 : Nat))))
 (h15 : ((((h2_eTT_x1 me mb es k ep fr wh tp rd bd ms ts).1).1).6 = (Ob.c (h2_eTT_x2 me mb es k ep fr wh tp rd bd ms ts) (1 : Nat))))
 (h16 : ((setE (ofE es [(Fd.i tp), (Fd.i wh)]) (((h2_eTT_x1 me mb es k ep fr wh tp rd bd ms ts).1).1).1 (h2_eTT_x2 me mb es k ep fr wh tp rd bd ms ts)) = es'))
 (h17 : (((h2_eTT_x1 me mb es k ep fr wh tp rd bd ms ts).1).2 = ms'))
 (h18 : (((h2_eTT_x1 me mb es k ep fr wh tp rd bd ms ts).1).3 = ts')) :
 ∃ ps, runO Try.prog DB (gH2 false true true) 100 Try.f23 (hnX me mb es ms ts, [.one (.ref 0 0), (MsT.mk k ep fr wh tp rd bd).a, .one (.ref 1 0)]) [.is true, .is false, .is true, .is true] (.tup []) (hnR true true me mb es' ms' ts') = some ps ∧ AllQ ps := ⟨_, by kernel_rfl, qc h1 (qc (er k) (qc (er ep) (qc (er fr) (qc (er wh) (qc (er tp) (qc (er rd) (qc (er bd) (qc (er me) (qc (er mb) (qc (er es) (qc h2 (qc (er k) (qc (er ep) (qc (er fr) (qc (er wh) (qc (er tp) (qc (er rd) (qc (er bd) (qc (er me) (qc (er mb) (qc (er es) (qc h3 (qc h4 (qc h5 (qc (er k) (qc (er ep) (qc (er fr) (qc (er wh) (qc (er tp) (qc (er rd) (qc (er bd) (qc (er (((ofT es [(Fd.i tp), (Fd.i wh)])).5)) (qc h6 (qc (er k) (qc (er ep) (qc (er fr) (qc (er wh) (qc (er tp) (qc (er rd) (qc (er bd) (qc (er me) (qc (er mb) (qc (er (((ofT es [(Fd.i tp), (Fd.i wh)])).2)) (qc (er (((ofT es [(Fd.i tp), (Fd.i wh)])).3)) (qc (er (((ofT es [(Fd.i tp), (Fd.i wh)])).4)) (qc (er (((ofT es [(Fd.i tp), (Fd.i wh)])).1)) (qc (er ((ofE es [(Fd.i tp), (Fd.i wh)]))) (qc (er ((noteM ((ofT es [(Fd.i tp), (Fd.i wh)])).5 fr bd))) (qc (er (((ofT es [(Fd.i tp), (Fd.i wh)])).6)) (qc (er ms) (qc (er ts) (qc h7 (qc h8 (qc h9 (qc h10 (qc h11 (qc h12 (qc h13 (qc h14 (qc h15 (qc (er me) (qc (er mb) (qc h16 (qc h17 (qc h18 (qn))))))))))))))))))))))))))))))))))))))))))))))))))))))))))))))))))⟩
abbrev h2_rTT_x1 (me : Int) (mb : List Int) (es : List (Rec × Ob)) (k ep fr wh tp rd : Int) (bd : List Int) (ms ts : List Rec) := ((con1M me mb (MsT.mk k ep fr wh tp rd bd) (S7.mk (TkT.mk ((ofT es [(Fd.i tp), (Fd.i wh)])).1 ((ofT es [(Fd.i tp), (Fd.i wh)])).2 ((ofT es [(Fd.i tp), (Fd.i wh)])).3 ((ofT es [(Fd.i tp), (Fd.i wh)])).4 ((ofT es [(Fd.i tp), (Fd.i wh)])).5 (noteM ((ofT es [(Fd.i tp), (Fd.i wh)])).6 fr bd)) ms ts)))
abbrev h2_rTT_x2 (me : Int) (mb : List Int) (es : List (Rec × Ob)) (k ep fr wh tp rd : Int) (bd : List Int) (ms ts : List Rec) := (Ob.node [(Fd.b (((h2_rTT_x1 me mb es k ep fr wh tp rd bd ms ts).1).1).2), (Fd.b (((h2_rTT_x1 me mb es k ep fr wh tp rd bd ms ts).1).1).3), (Fd.b (((h2_rTT_x1 me mb es k ep fr wh tp rd bd ms ts).1).1).4)] [(((h2_rTT_x1 me mb es k ep fr wh tp rd bd ms ts).1).1).5, (((h2_rTT_x1 me mb es k ep fr wh tp rd bd ms ts).1).1).6])
theorem h2_rTT (me : Int) (mb : List Int) (es es' : List (Rec × Ob)) (k ep fr wh tp rd : Int) (bd : List Int) (ms ts ms' ts' : List Rec)
 (h1 : ((cntB mb (MsT.mk k ep fr wh tp rd bd)) = true))
 (h2 : ((List.length mb) ≤ (1000 : Nat)))
 (h3 : ((k == (1 : Int)) = false))
 (h4 : ((k == (2 : Int)) = false))
 (h5 : ((k == (3 : Int)) = true))
 (h6 : ((!(hasE ((ofT es [(Fd.i tp), (Fd.i wh)])).6 [(Fd.i fr)])) = true))
 (h7 : ((List.length bd) ≤ (140737488355328 : Nat)))
 (h8 : (Base7 (70000 : Nat) mb (MsT.mk k ep fr wh tp rd bd) (S7.mk (TkT.mk ((ofT es [(Fd.i tp), (Fd.i wh)])).1 ((ofT es [(Fd.i tp), (Fd.i wh)])).2 ((ofT es [(Fd.i tp), (Fd.i wh)])).3 ((ofT es [(Fd.i tp), (Fd.i wh)])).4 ((ofT es [(Fd.i tp), (Fd.i wh)])).5 (noteM ((ofT es [(Fd.i tp), (Fd.i wh)])).6 fr bd)) ms ts)))
 (h9 : (((ofT es [(Fd.i tp), (Fd.i wh)])).1 = [(Fd.i tp), (Fd.i wh)]))
 (h10 : ((cntP mb (MsT.mk k ep fr wh tp rd bd)) ∧ (List.Mem me mb)))
 (h11 : ((h2_rTT_x1 me mb es k ep fr wh tp rd bd ms ts).2 = (true, true)))
 (h12 : ((((h2_rTT_x1 me mb es k ep fr wh tp rd bd ms ts).1).1).2 = (recB (Ob.r (h2_rTT_x2 me mb es k ep fr wh tp rd bd ms ts)) (0 : Nat))))
 (h13 : ((((h2_rTT_x1 me mb es k ep fr wh tp rd bd ms ts).1).1).3 = (recB (Ob.r (h2_rTT_x2 me mb es k ep fr wh tp rd bd ms ts)) (1 : Nat))))
 (h14 : ((((h2_rTT_x1 me mb es k ep fr wh tp rd bd ms ts).1).1).4 = (recB (Ob.r (h2_rTT_x2 me mb es k ep fr wh tp rd bd ms ts)) (2 : Nat))))
 (h15 : ((((h2_rTT_x1 me mb es k ep fr wh tp rd bd ms ts).1).1).5 = (Ob.c (h2_rTT_x2 me mb es k ep fr wh tp rd bd ms ts) (0 : Nat))))
 (h16 : ((((h2_rTT_x1 me mb es k ep fr wh tp rd bd ms ts).1).1).6 = (Ob.c (h2_rTT_x2 me mb es k ep fr wh tp rd bd ms ts) (1 : Nat))))
 (h17 : ((setE (ofE es [(Fd.i tp), (Fd.i wh)]) (((h2_rTT_x1 me mb es k ep fr wh tp rd bd ms ts).1).1).1 (h2_rTT_x2 me mb es k ep fr wh tp rd bd ms ts)) = es'))
 (h18 : (((h2_rTT_x1 me mb es k ep fr wh tp rd bd ms ts).1).2 = ms'))
 (h19 : (((h2_rTT_x1 me mb es k ep fr wh tp rd bd ms ts).1).3 = ts')) :
 ∃ ps, runO Try.prog DB (gH2 false true true) 100 Try.f23 (hnX me mb es ms ts, [.one (.ref 0 0), (MsT.mk k ep fr wh tp rd bd).a, .one (.ref 1 0)]) [.is true, .is false, .is false, .is true, .is true] (.tup []) (hnR true true me mb es' ms' ts') = some ps ∧ AllQ ps := ⟨_, by kernel_rfl, qc h1 (qc (er k) (qc (er ep) (qc (er fr) (qc (er wh) (qc (er tp) (qc (er rd) (qc (er bd) (qc (er me) (qc (er mb) (qc (er es) (qc h2 (qc (er k) (qc (er ep) (qc (er fr) (qc (er wh) (qc (er tp) (qc (er rd) (qc (er bd) (qc (er me) (qc (er mb) (qc (er es) (qc h3 (qc h4 (qc h5 (qc h6 (qc (er k) (qc (er ep) (qc (er fr) (qc (er wh) (qc (er tp) (qc (er rd) (qc (er bd) (qc (er (((ofT es [(Fd.i tp), (Fd.i wh)])).6)) (qc h7 (qc (er k) (qc (er ep) (qc (er fr) (qc (er wh) (qc (er tp) (qc (er rd) (qc (er bd) (qc (er me) (qc (er mb) (qc (er (((ofT es [(Fd.i tp), (Fd.i wh)])).2)) (qc (er (((ofT es [(Fd.i tp), (Fd.i wh)])).3)) (qc (er (((ofT es [(Fd.i tp), (Fd.i wh)])).4)) (qc (er (((ofT es [(Fd.i tp), (Fd.i wh)])).1)) (qc (er ((ofE es [(Fd.i tp), (Fd.i wh)]))) (qc (er (((ofT es [(Fd.i tp), (Fd.i wh)])).5)) (qc (er ((noteM ((ofT es [(Fd.i tp), (Fd.i wh)])).6 fr bd))) (qc (er ms) (qc (er ts) (qc h8 (qc h9 (qc h10 (qc h11 (qc h12 (qc h13 (qc h14 (qc h15 (qc h16 (qc (er me) (qc (er mb) (qc h17 (qc h18 (qc h19 (qn)))))))))))))))))))))))))))))))))))))))))))))))))))))))))))))))))))⟩
abbrev h2_eo_x1 (es : List (Rec × Ob)) (fr wh tp : Int) (bd : List Int) := (Ob.node [(Fd.b ((ofT es [(Fd.i tp), (Fd.i wh)])).2), (Fd.b ((ofT es [(Fd.i tp), (Fd.i wh)])).3), (Fd.b ((ofT es [(Fd.i tp), (Fd.i wh)])).4)] [(noteM ((ofT es [(Fd.i tp), (Fd.i wh)])).5 fr bd), ((ofT es [(Fd.i tp), (Fd.i wh)])).6])
theorem h2_eo (me : Int) (mb : List Int) (es es' : List (Rec × Ob)) (k ep fr wh tp rd : Int) (bd : List Int) (ms ts ms' ts' : List Rec)
 (h1 : ((cntB mb (MsT.mk k ep fr wh tp rd bd)) = true))
 (h2 : ((List.length mb) ≤ (1000 : Nat)))
 (h3 : ((k == (1 : Int)) = false))
 (h4 : ((k == (2 : Int)) = true))
 (h5 : ((!(hasE ((ofT es [(Fd.i tp), (Fd.i wh)])).5 [(Fd.i fr)])) = false))
 (h6 : ((List.length bd) ≤ (140737488355328 : Nat)))
 (h7 : (((ofT es [(Fd.i tp), (Fd.i wh)])).2 = (recB (Ob.r (h2_eo_x1 es fr wh tp bd)) (0 : Nat))))
 (h8 : (((ofT es [(Fd.i tp), (Fd.i wh)])).3 = (recB (Ob.r (h2_eo_x1 es fr wh tp bd)) (1 : Nat))))
 (h9 : (((ofT es [(Fd.i tp), (Fd.i wh)])).4 = (recB (Ob.r (h2_eo_x1 es fr wh tp bd)) (2 : Nat))))
 (h10 : ((noteM ((ofT es [(Fd.i tp), (Fd.i wh)])).5 fr bd) = (Ob.c (h2_eo_x1 es fr wh tp bd) (0 : Nat))))
 (h11 : (((ofT es [(Fd.i tp), (Fd.i wh)])).6 = (Ob.c (h2_eo_x1 es fr wh tp bd) (1 : Nat))))
 (h12 : ((setE (ofE es [(Fd.i tp), (Fd.i wh)]) ((ofT es [(Fd.i tp), (Fd.i wh)])).1 (h2_eo_x1 es fr wh tp bd)) = es'))
 (h13 : (ms = ms'))
 (h14 : (ts = ts')) :
 ∃ ps, runO Try.prog DB (gH2 false false false) 100 Try.f23 (hnX me mb es ms ts, [.one (.ref 0 0), (MsT.mk k ep fr wh tp rd bd).a, .one (.ref 1 0)]) [.is true, .is false, .is true, .is false] (.tup []) (hnR false false me mb es' ms' ts') = some ps ∧ AllQ ps := ⟨_, by kernel_rfl, qc h1 (qc (er k) (qc (er ep) (qc (er fr) (qc (er wh) (qc (er tp) (qc (er rd) (qc (er bd) (qc (er me) (qc (er mb) (qc (er es) (qc h2 (qc (er k) (qc (er ep) (qc (er fr) (qc (er wh) (qc (er tp) (qc (er rd) (qc (er bd) (qc (er me) (qc (er mb) (qc (er es) (qc h3 (qc h4 (qc h5 (qc (er k) (qc (er ep) (qc (er fr) (qc (er wh) (qc (er tp) (qc (er rd) (qc (er bd) (qc (er (((ofT es [(Fd.i tp), (Fd.i wh)])).5)) (qc h6 (qc h7 (qc h8 (qc h9 (qc h10 (qc h11 (qc (er me) (qc (er mb) (qc h12 (qc h13 (qc h14 (qn))))))))))))))))))))))))))))))))))))))))))))⟩
abbrev h2_ro_x1 (es : List (Rec × Ob)) (fr wh tp : Int) (bd : List Int) := (Ob.node [(Fd.b ((ofT es [(Fd.i tp), (Fd.i wh)])).2), (Fd.b ((ofT es [(Fd.i tp), (Fd.i wh)])).3), (Fd.b ((ofT es [(Fd.i tp), (Fd.i wh)])).4)] [((ofT es [(Fd.i tp), (Fd.i wh)])).5, (noteM ((ofT es [(Fd.i tp), (Fd.i wh)])).6 fr bd)])
theorem h2_ro (me : Int) (mb : List Int) (es es' : List (Rec × Ob)) (k ep fr wh tp rd : Int) (bd : List Int) (ms ts ms' ts' : List Rec)
 (h1 : ((cntB mb (MsT.mk k ep fr wh tp rd bd)) = true))
 (h2 : ((List.length mb) ≤ (1000 : Nat)))
 (h3 : ((k == (1 : Int)) = false))
 (h4 : ((k == (2 : Int)) = false))
 (h5 : ((k == (3 : Int)) = true))
 (h6 : ((!(hasE ((ofT es [(Fd.i tp), (Fd.i wh)])).6 [(Fd.i fr)])) = false))
 (h7 : ((List.length bd) ≤ (140737488355328 : Nat)))
 (h8 : (((ofT es [(Fd.i tp), (Fd.i wh)])).2 = (recB (Ob.r (h2_ro_x1 es fr wh tp bd)) (0 : Nat))))
 (h9 : (((ofT es [(Fd.i tp), (Fd.i wh)])).3 = (recB (Ob.r (h2_ro_x1 es fr wh tp bd)) (1 : Nat))))
 (h10 : (((ofT es [(Fd.i tp), (Fd.i wh)])).4 = (recB (Ob.r (h2_ro_x1 es fr wh tp bd)) (2 : Nat))))
 (h11 : (((ofT es [(Fd.i tp), (Fd.i wh)])).5 = (Ob.c (h2_ro_x1 es fr wh tp bd) (0 : Nat))))
 (h12 : ((noteM ((ofT es [(Fd.i tp), (Fd.i wh)])).6 fr bd) = (Ob.c (h2_ro_x1 es fr wh tp bd) (1 : Nat))))
 (h13 : ((setE (ofE es [(Fd.i tp), (Fd.i wh)]) ((ofT es [(Fd.i tp), (Fd.i wh)])).1 (h2_ro_x1 es fr wh tp bd)) = es'))
 (h14 : (ms = ms'))
 (h15 : (ts = ts')) :
 ∃ ps, runO Try.prog DB (gH2 false false false) 100 Try.f23 (hnX me mb es ms ts, [.one (.ref 0 0), (MsT.mk k ep fr wh tp rd bd).a, .one (.ref 1 0)]) [.is true, .is false, .is false, .is true, .is false] (.tup []) (hnR false false me mb es' ms' ts') = some ps ∧ AllQ ps := ⟨_, by kernel_rfl, qc h1 (qc (er k) (qc (er ep) (qc (er fr) (qc (er wh) (qc (er tp) (qc (er rd) (qc (er bd) (qc (er me) (qc (er mb) (qc (er es) (qc h2 (qc (er k) (qc (er ep) (qc (er fr) (qc (er wh) (qc (er tp) (qc (er rd) (qc (er bd) (qc (er me) (qc (er mb) (qc (er es) (qc h3 (qc h4 (qc h5 (qc h6 (qc (er k) (qc (er ep) (qc (er fr) (qc (er wh) (qc (er tp) (qc (er rd) (qc (er bd) (qc (er (((ofT es [(Fd.i tp), (Fd.i wh)])).6)) (qc h7 (qc h8 (qc h9 (qc h10 (qc h11 (qc h12 (qc (er me) (qc (er mb) (qc h13 (qc h14 (qc h15 (qn)))))))))))))))))))))))))))))))))))))))))))))⟩
end Go.Num
namespace Go.Abs
open Go.RowKit
section
variable {P : Program} {D : Dom}
theorem RR.rebase {M M' : Mem} {w0 : World} {σ : Loc} {ν : Nat → Value} {S S' : St D.τ} {w : World} (hR : RR D M w0 σ ν S w) (hb : S'.box = S.box) (hf : M'.f = M.f)
    (hp : ∀ b, b < S'.np → σ.f b = (M'.pin b).1 ∧ ν b = (M'.pin b).2 ∧ (S'.box b).al) (hz : ∀ g, M'.zm g → σ.zm g ∧ σ.zw.heap[g]? = M'.zw.heap[g]?) (hn : ∀ g, σ.zm g → M'.zm g ∨ w0.heap.size ≤ g ∨ M' g) : RR D M' w0 σ ν S' w := by
  obtain ⟨s1, s2, s3, s4⟩ := S
  obtain ⟨t1, t2, t3, t4⟩ := S'
  obtain ⟨m1, m2, m3, m4⟩ := M
  obtain ⟨n1, n2, n3, n4⟩ := M'
  simp only at hb hf
  subst hb hf
  exact ⟨hR.boxes, hR.disj, hR.lo, ⟨hR.kept.os, hR.kept.tape, hR.kept.output, hR.kept.size, hR.kept.block⟩, hR.zk, hR.zd, hp, ⟨hR.glob.1, hR.glob.2⟩, hz, hn⟩
structure NilTo (D : Dom) (bs bs2 : List (BoxSt D.τ)) : Prop where
  to : ∃ (j : Nat) (t : TypeId) (ps qs : List (Part D.τ)) (e : TypeId) (p0 : Part D.τ), emptyP D p0 = some p0 ∧ bs[j]? = some (.fixed t ps) ∧ bs2 = bs.set j (.fixed t qs) ++ [.dyn e p0] ∧
    ∀ (E : Env) (cs : List Value), E.al bs.length → E.ν bs.length = .slice none 0 0 → PartsRel D E ps cs → PartsRel D E qs cs
def viaF {D : Dom} (conv : List (BoxSt D.τ) → Option (List (BoxSt D.τ))) (F : List (BoxSt D.τ) → List (A0 D.τ) → Option (AV D.τ × List (BoxSt D.τ) × List Prop)) (bs : List (BoxSt D.τ)) (xs : List (A0 D.τ)) : Option (AV D.τ × List (BoxSt D.τ) × List Prop) :=
  match conv bs with
  | some b2 => F b2 xs
  | none => none
theorem opOK_nil1 {f : FuncId} {F : List (BoxSt D.τ) → List (A0 D.τ) → Option (AV D.τ × List (BoxSt D.τ) × List Prop)} (conv : List (BoxSt D.τ) → Option (List (BoxSt D.τ))) (hc : ∀ bs bs2, conv bs = some bs2 → NilTo D bs bs2) (h : OpOK P D f F) :
    OpOK P D f (viaF conv F) := by
  intro bs xs r bs' ps hF hps w σ ν vs hR hx
  unfold viaF at hF
  split at hF
  case h_2 => cases hF
  rename_i b2 hconv
  obtain ⟨j, t, qs0, qs, e, p0, he, hj, rfl, hrel⟩ := (hc bs b2 hconv).to
  have hjl : j < bs.length := (List.getElem?_eq_some_iff.1 hj).1
  have hun : (bst bs.length bs : St D.τ).box bs.length = .un := by
    rw [bst_box, List.getElem?_eq_none (Nat.le_refl _)]
    rfl
  obtain ⟨r1, r2⟩ := hR.nilBox (e := e) hun he
  have hx1 := hx.mono r2
  generalize hν : setN ν bs.length (Value.slice none 0 0) = ν2 at r1 r2 hx1
  have hνn : ν2 bs.length = .slice none 0 0 := by rw [← hν, setN_same]
  have hνo : ∀ i, i ≠ bs.length → ν2 i = ν i := fun i hi => by rw [← hν, setN_other _ _ hi]
  generalize hS1 : (bst bs.length bs : St D.τ).upd (.box bs.length (.dyn e p0)) = S1 at r1 r2 hx1
  have hS1b : ∀ i, S1.box i = if i = bs.length then .dyn e p0 else (bst bs.length bs : St D.τ).box i := fun i => by
    rw [← hS1]
    show (bif Nat.beq i bs.length then _ else _) = _
    by_cases hi : i = bs.length
    · subst hi; rw [Nat.beq_refl, if_pos rfl]; rfl
    · rw [beq_ne hi, if_neg hi]; rfl
  have hb2 : ∀ i, (bst (bs.length + 1) (bs.set j (.fixed t qs) ++ [.dyn e p0]) : St D.τ).box i = if i = j then .fixed t qs else S1.box i := fun i => by
    rw [bst_box, hS1b]
    by_cases hi : i = bs.length
    · subst hi
      rw [if_neg (by omega), if_pos rfl, List.getElem?_append_right (by rw [List.length_set]; exact Nat.le_refl _), List.length_set, Nat.sub_self]
      rfl
    · rw [if_neg hi, bst_box]
      by_cases hlt : i < bs.length
      · rw [List.getElem?_append_left (by rw [List.length_set]; exact hlt), List.getElem?_set]
        by_cases hij : j = i
        · subst hij
          rw [if_pos rfl, if_pos rfl, if_pos hlt]
          rfl
        · rw [if_neg hij, if_neg (Ne.symm hij)]
      · rw [List.getElem?_eq_none (by rw [List.length_append, List.length_set, List.length_singleton]; omega), List.getElem?_eq_none (by omega), if_neg (by omega)]
  have hold : S1.box j = .fixed t qs0 := by
    rw [hS1b, if_neg (by omega), bst_box, hj]
    rfl
  let S2 : St D.τ := ⟨S1.slot, (bst (bs.length + 1) (bs.set j (.fixed t qs) ++ [.dyn e p0]) : St D.τ).box, S1.nt, S1.np⟩
  have hle2 : (S1.env D (opMem D w σ ν bs) w σ ν2).le (S2.env D (opMem D w σ ν bs) w σ ν2) := by
    refine ⟨fun b hb => ?_, fun _ _ => rfl, fun _ _ => rfl, rfl, rfl, ⟨rfl, rfl⟩, Loc.le_refl σ⟩
    show (S2.box b).al
    rw [show S2.box b = _ from hb2 b]
    by_cases hbj : b = j
    · rw [if_pos hbj]; trivial
    · rw [if_neg hbj]; exact hb
  have hfp : ∀ b g, Fp D (S2.env D (opMem D w σ ν bs) w σ ν2) b (S2.box b) g ↔ Fp D (S1.env D (opMem D w σ ν bs) w σ ν2) b (S1.box b) g := fun b g => by
    rw [show S2.box b = _ from hb2 b]
    by_cases hbj : b = j
    · subst hbj
      rw [if_pos rfl, hold]
      exact Iff.rfl
    · rw [if_neg hbj]
      exact fp_same rfl rfl rfl
  have hr2 : RR D (opMem D w σ ν bs) w σ ν2 S2 w := by
    refine r1.step hle2 (· = j) ?_ ?_ ?_ ?_ r1.kept rfl r1.zk ?_ (fun b g _ hg _ => r1.zd b g hg) (fun g hg => Or.inl hg)
    · rintro b rfl
      rw [show S2.box b = _ from hb2 b, if_pos rfl]
      have hb1 := r1.boxes b
      rw [hold] at hb1
      obtain ⟨cs, h1, h2⟩ := hb1
      refine ⟨cs, h1, hrel _ _ ?_ hνn (h2.mono hle2)⟩
      show (S2.box bs.length).al
      rw [show S2.box bs.length = _ from hb2 bs.length, if_neg (by omega), hS1b, if_pos rfl]
      trivial
    · intro b hbj
      refine Or.inl ⟨by rw [show S2.box b = _ from hb2 b, if_neg hbj], fun _ _ => rfl⟩
    · rintro b b' g rfl hne h1 h2
      exact r1.disj b b' g hne ((hfp b g).1 h1) ((hfp b' g).1 h2)
    · rintro b g rfl h1
      exact r1.lo b g ((hfp b g).1 h1)
    · rintro b g rfl h1
      exact r1.zd b g ((hfp b g).1 h1)
  have hx2 := hx1.mono hle2
  -- the old blocks are the same ones
  have hMf : (opMem D w σ ν2 (bs.set j (.fixed t qs) ++ [.dyn e p0])).f = (opMem D w σ ν bs).f := by
    funext g
    refine propext ?_
    show (∃ b, Fp D ⟨fun _ => True, σ, ν2, w, fun _ => False, none⟩ b ((bst (bs.set j (.fixed t qs) ++ [BoxSt.dyn e p0]).length (bs.set j (.fixed t qs) ++ [.dyn e p0]) : St D.τ).box b) g) ↔ ∃ b, Fp D ⟨fun _ => True, σ, ν, w, fun _ => False, none⟩ b ((bst bs.length bs : St D.τ).box b) g
    have hbb : ∀ b, (bst (bs.set j (.fixed t qs) ++ [BoxSt.dyn e p0]).length (bs.set j (.fixed t qs) ++ [.dyn e p0]) : St D.τ).box b = if b = j then .fixed t qs else S1.box b := fun b => hb2 b
    refine exists_congr fun b => ?_
    rw [hbb]
    by_cases hbj : b = j
    · subst hbj
      rw [if_pos rfl, show (bst bs.length bs : St D.τ).box b = .fixed t qs0 from by rw [bst_box, hj]; rfl]
      exact Iff.rfl
    · rw [if_neg hbj, hS1b]
      by_cases hbn : b = bs.length
      · rw [if_pos hbn, hbn, hun]
        constructor
        · intro h1
          have h2 : (ν2 bs.length).ownBlock = some g := h1
          rw [hνn] at h2
          cases h2
        · intro h1
          cases h1
      · rw [if_neg hbn]
        exact fp_same (E := ⟨fun _ => True, σ, ν, w, fun _ => False, none⟩) (F := ⟨fun _ => True, σ, ν2, w, fun _ => False, none⟩) rfl (hνo b hbn) rfl
  have hlen : (bs.set j (.fixed t qs) ++ [BoxSt.dyn e p0]).length = bs.length + 1 := by rw [List.length_append, List.length_set, List.length_singleton]
  have hr3 : RR D (opMem D w σ ν2 (bs.set j (.fixed t qs) ++ [.dyn e p0])) w σ ν2 (bst (bs.set j (.fixed t qs) ++ [BoxSt.dyn e p0]).length (bs.set j (.fixed t qs) ++ [.dyn e p0])) w := by
    refine hr2.rebase rfl hMf (fun b hb => ⟨rfl, rfl, ?_⟩) (fun g hg => ⟨hg, rfl⟩) (fun g hg => Or.inl hg)
    have hb' : b < bs.length + 1 := by rw [← hlen]; exact hb
    show ((bst (bs.set j (.fixed t qs) ++ [BoxSt.dyn e p0]).length (bs.set j (.fixed t qs) ++ [BoxSt.dyn e p0]) : St D.τ).box b).al
    rw [show (bst (bs.set j (.fixed t qs) ++ [BoxSt.dyn e p0]).length (bs.set j (.fixed t qs) ++ [BoxSt.dyn e p0]) : St D.τ).box b = _ from hb2 b]
    by_cases hbj : b = j
    · rw [if_pos hbj]; trivial
    · rw [if_neg hbj, hS1b]
      by_cases hbn : b = bs.length
      · rw [if_pos hbn]; trivial
      · rw [if_neg hbn]
        exact (hR.pins b (by show b < bs.length; omega)).2.2
  have henv : (S2.env D (opMem D w σ ν bs) w σ ν2) = ((bst (bs.set j (.fixed t qs) ++ [BoxSt.dyn e p0]).length (bs.set j (.fixed t qs) ++ [BoxSt.dyn e p0]) : St D.τ).env D (opMem D w σ ν2 (bs.set j (.fixed t qs) ++ [.dyn e p0])) w σ ν2) := by
    unfold St.env
    rw [hMf]
    rfl
  rw [henv] at hx2
  obtain ⟨g, args, hcall, hcalls⟩ := h _ xs r bs' ps hF hps w σ ν2 vs hr3 hx2
  refine ⟨g, args, hcall, hcalls.mono ?_⟩
  rintro en w' ⟨v, rfl, σ', ν', hR', hv⟩
  refine ⟨v, rfl, σ', ν', ?_, ?_⟩
  · refine hR'.rebase rfl hMf.symm (fun b hb => ?_) (fun g hg => hR'.z0 g hg) (fun g hg => ?_)
    · have hb' : b < bs.length := hb
      obtain ⟨p1, p2, p3⟩ := hR'.pins b (by show b < (bs.set j (.fixed t qs) ++ [BoxSt.dyn e p0]).length; omega)
      exact ⟨p1, p2.trans (hνo b (by omega)), p3⟩
    · rcases hR'.zn g hg with h1 | h1 | h1
      · exact Or.inl h1
      · exact Or.inr (Or.inl h1)
      · exact Or.inr (Or.inr (by
          have h2 : (opMem D w σ ν2 (bs.set j (.fixed t qs) ++ [.dyn e p0])).f g := h1
          rw [hMf] at h2
          exact h2))
  · have he2 : ((bst (bs.set j (.fixed t qs) ++ [BoxSt.dyn e p0]).length bs' : St D.τ).env D (opMem D w σ ν2 (bs.set j (.fixed t qs) ++ [.dyn e p0])) w σ' ν') = ((bst bs.length bs' : St D.τ).env D (opMem D w σ ν bs) w σ' ν') := by
      unfold St.env
      rw [hMf]
      rfl
    rw [← he2]
    exact hv
end
end Go.Abs
namespace Go.Num
open Go.Abs Go.Proofs Go.Shelf Go.RowKit
theorem con2_told {mb : List Int} {m : MsT} {s : S7} (h : s.t.t = true) : con2 mb m s = (s, false) := con2_no fun h' => by rw [h] at h'; cases h'.1
theorem hear0_told {mb : List Int} {m : MsT} {s : S7} (h : s.t.t = true) : (hear0M mb m s).2 = false ∧ (hear0M mb m s).1.t.t = true := by
  cases hh : hasE s.t.rr [.i m.fr]
  · rw [hear0_new hh, con2_told (s := ⟨{ s.t with rr := noteM s.t.rr m.fr m.bd }, s.ms, s.ts⟩) h]
    exact ⟨rfl, h⟩
  · rw [hear0_old hh]
    exact ⟨rfl, h⟩
theorem con1_told {me : Int} {mb : List Int} {m : MsT} {s : S7} (h : s.t.t = true) : (con1M me mb m s).2.2 = false ∧ (con1M me mb m s).1.t.t = true := by
  by_cases hc : s.t.r = false ∧ (halfF mb < cntF s.t.ee m.bd ∨ fF mb < cntF s.t.rr m.bd)
  · rw [con1_say hc]
    obtain ⟨h1, h2⟩ := hear0_told (mb := mb) (m := sayM me 3 m) (s := ⟨{ s.t with r := true }, s.ms ++ [(sayM me 3 m).r], s.ts⟩) h
    have h1 : (say0M me mb m ⟨{ s.t with r := true }, s.ms, s.ts⟩).2 = false := h1
    have h2 : (say0M me mb m ⟨{ s.t with r := true }, s.ms, s.ts⟩).1.t.t = true := h2
    rw [con2_told h2, h1]
    exact ⟨rfl, h2⟩
  · rw [con1_no hc, con2_told h]
    exact ⟨rfl, h⟩
theorem con1_keep (me : Int) (mb : List Int) (m : MsT) (s : S7) : (con1M me mb m s).1.t.key = s.t.key ∧ (con1M me mb m s).1.t.b = s.t.b ∧ (con1M me mb m s).1.t.ee = s.t.ee ∧ ((con1M me mb m s).2.2 = true → (con1M me mb m s).1.t.t = true) := by
  by_cases hc : s.t.r = false ∧ (halfF mb < cntF s.t.ee m.bd ∨ fF mb < cntF s.t.rr m.bd)
  · rw [con1_say hc]
    obtain ⟨a1, a2, _, a4, a5⟩ := say0_keep me mb m ⟨{ s.t with r := true }, s.ms, s.ts⟩
    obtain ⟨c1, c2, _, c4, _, _, c5⟩ := con2_keep mb m (say0M me mb m ⟨{ s.t with r := true }, s.ms, s.ts⟩).1
    refine ⟨c1.trans a1, c2.trans a2, c4.trans a4, fun h => ?_⟩
    rcases (Bool.or_eq_true _ _).mp h with h | h
    · rw [con2_told (a5 h)]
      exact a5 h
    · exact c5 h
  · rw [con1_no hc]
    obtain ⟨c1, c2, _, c4, _, _, c5⟩ := con2_keep mb m s
    exact ⟨c1, c2, c4, c5⟩
theorem base_ready {n : Nat} {mb : List Int} {m : MsT} {s : S7} (h : Base7 n mb m s) (x y : Bool) : Base7 n mb m ⟨{ s.t with b := x, r := y }, s.ms, s.ts⟩ := ⟨h.mb0, h.mb1, h.ee, h.rr, h.bd, h.bl, h.ms, h.ts⟩
theorem con1_base {n : Nat} {mb : List Int} {m : MsT} {s : S7} (h : Base7 n mb m s) (me : Int) : Base7 (n + 4) mb m (con1M me mb m s).1 := by
  by_cases hc : s.t.r = false ∧ (halfF mb < cntF s.t.ee m.bd ∨ fF mb < cntF s.t.rr m.bd)
  · rw [con1_say hc]
    exact con2_base (say0_base (base_ready h s.t.b true) me)
  · rw [con1_no hc]
    exact (con2_base h).mono (by omega)
theorem hear1_keep (me : Int) (mb : List Int) (m : MsT) (s : S7) : (hear1M me mb m s).1.t.key = s.t.key ∧ (hear1M me mb m s).1.t.b = s.t.b ∧ ((hear1M me mb m s).2.2 = true → (hear1M me mb m s).1.t.t = true) := by
  cases hh : hasE s.t.ee [.i m.fr]
  · rw [hear1_new hh]
    obtain ⟨h1, h2, _, h4⟩ := con1_keep me mb m ⟨{ s.t with ee := noteM s.t.ee m.fr m.bd }, s.ms, s.ts⟩
    exact ⟨h1, h2, h4⟩
  · rw [hear1_old hh]
    exact ⟨rfl, rfl, fun h => by cases h⟩
theorem hear1_base {n : Nat} {mb : List Int} {m : MsT} {s : S7} (h : Base7 n mb m s) (me : Int) : Base7 (n + 5) mb m (hear1M me mb m s).1 := by
  cases hh : hasE s.t.ee [.i m.fr]
  · rw [hear1_new hh]
    exact con1_base h.noteE me
  · rw [hear1_old hh]
    exact h.mono (by omega)
theorem say1_keep (me : Int) (mb : List Int) (m : MsT) (s : S7) : (say1M me mb m s).1.t.key = s.t.key ∧ (say1M me mb m s).1.t.b = s.t.b ∧ ((say1M me mb m s).2.2 = true → (say1M me mb m s).1.t.t = true) := hear1_keep me mb (sayM me 2 m) ⟨s.t, s.ms ++ [(sayM me 2 m).r], s.ts⟩
theorem say1_base {n : Nat} {mb : List Int} {m : MsT} {s : S7} (h : Base7 n mb m s) (me : Int) : Base7 (n + 6) mb m (say1M me mb m s).1 := (hear1_base (h.say me 2) me).msg rfl
def hear2M (me : Int) (mb : List Int) (m : MsT) (s : S7) : S7 × Bool × Bool :=
  if m.k = 1 then (if m.fr = m.wh ∧ s.t.b = false then ((con1M me mb m (say1M me mb m ⟨{ s.t with b := true }, s.ms, s.ts⟩).1).1, true, (say1M me mb m ⟨{ s.t with b := true }, s.ms, s.ts⟩).2.2 || (con1M me mb m (say1M me mb m ⟨{ s.t with b := true }, s.ms, s.ts⟩).1).2.2) else con1M me mb m s)
  else if m.k = 2 then hear1M me mb m s
  else if hasE s.t.rr [.i m.fr] = true then (s, false, false) else con1M me mb m ⟨{ s.t with rr := noteM s.t.rr m.fr m.bd }, s.ms, s.ts⟩
def hnRd (bs : List (BoxSt DB.τ)) : List (A0 DB.τ) → Option ((Int × List Int × List (Rec × Ob)) × (List Rec × List Rec) × MsT)
  | [.one (.ref 0 0), x, .one (.ref 1 0)] => match bs, msRd x with
    | [.fixed t1 ps, .fixed t2 us, .fam k4 es none, .dyn t7 (.lrs s7 ms), .dyn t8 (.lrs s8 ts)], some m => match ps, us with
      | [.int .i64 _ me, .pw .i64 mb, .mapr 2], [.own 3, .own 4] => some ((me, mb, es), (ms, ts), m)
      | _, _ => none
    | _, _ => none
  | _ => none
def hnPre (t : (Int × List Int × List (Rec × Ob)) × (List Rec × List Rec) × MsT) : List (BoxSt DB.τ) × List (A0 DB.τ) := (hnX t.1.1 t.1.2.1 t.1.2.2 t.2.1.1 t.2.1.2, [.one (.ref 0 0), t.2.2.a, .one (.ref 1 0)])
def s0Of (es : List (Rec × Ob)) (m : MsT) (ms ts : List Rec) : S7 := ⟨ofT es m.key, ms, ts⟩
def esOf (es : List (Rec × Ob)) (m : MsT) (s : S7) : List (Rec × Ob) := setE (ofE es m.key) m.key s.t.ob
noncomputable def hear2Q (p q : Bool) := mkF DB Try.f23.ntmps hnRd hnPre (fun t => some (.tup [], hnR p q t.1.1 t.1.2.1 (esOf t.1.2.2 t.2.2 (hear2M t.1.1 t.1.2.1 t.2.2 (s0Of t.1.2.2 t.2.2 t.2.1.1 t.2.1.2)).1) (hear2M t.1.1 t.1.2.1 t.2.2 (s0Of t.1.2.2 t.2.2 t.2.1.1 t.2.1.2)).1.ms (hear2M t.1.1 t.1.2.1 t.2.2 (s0Of t.1.2.2 t.2.2 t.2.1.1 t.2.1.2)).1.ts,
  [Base7 40000 t.1.2.1 t.2.2 (s0Of t.1.2.2 t.2.2 t.2.1.1 t.2.1.2), cntP t.1.2.1 t.2.2 ∧ t.1.1 ∈ t.1.2.1, (hear2M t.1.1 t.1.2.1 t.2.2 (s0Of t.1.2.2 t.2.2 t.2.1.1 t.2.1.2)).2 = (p, q)]))
noncomputable def hearNQ := mkF DB Try.f23.ntmps hnRd hnPre (fun t => some (.tup [], hnX t.1.1 t.1.2.1 t.1.2.2 t.2.1.1 t.2.1.2, [t.1.2.1.length ≤ 1000, ¬ cntP t.1.2.1 t.2.2]))
theorem hearN_ok : OpOK Try.prog DB 23 hearNQ := by
  refine opOK_mkG mixed Try.func23 (enters_of Try.func23 (by kernel_rfl) rfl) ?_
  rintro ⟨⟨me, mb, es⟩, ⟨ms, ts⟩, ⟨k, ep, fr, wh, tp, rd, bd⟩⟩ r' bs' ps h hps
  simp only [Option.some.injEq, Prod.mk.injEq] at h
  obtain ⟨rfl, rfl, rfl⟩ := h
  have hl : mb.length ≤ 1000 := hps (mb.length ≤ 1000) (by simp)
  have hc : ¬ cntP mb ⟨k, ep, fr, wh, tp, rd, bd⟩ := hps (¬ cntP mb ⟨k, ep, fr, wh, tp, rd, bd⟩) (by simp)
  exact ⟨_, _, _, gH2_ok false false false, h2_not me mb es _ k ep fr wh tp rd bd ms ts _ _ (cnt_false hc) hl rfl rfl rfl⟩
theorem ofT_key (es : List (Rec × Ob)) (key : Rec) : (ofT es key).key = key := by
  unfold ofT
  split <;> rfl
theorem hear2_ok (p q : Bool) : OpOK Try.prog DB 23 (hear2Q p q) := by
  refine opOK_mkG mixed Try.func23 (enters_of Try.func23 (by kernel_rfl) rfl) ?_
  rintro ⟨⟨me, mb, es⟩, ⟨ms, ts⟩, ⟨k, ep, fr, wh, tp, rd, bd⟩⟩ r' bs' ps h hps
  simp only [Option.some.injEq, Prod.mk.injEq] at h
  obtain ⟨rfl, rfl, rfl⟩ := h
  obtain ⟨m, hm⟩ : ∃ m : MsT, m = ⟨k, ep, fr, wh, tp, rd, bd⟩ := ⟨_, rfl⟩
  simp only [← hm] at hps ⊢
  have hb : Base7 40000 mb m (s0Of es m ms ts) := hps (Base7 40000 mb m (s0Of es m ms ts)) (by simp)
  have hcm : cntP mb m ∧ me ∈ mb := hps (cntP mb m ∧ me ∈ mb) (by simp)
  have hq : (hear2M me mb m (s0Of es m ms ts)).2 = (p, q) := hps ((hear2M me mb m (s0Of es m ms ts)).2 = (p, q)) (by simp)
  have hmk : m.k = k := by rw [hm]
  have hmf : m.fr = fr := by rw [hm]
  have hmw : m.wh = wh := by rw [hm]
  have hmb : m.bd = bd := by rw [hm]
  have hmkey : m.key = [.i tp, .i wh] := by rw [hm]; rfl
  have hbl := hb.bl
  rw [hmb] at hbl
  have hl := hb.mb1
  have hct := cnt_true hcm.1
  have hk0 : (ofT es [.i tp, .i wh]).key = [.i tp, .i wh] := ofT_key ..
  have hsk : (s0Of es m ms ts).t.key = [.i tp, .i wh] := (ofT_key ..).trans hmkey
  have he : s0Of es m ms ts = ⟨ofT es [.i tp, .i wh], ms, ts⟩ := by unfold s0Of; rw [hmkey]
  have hes : ∀ s : S7, s.t.key = [.i tp, .i wh] → setE (ofE es [.i tp, .i wh]) s.t.key s.t.ob = esOf es m s := fun s hs => by unfold esOf; rw [hs, hmkey]
  rw [he] at hb hq ⊢
  show ∃ Γ fuel ds, GamOK Try.prog DB Γ ∧ ∃ qs, runO Try.prog DB Γ fuel Try.f23 (hnX me mb es ms ts, [.one (.ref 0 0), m.a, .one (.ref 1 0)]) ds (.tup []) (hnR p q me mb (esOf es m (hear2M me mb m ⟨ofT es [.i tp, .i wh], ms, ts⟩).1) (hear2M me mb m ⟨ofT es [.i tp, .i wh], ms, ts⟩).1.ms (hear2M me mb m ⟨ofT es [.i tp, .i wh], ms, ts⟩).1.ts) = some qs ∧ AllQ qs
  unfold hear2M at hq ⊢
  have hkk : m.k = 1 ∨ m.k = 2 ∨ m.k = 3 := hcm.1.1
  by_cases c1 : m.k = 1
  · rw [if_pos c1] at hq ⊢
    have d1 : (k == 1) = true := beq_iff_eq.2 (by rw [← hmk]; exact c1)
    by_cases c2 : m.fr = m.wh
    · have d2 : (fr == wh) = true := beq_iff_eq.2 (by rw [← hmf, ← hmw]; exact c2)
      by_cases c3 : (ofT es [.i tp, .i wh]).b = false
      · have hcond : m.fr = m.wh ∧ (ofT es [.i tp, .i wh]).b = false := ⟨c2, c3⟩
        rw [if_pos (show m.fr = m.wh ∧ (S7.mk (ofT es [.i tp, .i wh]) ms ts).t.b = false from hcond)] at hq ⊢
        have hb1 : Base7 50000 mb m ⟨{ ofT es [.i tp, .i wh] with b := true }, ms, ts⟩ := ⟨hb.mb0, hb.mb1, ⟨Nat.le_trans hb.ee.1 (by decide), hb.ee.2⟩, ⟨Nat.le_trans hb.rr.1 (by decide), hb.rr.2⟩, hb.bd, hb.bl, Nat.le_trans hb.ms (by decide), Nat.le_trans hb.ts (by decide)⟩
        obtain ⟨x1, _, x3⟩ := say1_keep me mb m ⟨{ ofT es [.i tp, .i wh] with b := true }, ms, ts⟩
        have hx := say1_base (n := 40000) (mb := mb) (m := m) (s := ⟨{ ofT es [.i tp, .i wh] with b := true }, ms, ts⟩) ⟨hb.mb0, hb.mb1, hb.ee, hb.rr, hb.bd, hb.bl, hb.ms, hb.ts⟩ me
        have hxk : (say1M me mb m ⟨{ ofT es [.i tp, .i wh] with b := true }, ms, ts⟩).1.t.key = [.i tp, .i wh] := x1.trans hk0
        obtain ⟨y1, _, _, _⟩ := con1_keep me mb m (say1M me mb m ⟨{ ofT es [.i tp, .i wh] with b := true }, ms, ts⟩).1
        have hyk := y1.trans hxk
        simp only at hq ⊢
        cases q1 : (say1M me mb m ⟨{ ofT es [.i tp, .i wh] with b := true }, ms, ts⟩).2.2
        · rw [q1, Bool.false_or] at hq
          cases p1 : (con1M me mb m (say1M me mb m ⟨{ ofT es [.i tp, .i wh] with b := true }, ms, ts⟩).1).2.1 <;> cases q2 : (con1M me mb m (say1M me mb m ⟨{ ofT es [.i tp, .i wh] with b := true }, ms, ts⟩).1).2.2
          all_goals (rw [q2] at hq; cases hq; subst hm)
          · exact ⟨_, _, _, gH2_ok false false false, h2_sFFF me mb es _ k ep fr wh tp rd bd ms ts _ _ hct hl d1 d2 c3 hb1 hk0 hcm q1 (hx.mono (by decide)) hxk (Prod.ext p1 q2) rfl rfl rfl rfl rfl (hes _ hyk) rfl rfl⟩
          · exact ⟨_, _, _, gH2_ok false false true, h2_sFFT me mb es _ k ep fr wh tp rd bd ms ts _ _ hct hl d1 d2 c3 hb1 hk0 hcm q1 (hx.mono (by decide)) hxk (Prod.ext p1 q2) rfl rfl rfl rfl rfl (hes _ hyk) rfl rfl⟩
          · exact ⟨_, _, _, gH2_ok false true false, h2_sFTF me mb es _ k ep fr wh tp rd bd ms ts _ _ hct hl d1 d2 c3 hb1 hk0 hcm q1 (hx.mono (by decide)) hxk (Prod.ext p1 q2) rfl rfl rfl rfl rfl (hes _ hyk) rfl rfl⟩
          · exact ⟨_, _, _, gH2_ok false true true, h2_sFTT me mb es _ k ep fr wh tp rd bd ms ts _ _ hct hl d1 d2 c3 hb1 hk0 hcm q1 (hx.mono (by decide)) hxk (Prod.ext p1 q2) rfl rfl rfl rfl rfl (hes _ hyk) rfl rfl⟩
        · have ht := (con1_told (me := me) (mb := mb) (m := m) (x3 q1)).1
          rw [q1, Bool.true_or] at hq
          cases p1 : (con1M me mb m (say1M me mb m ⟨{ ofT es [.i tp, .i wh] with b := true }, ms, ts⟩).1).2.1
          all_goals (cases hq; subst hm)
          · exact ⟨_, _, _, gH2_ok true false false, h2_sTFF me mb es _ k ep fr wh tp rd bd ms ts _ _ hct hl d1 d2 c3 hb1 hk0 hcm q1 (hx.mono (by decide)) hxk (Prod.ext p1 ht) rfl rfl rfl rfl rfl (hes _ hyk) rfl rfl⟩
          · exact ⟨_, _, _, gH2_ok true true false, h2_sTTF me mb es _ k ep fr wh tp rd bd ms ts _ _ hct hl d1 d2 c3 hb1 hk0 hcm q1 (hx.mono (by decide)) hxk (Prod.ext p1 ht) rfl rfl rfl rfl rfl (hes _ hyk) rfl rfl⟩
      · rw [if_neg (show ¬ (m.fr = m.wh ∧ (S7.mk (ofT es [.i tp, .i wh]) ms ts).t.b = false) from fun h => c3 h.2)] at hq ⊢
        have c3 : (ofT es [.i tp, .i wh]).b = true := by simpa using c3
        have hyk := (con1_keep me mb m ⟨ofT es [.i tp, .i wh], ms, ts⟩).1.trans hk0
        cases p <;> cases q
        all_goals subst hm
        · exact ⟨_, _, _, gH2_ok false false false, h2_bFF me mb es _ k ep fr wh tp rd bd ms ts _ _ hct hl d1 d2 c3 (hb.mono (by decide)) hk0 hcm hq rfl rfl rfl rfl rfl (hes _ hyk) rfl rfl⟩
        · exact ⟨_, _, _, gH2_ok false false true, h2_bFT me mb es _ k ep fr wh tp rd bd ms ts _ _ hct hl d1 d2 c3 (hb.mono (by decide)) hk0 hcm hq rfl rfl rfl rfl rfl (hes _ hyk) rfl rfl⟩
        · exact ⟨_, _, _, gH2_ok false true false, h2_bTF me mb es _ k ep fr wh tp rd bd ms ts _ _ hct hl d1 d2 c3 (hb.mono (by decide)) hk0 hcm hq rfl rfl rfl rfl rfl (hes _ hyk) rfl rfl⟩
        · exact ⟨_, _, _, gH2_ok false true true, h2_bTT me mb es _ k ep fr wh tp rd bd ms ts _ _ hct hl d1 d2 c3 (hb.mono (by decide)) hk0 hcm hq rfl rfl rfl rfl rfl (hes _ hyk) rfl rfl⟩
    · have d2 : (fr == wh) = false := beq_eq_false_iff_ne.2 (by rw [← hmf, ← hmw]; exact c2)
      rw [if_neg (fun h => c2 h.1)] at hq ⊢
      have hyk := (con1_keep me mb m ⟨ofT es [.i tp, .i wh], ms, ts⟩).1.trans hk0
      cases p <;> cases q
      all_goals subst hm
      · exact ⟨_, _, _, gH2_ok false false false, h2_wFF me mb es _ k ep fr wh tp rd bd ms ts _ _ hct hl d1 d2 (hb.mono (by decide)) hk0 hcm hq rfl rfl rfl rfl rfl (hes _ hyk) rfl rfl⟩
      · exact ⟨_, _, _, gH2_ok false false true, h2_wFT me mb es _ k ep fr wh tp rd bd ms ts _ _ hct hl d1 d2 (hb.mono (by decide)) hk0 hcm hq rfl rfl rfl rfl rfl (hes _ hyk) rfl rfl⟩
      · exact ⟨_, _, _, gH2_ok false true false, h2_wTF me mb es _ k ep fr wh tp rd bd ms ts _ _ hct hl d1 d2 (hb.mono (by decide)) hk0 hcm hq rfl rfl rfl rfl rfl (hes _ hyk) rfl rfl⟩
      · exact ⟨_, _, _, gH2_ok false true true, h2_wTT me mb es _ k ep fr wh tp rd bd ms ts _ _ hct hl d1 d2 (hb.mono (by decide)) hk0 hcm hq rfl rfl rfl rfl rfl (hes _ hyk) rfl rfl⟩
  · rw [if_neg c1] at hq ⊢
    have d1 : (k == 1) = false := beq_eq_false_iff_ne.2 (by rw [← hmk]; exact c1)
    by_cases c2 : m.k = 2
    · rw [if_pos c2] at hq ⊢
      have d2 : (k == 2) = true := beq_iff_eq.2 (by rw [← hmk]; exact c2)
      cases hh : hasE (ofT es [.i tp, .i wh]).ee [.i fr]
      · have hh' : hasE (S7.mk (ofT es [.i tp, .i wh]) ms ts).t.ee [.i m.fr] = false := by rw [hmf]; exact hh
        rw [hear1_new hh'] at hq ⊢
        have hb1 := hb.noteE.mono (show 40000 + 1 ≤ 70000 by decide)
        have hyk := (con1_keep me mb m ⟨{ ofT es [.i tp, .i wh] with ee := noteM (ofT es [.i tp, .i wh]).ee m.fr m.bd }, ms, ts⟩).1.trans hk0
        have hn : (!hasE (ofT es [.i tp, .i wh]).ee [.i fr]) = true := by rw [hh]; rfl
        cases p <;> cases q
        all_goals subst hm
        · exact ⟨_, _, _, gH2_ok false false false, h2_eFF me mb es _ k ep fr wh tp rd bd ms ts _ _ hct hl d1 d2 hn (by omega) hb1 hk0 hcm hq rfl rfl rfl rfl rfl (hes _ hyk) rfl rfl⟩
        · exact ⟨_, _, _, gH2_ok false false true, h2_eFT me mb es _ k ep fr wh tp rd bd ms ts _ _ hct hl d1 d2 hn (by omega) hb1 hk0 hcm hq rfl rfl rfl rfl rfl (hes _ hyk) rfl rfl⟩
        · exact ⟨_, _, _, gH2_ok false true false, h2_eTF me mb es _ k ep fr wh tp rd bd ms ts _ _ hct hl d1 d2 hn (by omega) hb1 hk0 hcm hq rfl rfl rfl rfl rfl (hes _ hyk) rfl rfl⟩
        · exact ⟨_, _, _, gH2_ok false true true, h2_eTT me mb es _ k ep fr wh tp rd bd ms ts _ _ hct hl d1 d2 hn (by omega) hb1 hk0 hcm hq rfl rfl rfl rfl rfl (hes _ hyk) rfl rfl⟩
      · have hh' : hasE (S7.mk (ofT es [.i tp, .i wh]) ms ts).t.ee [.i m.fr] = true := by rw [hmf]; exact hh
        rw [hear1_old hh'] at hq ⊢
        cases hq
        subst hm
        exact ⟨_, _, _, gH2_ok false false false, h2_eo me mb es _ k ep fr wh tp rd bd ms ts _ _ hct hl d1 d2 (by rw [hh]; rfl) (by omega) rfl rfl rfl rfl rfl (by show setE (ofE es [.i tp, .i wh]) (ofT es [.i tp, .i wh]).key (tkOb (ofT es [.i tp, .i wh]).b (ofT es [.i tp, .i wh]).r (ofT es [.i tp, .i wh]).t (noteM (ofT es [.i tp, .i wh]).ee fr bd) (ofT es [.i tp, .i wh]).rr) = _; rw [noteM_old hh]; exact hes ⟨ofT es [.i tp, .i wh], ms, ts⟩ hk0) rfl rfl⟩
    · rw [if_neg c2] at hq ⊢
      have d2 : (k == 2) = false := beq_eq_false_iff_ne.2 (by rw [← hmk]; exact c2)
      have d3 : (k == 3) = true := beq_iff_eq.2 (by rw [← hmk]; omega)
      cases hh : hasE (ofT es [.i tp, .i wh]).rr [.i fr]
      · have hh' : ¬ hasE (S7.mk (ofT es [.i tp, .i wh]) ms ts).t.rr [.i m.fr] = true := by rw [hmf, show hasE (S7.mk (ofT es [.i tp, .i wh]) ms ts).t.rr [.i fr] = false from hh]; decide
        rw [if_neg hh'] at hq ⊢
        have hb1 := hb.noteR.mono (show 40000 + 1 ≤ 70000 by decide)
        have hyk := (con1_keep me mb m ⟨{ ofT es [.i tp, .i wh] with rr := noteM (ofT es [.i tp, .i wh]).rr m.fr m.bd }, ms, ts⟩).1.trans hk0
        have hn : (!hasE (ofT es [.i tp, .i wh]).rr [.i fr]) = true := by rw [hh]; rfl
        cases p <;> cases q
        all_goals subst hm
        · exact ⟨_, _, _, gH2_ok false false false, h2_rFF me mb es _ k ep fr wh tp rd bd ms ts _ _ hct hl d1 d2 d3 hn (by omega) hb1 hk0 hcm hq rfl rfl rfl rfl rfl (hes _ hyk) rfl rfl⟩
        · exact ⟨_, _, _, gH2_ok false false true, h2_rFT me mb es _ k ep fr wh tp rd bd ms ts _ _ hct hl d1 d2 d3 hn (by omega) hb1 hk0 hcm hq rfl rfl rfl rfl rfl (hes _ hyk) rfl rfl⟩
        · exact ⟨_, _, _, gH2_ok false true false, h2_rTF me mb es _ k ep fr wh tp rd bd ms ts _ _ hct hl d1 d2 d3 hn (by omega) hb1 hk0 hcm hq rfl rfl rfl rfl rfl (hes _ hyk) rfl rfl⟩
        · exact ⟨_, _, _, gH2_ok false true true, h2_rTT me mb es _ k ep fr wh tp rd bd ms ts _ _ hct hl d1 d2 d3 hn (by omega) hb1 hk0 hcm hq rfl rfl rfl rfl rfl (hes _ hyk) rfl rfl⟩
      · have hh' : hasE (S7.mk (ofT es [.i tp, .i wh]) ms ts).t.rr [.i m.fr] = true := by rw [hmf]; exact hh
        rw [if_pos hh'] at hq ⊢
        cases hq
        subst hm
        exact ⟨_, _, _, gH2_ok false false false, h2_ro me mb es _ k ep fr wh tp rd bd ms ts _ _ hct hl d1 d2 d3 (by rw [hh]; rfl) (by omega) rfl rfl rfl rfl rfl (by show setE (ofE es [.i tp, .i wh]) (ofT es [.i tp, .i wh]).key (tkOb (ofT es [.i tp, .i wh]).b (ofT es [.i tp, .i wh]).r (ofT es [.i tp, .i wh]).t (ofT es [.i tp, .i wh]).ee (noteM (ofT es [.i tp, .i wh]).rr fr bd)) = _; rw [noteM_old hh]; exact hes ⟨ofT es [.i tp, .i wh], ms, ts⟩ hk0) rfl rfl⟩
end Go.Num
