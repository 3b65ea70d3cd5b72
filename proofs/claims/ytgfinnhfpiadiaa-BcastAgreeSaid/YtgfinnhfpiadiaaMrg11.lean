/- Several texts put together: B10 B11 B12 B13 B14 B15 B16 B17 B18 B19. -/
import Derived.Test.YtgfinnhfpiadiaaMrg10
namespace Go.Num
open Go.Abs Go.Proofs Go.Shelf Go.RowKit
def convA : List (BoxSt DB.τ) → Option (List (BoxSt DB.τ))
  | [h, .fixed t [.nil, .nil], f] => some [h, .fixed t [.own 3, .nil], f, msX []]
  | _ => none
def convB : List (BoxSt DB.τ) → Option (List (BoxSt DB.τ))
  | [h, .fixed t [.own 3, .nil], f, .dyn e p] => some [h, .fixed t [.own 3, .own 4], f, .dyn e p, tsX []]
  | _ => none
theorem convA_ok (bs b2 : List (BoxSt DB.τ)) (h : convA bs = some b2) : NilTo DB bs b2 := by
  unfold convA at h
  split at h
  · rename_i x t f
    cases h
    refine ⟨1, t, [.nil, .nil], [.own 3, .nil], 38, .lrs mSh [], rfl, rfl, rfl, fun E cs hal hnu hp => ?_⟩
    obtain ⟨c1, c2, rfl, h1, h2⟩ := hp
    obtain rfl : c1 = [Value.slice none 0 0] := h1
    have hal : E.al 3 := hal
    have hnu : E.ν 3 = .slice none 0 0 := hnu
    exact ⟨_, _, rfl, ⟨hal, by rw [hnu]; rfl, by rw [hnu]⟩, h2⟩
  · cases h
theorem convB_ok (bs b2 : List (BoxSt DB.τ)) (h : convB bs = some b2) : NilTo DB bs b2 := by
  unfold convB at h
  split at h
  · rename_i x t f e p
    cases h
    refine ⟨1, t, [.own 3, .nil], [.own 3, .own 4], 56, .lrs tSh [], rfl, rfl, rfl, fun E cs hal hnu hp => ?_⟩
    obtain ⟨c1, c2, rfl, h1, c3, c4, rfl, h3, h4⟩ := hp
    obtain rfl : c3 = [Value.slice none 0 0] := h3
    have hal : E.al 4 := hal
    have hnu : E.ν 4 = .slice none 0 0 := hnu
    exact ⟨_, _, rfl, h1, _, _, rfl, ⟨hal, by rw [hnu]; rfl, by rw [hnu]⟩, h4⟩
  · cases h
theorem viaA_ok {f : FuncId} {F : List (BoxSt DB.τ) → List (A0 DB.τ) → Option (AV DB.τ × List (BoxSt DB.τ) × List Prop)} (h : OpOK Try.prog DB f F) : OpOK Try.prog DB f (viaF convA F) := opOK_nil1 convA convA_ok h
theorem viaB_ok {f : FuncId} {F : List (BoxSt DB.τ) → List (A0 DB.τ) → Option (AV DB.τ × List (BoxSt DB.τ) × List Prop)} (h : OpOK Try.prog DB f F) : OpOK Try.prog DB f (viaF convB F) := opOK_nil1 convB convB_ok h
noncomputable def gInN : Gam DB := [(22, .op [true] idleQ), (23, .op [true, false, true] (viaF convA (viaF convB hearNQ)))]
theorem gInN_ok : GamOK Try.prog DB gInN := gam_op idle_ok (gam_op (viaA_ok (viaB_ok hearN_ok)) gam_nil)
noncomputable def gIn (p q : Bool) : Gam DB := [(22, .op [true] idleQ), (23, .op [true, false, true] (viaF convA (viaF convB (hear2Q p q))))]
theorem gIn_ok (p q : Bool) : GamOK Try.prog DB (gIn p q) := gam_op idle_ok (gam_op (viaA_ok (viaB_ok (hear2_ok p q))) gam_nil)
def inB2 (me : Int) (mb : List Int) (es : List (Rec × Ob)) (ms ts : List Rec) : List (BoxSt DB.τ) := [hubX me mb 1, .fam 1 es none, msX ms, tsX ts]
theorem in_n (me : Int) (mb : List Int) (es es' : List (Rec × Ob)) (k ep fr wh tp rd : Int) (bd : List Int) (ms' ts' : List Rec)
 (h1 : (mb ≠ ([] : List (Int))))
 (h2 : ((List.length mb) ≤ (1000 : Nat)))
 (h3 : (¬ (cntP mb (MsT.mk k ep fr wh tp rd bd))))
 (h4 : (es = es'))
 (h5 : (([] : List (Rec)) = ms'))
 (h6 : (([] : List (Rec)) = ts')) :
 ∃ ps, runO Try.prog DB gInN 100 Try.f15 (hbN me mb es, [.one (.ref 0 0), (MsT.mk k ep fr wh tp rd bd).a]) [] (.tup [.one (.own 2), .one (.own 3)]) (inB2 me mb es' ms' ts') = some ps ∧ AllQ ps := ⟨_, by kernel_rfl, qc (er me) (qc (er mb) (qc (er es) (qc h1 (qc (er k) (qc (er ep) (qc (er fr) (qc (er wh) (qc (er tp) (qc (er rd) (qc (er bd) (qc (er me) (qc (er mb) (qc (er es) (qc (er (([] : List (Rec)))) (qc (er (([] : List (Rec)))) (qc h2 (qc h3 (qc (er me) (qc (er mb) (qc h4 (qc h5 (qc h6 (qn)))))))))))))))))))))))⟩
theorem in_FF (me : Int) (mb : List Int) (es es' : List (Rec × Ob)) (k ep fr wh tp rd : Int) (bd : List Int) (ms' ts' : List Rec)
 (h1 : (mb ≠ ([] : List (Int))))
 (h2 : (Base7 (40000 : Nat) mb (MsT.mk k ep fr wh tp rd bd) (s0Of es (MsT.mk k ep fr wh tp rd bd) ([] : List (Rec)) ([] : List (Rec)))))
 (h3 : ((cntP mb (MsT.mk k ep fr wh tp rd bd)) ∧ (List.Mem me mb)))
 (h4 : (((hear2M me mb (MsT.mk k ep fr wh tp rd bd) (s0Of es (MsT.mk k ep fr wh tp rd bd) ([] : List (Rec)) ([] : List (Rec))))).2 = (false, false)))
 (h5 : ((esOf es (MsT.mk k ep fr wh tp rd bd) ((hear2M me mb (MsT.mk k ep fr wh tp rd bd) (s0Of es (MsT.mk k ep fr wh tp rd bd) ([] : List (Rec)) ([] : List (Rec))))).1) = es'))
 (h6 : ((((hear2M me mb (MsT.mk k ep fr wh tp rd bd) (s0Of es (MsT.mk k ep fr wh tp rd bd) ([] : List (Rec)) ([] : List (Rec))))).1).2 = ms'))
 (h7 : ((((hear2M me mb (MsT.mk k ep fr wh tp rd bd) (s0Of es (MsT.mk k ep fr wh tp rd bd) ([] : List (Rec)) ([] : List (Rec))))).1).3 = ts')) :
 ∃ ps, runO Try.prog DB (gIn false false) 100 Try.f15 (hbN me mb es, [.one (.ref 0 0), (MsT.mk k ep fr wh tp rd bd).a]) [] (.tup [.one (.own 2), .one (.own 3)]) (inB2 me mb es' ms' ts') = some ps ∧ AllQ ps := ⟨_, by kernel_rfl, qc (er me) (qc (er mb) (qc (er es) (qc h1 (qc (er k) (qc (er ep) (qc (er fr) (qc (er wh) (qc (er tp) (qc (er rd) (qc (er bd) (qc (er me) (qc (er mb) (qc (er es) (qc (er (([] : List (Rec)))) (qc (er (([] : List (Rec)))) (qc h2 (qc h3 (qc h4 (qc (er me) (qc (er mb) (qc h5 (qc h6 (qc h7 (qn))))))))))))))))))))))))⟩
theorem in_FT (me : Int) (mb : List Int) (es es' : List (Rec × Ob)) (k ep fr wh tp rd : Int) (bd : List Int) (ms' ts' : List Rec)
 (h1 : (mb ≠ ([] : List (Int))))
 (h2 : (Base7 (40000 : Nat) mb (MsT.mk k ep fr wh tp rd bd) (s0Of es (MsT.mk k ep fr wh tp rd bd) ([] : List (Rec)) ([] : List (Rec)))))
 (h3 : ((cntP mb (MsT.mk k ep fr wh tp rd bd)) ∧ (List.Mem me mb)))
 (h4 : (((hear2M me mb (MsT.mk k ep fr wh tp rd bd) (s0Of es (MsT.mk k ep fr wh tp rd bd) ([] : List (Rec)) ([] : List (Rec))))).2 = (false, true)))
 (h5 : ((esOf es (MsT.mk k ep fr wh tp rd bd) ((hear2M me mb (MsT.mk k ep fr wh tp rd bd) (s0Of es (MsT.mk k ep fr wh tp rd bd) ([] : List (Rec)) ([] : List (Rec))))).1) = es'))
 (h6 : ((((hear2M me mb (MsT.mk k ep fr wh tp rd bd) (s0Of es (MsT.mk k ep fr wh tp rd bd) ([] : List (Rec)) ([] : List (Rec))))).1).2 = ms'))
 (h7 : ((((hear2M me mb (MsT.mk k ep fr wh tp rd bd) (s0Of es (MsT.mk k ep fr wh tp rd bd) ([] : List (Rec)) ([] : List (Rec))))).1).3 = ts')) :
 ∃ ps, runO Try.prog DB (gIn false true) 100 Try.f15 (hbN me mb es, [.one (.ref 0 0), (MsT.mk k ep fr wh tp rd bd).a]) [] (.tup [.one (.own 2), .one (.own 3)]) (inB2 me mb es' ms' ts') = some ps ∧ AllQ ps := ⟨_, by kernel_rfl, qc (er me) (qc (er mb) (qc (er es) (qc h1 (qc (er k) (qc (er ep) (qc (er fr) (qc (er wh) (qc (er tp) (qc (er rd) (qc (er bd) (qc (er me) (qc (er mb) (qc (er es) (qc (er (([] : List (Rec)))) (qc (er (([] : List (Rec)))) (qc h2 (qc h3 (qc h4 (qc (er me) (qc (er mb) (qc h5 (qc h6 (qc h7 (qn))))))))))))))))))))))))⟩
theorem in_TF (me : Int) (mb : List Int) (es es' : List (Rec × Ob)) (k ep fr wh tp rd : Int) (bd : List Int) (ms' ts' : List Rec)
 (h1 : (mb ≠ ([] : List (Int))))
 (h2 : (Base7 (40000 : Nat) mb (MsT.mk k ep fr wh tp rd bd) (s0Of es (MsT.mk k ep fr wh tp rd bd) ([] : List (Rec)) ([] : List (Rec)))))
 (h3 : ((cntP mb (MsT.mk k ep fr wh tp rd bd)) ∧ (List.Mem me mb)))
 (h4 : (((hear2M me mb (MsT.mk k ep fr wh tp rd bd) (s0Of es (MsT.mk k ep fr wh tp rd bd) ([] : List (Rec)) ([] : List (Rec))))).2 = (true, false)))
 (h5 : ((esOf es (MsT.mk k ep fr wh tp rd bd) ((hear2M me mb (MsT.mk k ep fr wh tp rd bd) (s0Of es (MsT.mk k ep fr wh tp rd bd) ([] : List (Rec)) ([] : List (Rec))))).1) = es'))
 (h6 : ((((hear2M me mb (MsT.mk k ep fr wh tp rd bd) (s0Of es (MsT.mk k ep fr wh tp rd bd) ([] : List (Rec)) ([] : List (Rec))))).1).2 = ms'))
 (h7 : ((((hear2M me mb (MsT.mk k ep fr wh tp rd bd) (s0Of es (MsT.mk k ep fr wh tp rd bd) ([] : List (Rec)) ([] : List (Rec))))).1).3 = ts')) :
 ∃ ps, runO Try.prog DB (gIn true false) 100 Try.f15 (hbN me mb es, [.one (.ref 0 0), (MsT.mk k ep fr wh tp rd bd).a]) [] (.tup [.one (.own 2), .one (.own 3)]) (inB2 me mb es' ms' ts') = some ps ∧ AllQ ps := ⟨_, by kernel_rfl, qc (er me) (qc (er mb) (qc (er es) (qc h1 (qc (er k) (qc (er ep) (qc (er fr) (qc (er wh) (qc (er tp) (qc (er rd) (qc (er bd) (qc (er me) (qc (er mb) (qc (er es) (qc (er (([] : List (Rec)))) (qc (er (([] : List (Rec)))) (qc h2 (qc h3 (qc h4 (qc (er me) (qc (er mb) (qc h5 (qc h6 (qc h7 (qn))))))))))))))))))))))))⟩
theorem in_TT (me : Int) (mb : List Int) (es es' : List (Rec × Ob)) (k ep fr wh tp rd : Int) (bd : List Int) (ms' ts' : List Rec)
 (h1 : (mb ≠ ([] : List (Int))))
 (h2 : (Base7 (40000 : Nat) mb (MsT.mk k ep fr wh tp rd bd) (s0Of es (MsT.mk k ep fr wh tp rd bd) ([] : List (Rec)) ([] : List (Rec)))))
 (h3 : ((cntP mb (MsT.mk k ep fr wh tp rd bd)) ∧ (List.Mem me mb)))
 (h4 : (((hear2M me mb (MsT.mk k ep fr wh tp rd bd) (s0Of es (MsT.mk k ep fr wh tp rd bd) ([] : List (Rec)) ([] : List (Rec))))).2 = (true, true)))
 (h5 : ((esOf es (MsT.mk k ep fr wh tp rd bd) ((hear2M me mb (MsT.mk k ep fr wh tp rd bd) (s0Of es (MsT.mk k ep fr wh tp rd bd) ([] : List (Rec)) ([] : List (Rec))))).1) = es'))
 (h6 : ((((hear2M me mb (MsT.mk k ep fr wh tp rd bd) (s0Of es (MsT.mk k ep fr wh tp rd bd) ([] : List (Rec)) ([] : List (Rec))))).1).2 = ms'))
 (h7 : ((((hear2M me mb (MsT.mk k ep fr wh tp rd bd) (s0Of es (MsT.mk k ep fr wh tp rd bd) ([] : List (Rec)) ([] : List (Rec))))).1).3 = ts')) :
 ∃ ps, runO Try.prog DB (gIn true true) 100 Try.f15 (hbN me mb es, [.one (.ref 0 0), (MsT.mk k ep fr wh tp rd bd).a]) [] (.tup [.one (.own 2), .one (.own 3)]) (inB2 me mb es' ms' ts') = some ps ∧ AllQ ps := ⟨_, by kernel_rfl, qc (er me) (qc (er mb) (qc (er es) (qc h1 (qc (er k) (qc (er ep) (qc (er fr) (qc (er wh) (qc (er tp) (qc (er rd) (qc (er bd) (qc (er me) (qc (er mb) (qc (er es) (qc (er (([] : List (Rec)))) (qc (er (([] : List (Rec)))) (qc h2 (qc h3 (qc h4 (qc (er me) (qc (er mb) (qc h5 (qc h6 (qc h7 (qn))))))))))))))))))))))))⟩
noncomputable def gSa (p q : Bool) : Gam DB := [(22, .op [true] idleQ), (24, .fz clB7), (23, .op [true, false, true] (viaF convB (hear2Q p q)))]
theorem gSa_ok (p q : Bool) : GamOK Try.prog DB (gSa p q) := gam_op idle_ok (gam_fz clB7_ok (gam_op (viaB_ok (hear2_ok p q)) gam_nil))
abbrev sa_FF_x1 (me : Int) (mb : List Int) (es : List (Rec × Ob)) (tp : Int) (bd : List Int) := ((hear2M me mb (MsT.mk (1 : Int) (0 : Int) me me tp (0 : Int) bd) (s0Of es (MsT.mk (1 : Int) (0 : Int) me me tp (0 : Int) bd) [[(Fd.i (1 : Int)), (Fd.i (0 : Int)), (Fd.i me), (Fd.i me), (Fd.i tp), (Fd.i (0 : Int)), (Fd.w bd)]] ([] : List (Rec)))))
theorem sa_FF (me : Int) (mb : List Int) (es es' : List (Rec × Ob)) (tp : Int) (bd : List Int) (ms' ts' : List Rec)
 (h1 : (mb ≠ ([] : List (Int))))
 (h2 : ((List.length bd) ≤ (140737488355328 : Nat)))
 (h3 : (Base7 (40000 : Nat) mb (MsT.mk (1 : Int) (0 : Int) me me tp (0 : Int) bd) (s0Of es (MsT.mk (1 : Int) (0 : Int) me me tp (0 : Int) bd) [[(Fd.i (1 : Int)), (Fd.i (0 : Int)), (Fd.i me), (Fd.i me), (Fd.i tp), (Fd.i (0 : Int)), (Fd.w bd)]] ([] : List (Rec)))))
 (h4 : ((cntP mb (MsT.mk (1 : Int) (0 : Int) me me tp (0 : Int) bd)) ∧ (List.Mem me mb)))
 (h5 : ((sa_FF_x1 me mb es tp bd).2 = (false, false)))
 (h6 : ((esOf es (MsT.mk (1 : Int) (0 : Int) me me tp (0 : Int) bd) (sa_FF_x1 me mb es tp bd).1) = es'))
 (h7 : (((sa_FF_x1 me mb es tp bd).1).2 = ms'))
 (h8 : (((sa_FF_x1 me mb es tp bd).1).3 = ts')) :
 ∃ ps, runO Try.prog DB (gSa false false) 100 Try.f16 (hbN me mb es, [.one (.ref 0 0), .one (.int .i64 false tp), .one (.words .u8 bd)]) [] (.tup [.one (.own 2), .one (.own 3)]) (inB2 me mb es' ms' ts') = some ps ∧ AllQ ps := ⟨_, by kernel_rfl, qc (er me) (qc (er mb) (qc (er es) (qc h1 (qc h2 (qc (er ((1 : Int))) (qc (er ((0 : Int))) (qc (er me) (qc (er me) (qc (er tp) (qc (er ((0 : Int))) (qc (er bd) (qc (er me) (qc (er mb) (qc (er es) (qc (er ([[(Fd.i (1 : Int)), (Fd.i (0 : Int)), (Fd.i me), (Fd.i me), (Fd.i tp), (Fd.i (0 : Int)), (Fd.w bd)]])) (qc (er (([] : List (Rec)))) (qc h3 (qc h4 (qc h5 (qc (er me) (qc (er mb) (qc h6 (qc h7 (qc h8 (qn)))))))))))))))))))))))))⟩
abbrev sa_FT_x1 (me : Int) (mb : List Int) (es : List (Rec × Ob)) (tp : Int) (bd : List Int) := ((hear2M me mb (MsT.mk (1 : Int) (0 : Int) me me tp (0 : Int) bd) (s0Of es (MsT.mk (1 : Int) (0 : Int) me me tp (0 : Int) bd) [[(Fd.i (1 : Int)), (Fd.i (0 : Int)), (Fd.i me), (Fd.i me), (Fd.i tp), (Fd.i (0 : Int)), (Fd.w bd)]] ([] : List (Rec)))))
theorem sa_FT (me : Int) (mb : List Int) (es es' : List (Rec × Ob)) (tp : Int) (bd : List Int) (ms' ts' : List Rec)
 (h1 : (mb ≠ ([] : List (Int))))
 (h2 : ((List.length bd) ≤ (140737488355328 : Nat)))
 (h3 : (Base7 (40000 : Nat) mb (MsT.mk (1 : Int) (0 : Int) me me tp (0 : Int) bd) (s0Of es (MsT.mk (1 : Int) (0 : Int) me me tp (0 : Int) bd) [[(Fd.i (1 : Int)), (Fd.i (0 : Int)), (Fd.i me), (Fd.i me), (Fd.i tp), (Fd.i (0 : Int)), (Fd.w bd)]] ([] : List (Rec)))))
 (h4 : ((cntP mb (MsT.mk (1 : Int) (0 : Int) me me tp (0 : Int) bd)) ∧ (List.Mem me mb)))
 (h5 : ((sa_FT_x1 me mb es tp bd).2 = (false, true)))
 (h6 : ((esOf es (MsT.mk (1 : Int) (0 : Int) me me tp (0 : Int) bd) (sa_FT_x1 me mb es tp bd).1) = es'))
 (h7 : (((sa_FT_x1 me mb es tp bd).1).2 = ms'))
 (h8 : (((sa_FT_x1 me mb es tp bd).1).3 = ts')) :
 ∃ ps, runO Try.prog DB (gSa false true) 100 Try.f16 (hbN me mb es, [.one (.ref 0 0), .one (.int .i64 false tp), .one (.words .u8 bd)]) [] (.tup [.one (.own 2), .one (.own 3)]) (inB2 me mb es' ms' ts') = some ps ∧ AllQ ps := ⟨_, by kernel_rfl, qc (er me) (qc (er mb) (qc (er es) (qc h1 (qc h2 (qc (er ((1 : Int))) (qc (er ((0 : Int))) (qc (er me) (qc (er me) (qc (er tp) (qc (er ((0 : Int))) (qc (er bd) (qc (er me) (qc (er mb) (qc (er es) (qc (er ([[(Fd.i (1 : Int)), (Fd.i (0 : Int)), (Fd.i me), (Fd.i me), (Fd.i tp), (Fd.i (0 : Int)), (Fd.w bd)]])) (qc (er (([] : List (Rec)))) (qc h3 (qc h4 (qc h5 (qc (er me) (qc (er mb) (qc h6 (qc h7 (qc h8 (qn)))))))))))))))))))))))))⟩
abbrev sa_TF_x1 (me : Int) (mb : List Int) (es : List (Rec × Ob)) (tp : Int) (bd : List Int) := ((hear2M me mb (MsT.mk (1 : Int) (0 : Int) me me tp (0 : Int) bd) (s0Of es (MsT.mk (1 : Int) (0 : Int) me me tp (0 : Int) bd) [[(Fd.i (1 : Int)), (Fd.i (0 : Int)), (Fd.i me), (Fd.i me), (Fd.i tp), (Fd.i (0 : Int)), (Fd.w bd)]] ([] : List (Rec)))))
theorem sa_TF (me : Int) (mb : List Int) (es es' : List (Rec × Ob)) (tp : Int) (bd : List Int) (ms' ts' : List Rec)
 (h1 : (mb ≠ ([] : List (Int))))
 (h2 : ((List.length bd) ≤ (140737488355328 : Nat)))
 (h3 : (Base7 (40000 : Nat) mb (MsT.mk (1 : Int) (0 : Int) me me tp (0 : Int) bd) (s0Of es (MsT.mk (1 : Int) (0 : Int) me me tp (0 : Int) bd) [[(Fd.i (1 : Int)), (Fd.i (0 : Int)), (Fd.i me), (Fd.i me), (Fd.i tp), (Fd.i (0 : Int)), (Fd.w bd)]] ([] : List (Rec)))))
 (h4 : ((cntP mb (MsT.mk (1 : Int) (0 : Int) me me tp (0 : Int) bd)) ∧ (List.Mem me mb)))
 (h5 : ((sa_TF_x1 me mb es tp bd).2 = (true, false)))
 (h6 : ((esOf es (MsT.mk (1 : Int) (0 : Int) me me tp (0 : Int) bd) (sa_TF_x1 me mb es tp bd).1) = es'))
 (h7 : (((sa_TF_x1 me mb es tp bd).1).2 = ms'))
 (h8 : (((sa_TF_x1 me mb es tp bd).1).3 = ts')) :
 ∃ ps, runO Try.prog DB (gSa true false) 100 Try.f16 (hbN me mb es, [.one (.ref 0 0), .one (.int .i64 false tp), .one (.words .u8 bd)]) [] (.tup [.one (.own 2), .one (.own 3)]) (inB2 me mb es' ms' ts') = some ps ∧ AllQ ps := ⟨_, by kernel_rfl, qc (er me) (qc (er mb) (qc (er es) (qc h1 (qc h2 (qc (er ((1 : Int))) (qc (er ((0 : Int))) (qc (er me) (qc (er me) (qc (er tp) (qc (er ((0 : Int))) (qc (er bd) (qc (er me) (qc (er mb) (qc (er es) (qc (er ([[(Fd.i (1 : Int)), (Fd.i (0 : Int)), (Fd.i me), (Fd.i me), (Fd.i tp), (Fd.i (0 : Int)), (Fd.w bd)]])) (qc (er (([] : List (Rec)))) (qc h3 (qc h4 (qc h5 (qc (er me) (qc (er mb) (qc h6 (qc h7 (qc h8 (qn)))))))))))))))))))))))))⟩
abbrev sa_TT_x1 (me : Int) (mb : List Int) (es : List (Rec × Ob)) (tp : Int) (bd : List Int) := ((hear2M me mb (MsT.mk (1 : Int) (0 : Int) me me tp (0 : Int) bd) (s0Of es (MsT.mk (1 : Int) (0 : Int) me me tp (0 : Int) bd) [[(Fd.i (1 : Int)), (Fd.i (0 : Int)), (Fd.i me), (Fd.i me), (Fd.i tp), (Fd.i (0 : Int)), (Fd.w bd)]] ([] : List (Rec)))))
theorem sa_TT (me : Int) (mb : List Int) (es es' : List (Rec × Ob)) (tp : Int) (bd : List Int) (ms' ts' : List Rec)
 (h1 : (mb ≠ ([] : List (Int))))
 (h2 : ((List.length bd) ≤ (140737488355328 : Nat)))
 (h3 : (Base7 (40000 : Nat) mb (MsT.mk (1 : Int) (0 : Int) me me tp (0 : Int) bd) (s0Of es (MsT.mk (1 : Int) (0 : Int) me me tp (0 : Int) bd) [[(Fd.i (1 : Int)), (Fd.i (0 : Int)), (Fd.i me), (Fd.i me), (Fd.i tp), (Fd.i (0 : Int)), (Fd.w bd)]] ([] : List (Rec)))))
 (h4 : ((cntP mb (MsT.mk (1 : Int) (0 : Int) me me tp (0 : Int) bd)) ∧ (List.Mem me mb)))
 (h5 : ((sa_TT_x1 me mb es tp bd).2 = (true, true)))
 (h6 : ((esOf es (MsT.mk (1 : Int) (0 : Int) me me tp (0 : Int) bd) (sa_TT_x1 me mb es tp bd).1) = es'))
 (h7 : (((sa_TT_x1 me mb es tp bd).1).2 = ms'))
 (h8 : (((sa_TT_x1 me mb es tp bd).1).3 = ts')) :
 ∃ ps, runO Try.prog DB (gSa true true) 100 Try.f16 (hbN me mb es, [.one (.ref 0 0), .one (.int .i64 false tp), .one (.words .u8 bd)]) [] (.tup [.one (.own 2), .one (.own 3)]) (inB2 me mb es' ms' ts') = some ps ∧ AllQ ps := ⟨_, by kernel_rfl, qc (er me) (qc (er mb) (qc (er es) (qc h1 (qc h2 (qc (er ((1 : Int))) (qc (er ((0 : Int))) (qc (er me) (qc (er me) (qc (er tp) (qc (er ((0 : Int))) (qc (er bd) (qc (er me) (qc (er mb) (qc (er es) (qc (er ([[(Fd.i (1 : Int)), (Fd.i (0 : Int)), (Fd.i me), (Fd.i me), (Fd.i tp), (Fd.i (0 : Int)), (Fd.w bd)]])) (qc (er (([] : List (Rec)))) (qc h3 (qc h4 (qc h5 (qc (er me) (qc (er mb) (qc h6 (qc h7 (qc h8 (qn)))))))))))))))))))))))))⟩
noncomputable def gNw : Gam DB := [(20, .fn contains7D), (21, .fz clI7)]
theorem gNw_ok : GamOK Try.prog DB gNw := gam_cons contains7_ok (gam_fz clI7_ok gam_nil)
def nwSn (me : Int) (mb : List Int) (a k : Int) : Sn DB.τ where
  slots := [(0, .v (.one (.int .i64 false me))), (1, .v (.one (.words .i64 mb))), (5, .v (.one (.int .i64 false a))), (8, .v (.one (.words .i64 mb))), (9, .v (.one (.int .i64 false mb.length))), (10, .v (.one (.int .i64 false k)))]
  boxes := []
  nt := 33
def nwEd (me : Int) (mb : List Int) : Sn DB.τ where
  slots := [(0, .v (.one (.int .i64 false me))), (1, .v (.one (.words .i64 mb)))]
  boxes := []
  nt := 33
theorem nw_step (me : Int) (mb : List Int) (a a' k k' : Int)
 (h1 : ((decide (k < (((List.length mb) : Nat) : Int))) = true))
 (h2 : ((0 : Int) ≤ k))
 (h3 : (k < (((List.length mb) : Nat) : Int)))
 (h4 : ((decide ((List.getD mb (Int.toNat k) (0 : Int)) ≤ a)) = false))
 (h5 : ((decide ((List.getD mb (Int.toNat k) (0 : Int)) > (9 : Int))) = false))
 (h6 : (InI64 (k + (1 : Int))))
 (h7 : ((List.getD mb (Int.toNat k) (0 : Int)) = a'))
 (h8 : ((k + (1 : Int)) = k')) :
 ∃ ps, stepPs Try.prog DB gNw 100 (bodyN Try.f12 0) 100 (nwSn me mb a k).st [.is true, .is false, .is false] .normal (nwSn me mb a' k') = some ps ∧ AllQ ps := ⟨_, by kernel_rfl, qc h1 (qc h2 (qc h3 (qc h4 (qc h5 (qc h6 (qc (er me) (qc (er mb) (qc h7 (qc (er mb) (qc (er ((((List.length mb) : Nat) : Int))) (qc h8 (qn))))))))))))⟩
theorem nw_exit (me : Int) (mb : List Int) (a k : Int)
 (h1 : ((decide (k < (((List.length mb) : Nat) : Int))) = false)) :
 ∃ ps, stepPs Try.prog DB gNw 100 (bodyN Try.f12 0) 100 (nwSn me mb a k).st [.is false] (.exit 0) (nwEd me mb) = some ps ∧ AllQ ps := ⟨_, by kernel_rfl, qc h1 (qc (er me) (qc (er mb) (qn)))⟩
theorem nw_run (me : Int) (mb : List Int)
 (h1 : SumOK Try.prog DB (bodyN Try.f12 0) (loopL DB (nwSn me mb 0 (0 : Nat)) (.exit 0) (nwEd me mb)))
 (h2 : ((decide ((0 : Int) ≤ (idxF mb me))) = true))
 (h3 : ((List.length mb) ≤ (1000 : Nat)))
 (h4 : ((List.length mb) ≤ (17592186044416 : Nat))) :
 ∃ ps, runO Try.prog DB gNw 100 Try.f12 ([], [.one (.int .i64 false me), .one (.words .i64 mb)]) [.loop (loopL DB (nwSn me mb 0 (0 : Nat)) (.exit 0) (nwEd me mb)), .is true] (.v (.one (.ref 0 0))) (hbN me mb []) = some ps ∧ AllQ ps := ⟨_, by kernel_rfl, qc h1 (qc (er me) (qc (er mb) (qc (er ((0 : Int))) (qc (er mb) (qc (er ((((List.length mb) : Nat) : Int))) (qc (show ((0 : Int) = (((0 : Nat) : Nat) : Int)) from by decide) (qc h2 (qc h3 (qc h4 (qc (er me) (qc (er mb) (qc (er (([] : List (Rec × Ob)))) (qn)))))))))))))⟩
def EsOK (n : Nat) (es : List (Rec × Ob)) : Prop := ∀ key, ((ofT es key).ee.length ≤ n ∧ ∀ e ∈ (ofT es key).ee, InB (recW e.2.r 0)) ∧ ((ofT es key).rr.length ≤ n ∧ ∀ e ∈ (ofT es key).rr, InB (recW e.2.r 0))
def HbOK (me : Int) (mb : List Int) : Prop := mb ≠ [] ∧ mb.length ≤ 1000 ∧ me ∈ mb
def inM (me : Int) (mb : List Int) (es : List (Rec × Ob)) (m : MsT) : List (Rec × Ob) × List Rec × List Rec :=
  if cntP mb m then (esOf es m (hear2M me mb m (s0Of es m [] [])).1, (hear2M me mb m (s0Of es m [] [])).1.ms, (hear2M me mb m (s0Of es m [] [])).1.ts) else (es, [], [])
theorem inM_yes {me : Int} {mb : List Int} {es : List (Rec × Ob)} {m : MsT} (h : cntP mb m) : inM me mb es m = (esOf es m (hear2M me mb m (s0Of es m [] [])).1, (hear2M me mb m (s0Of es m [] [])).1.ms, (hear2M me mb m (s0Of es m [] [])).1.ts) := if_pos h
theorem inM_no {me : Int} {mb : List Int} {es : List (Rec × Ob)} {m : MsT} (h : ¬ cntP mb m) : inM me mb es m = (es, [], []) := if_neg h
theorem base_of {n : Nat} {me : Int} {mb : List Int} {es : List (Rec × Ob)} {m : MsT} {ms ts : List Rec} (h : HbOK me mb) (he : EsOK n es) (hb : InB m.bd) (hl : m.bd.length ≤ 4096) (hm : ms.length ≤ n) (ht : ts.length ≤ n) : Base7 n mb m (s0Of es m ms ts) :=
  ⟨h.1, h.2.1, (he m.key).1, (he m.key).2, hb, hl, hm, ht⟩
noncomputable def inQ := mkF DB Try.f15.ntmps (fun bs xs => (hmRd bs xs).bind nOnly) (fun t => (hbN t.1.1 t.1.2.1 t.1.2.2, [.one (.ref 0 0), t.2.a]))
  (fun t => some (.tup [.one (.own 2), .one (.own 3)], inB2 t.1.1 t.1.2.1 (inM t.1.1 t.1.2.1 t.1.2.2 t.2).1 (inM t.1.1 t.1.2.1 t.1.2.2 t.2).2.1 (inM t.1.1 t.1.2.1 t.1.2.2 t.2).2.2, [HbOK t.1.1 t.1.2.1, EsOK 30000 t.1.2.2, InB t.2.bd]))
theorem in_ok : OpOK Try.prog DB 15 inQ := by
  refine opOK_mkG mixed Try.func15 (enters_of Try.func15 (by kernel_rfl) rfl) ?_
  rintro ⟨⟨me, mb, es⟩, ⟨k, ep, fr, wh, tp, rd, bd⟩⟩ r' bs' ps h hps
  simp only [Option.some.injEq, Prod.mk.injEq] at h
  obtain ⟨rfl, rfl, rfl⟩ := h
  have hh : HbOK me mb := hps (HbOK me mb) (by simp)
  have he : EsOK 30000 es := hps (EsOK 30000 es) (by simp)
  have hb : InB bd := hps (InB bd) (by simp)
  simp only
  by_cases hc : cntP mb ⟨k, ep, fr, wh, tp, rd, bd⟩
  · rw [inM_yes hc]
    have hba := (base_of (m := ⟨k, ep, fr, wh, tp, rd, bd⟩) (ms := []) (ts := []) hh he hb hc.2.2.2.1 (Nat.zero_le _) (Nat.zero_le _)).mono (show 30000 ≤ 40000 by decide)
    cases p1 : (hear2M me mb ⟨k, ep, fr, wh, tp, rd, bd⟩ (s0Of es ⟨k, ep, fr, wh, tp, rd, bd⟩ [] [])).2.1 <;> cases q1 : (hear2M me mb ⟨k, ep, fr, wh, tp, rd, bd⟩ (s0Of es ⟨k, ep, fr, wh, tp, rd, bd⟩ [] [])).2.2
    · exact ⟨_, _, _, gIn_ok false false, in_FF me mb es _ k ep fr wh tp rd bd _ _ hh.1 hba ⟨hc, hh.2.2⟩ (Prod.ext p1 q1) rfl rfl rfl⟩
    · exact ⟨_, _, _, gIn_ok false true, in_FT me mb es _ k ep fr wh tp rd bd _ _ hh.1 hba ⟨hc, hh.2.2⟩ (Prod.ext p1 q1) rfl rfl rfl⟩
    · exact ⟨_, _, _, gIn_ok true false, in_TF me mb es _ k ep fr wh tp rd bd _ _ hh.1 hba ⟨hc, hh.2.2⟩ (Prod.ext p1 q1) rfl rfl rfl⟩
    · exact ⟨_, _, _, gIn_ok true true, in_TT me mb es _ k ep fr wh tp rd bd _ _ hh.1 hba ⟨hc, hh.2.2⟩ (Prod.ext p1 q1) rfl rfl rfl⟩
  · rw [inM_no hc]
    exact ⟨_, _, _, gInN_ok, in_n me mb es _ k ep fr wh tp rd bd _ _ hh.1 hh.2.1 hc rfl rfl rfl⟩
def initM (me tp : Int) (bd : List Int) : MsT := ⟨1, 0, me, me, tp, 0, bd⟩
def sayHM (me : Int) (mb : List Int) (es : List (Rec × Ob)) (tp : Int) (bd : List Int) : List (Rec × Ob) × List Rec × List Rec :=
  (esOf es (initM me tp bd) (hear2M me mb (initM me tp bd) (s0Of es (initM me tp bd) [(initM me tp bd).r] [])).1, (hear2M me mb (initM me tp bd) (s0Of es (initM me tp bd) [(initM me tp bd).r] [])).1.ms, (hear2M me mb (initM me tp bd) (s0Of es (initM me tp bd) [(initM me tp bd).r] [])).1.ts)
def saRd (bs : List (BoxSt DB.τ)) : List (A0 DB.τ) → Option ((Int × List Int × List (Rec × Ob)) × Int × List Int)
  | [.one (.ref 0 0), .one (.int .i64 _ tp), .one (.words .u8 bd)] => match hbRd bs with
    | some (me, mb, es, none) => some ((me, mb, es), tp, bd)
    | _ => none
  | _ => none
noncomputable def sayHQ := mkF DB Try.f16.ntmps saRd (fun t => (hbN t.1.1 t.1.2.1 t.1.2.2, [.one (.ref 0 0), .one (.int .i64 false t.2.1), .one (.words .u8 t.2.2)]))
  (fun t => some (.tup [.one (.own 2), .one (.own 3)], inB2 t.1.1 t.1.2.1 (sayHM t.1.1 t.1.2.1 t.1.2.2 t.2.1 t.2.2).1 (sayHM t.1.1 t.1.2.1 t.1.2.2 t.2.1 t.2.2).2.1 (sayHM t.1.1 t.1.2.1 t.1.2.2 t.2.1 t.2.2).2.2, [HbOK t.1.1 t.1.2.1, EsOK 30000 t.1.2.2, InB t.2.2, (1 ≤ t.2.1 ∧ t.2.1 ≤ 3) ∧ t.2.2.length ≤ 4096]))
theorem sayH_ok : OpOK Try.prog DB 16 sayHQ := by
  refine opOK_mkG mixed Try.func16 (enters_of Try.func16 (by kernel_rfl) rfl) ?_
  rintro ⟨⟨me, mb, es⟩, tp, bd⟩ r' bs' ps h hps
  simp only [Option.some.injEq, Prod.mk.injEq] at h
  obtain ⟨rfl, rfl, rfl⟩ := h
  have hh : HbOK me mb := hps (HbOK me mb) (by simp)
  have he : EsOK 30000 es := hps (EsOK 30000 es) (by simp)
  have hb : InB bd := hps (InB bd) (by simp)
  obtain ⟨⟨ht1, ht2⟩, hl⟩ : (1 ≤ tp ∧ tp ≤ 3) ∧ bd.length ≤ 4096 := hps ((1 ≤ tp ∧ tp ≤ 3) ∧ bd.length ≤ 4096) (by simp)
  have hc : cntP mb (initM me tp bd) := ⟨Or.inl rfl, ht1, ht2, hl, hh.2.2, hh.2.2⟩
  have hba := (base_of (m := initM me tp bd) (ms := [(initM me tp bd).r]) (ts := []) hh he hb hl (show 1 ≤ 30000 by decide) (Nat.zero_le _)).mono (show 30000 ≤ 40000 by decide)
  simp only
  unfold sayHM
  cases p1 : (hear2M me mb (initM me tp bd) (s0Of es (initM me tp bd) [(initM me tp bd).r] [])).2.1 <;> cases q1 : (hear2M me mb (initM me tp bd) (s0Of es (initM me tp bd) [(initM me tp bd).r] [])).2.2
  · exact ⟨_, _, _, gSa_ok false false, sa_FF me mb es _ tp bd _ _ hh.1 (by omega) hba ⟨hc, hh.2.2⟩ (Prod.ext p1 q1) rfl rfl rfl⟩
  · exact ⟨_, _, _, gSa_ok false true, sa_FT me mb es _ tp bd _ _ hh.1 (by omega) hba ⟨hc, hh.2.2⟩ (Prod.ext p1 q1) rfl rfl rfl⟩
  · exact ⟨_, _, _, gSa_ok true false, sa_TF me mb es _ tp bd _ _ hh.1 (by omega) hba ⟨hc, hh.2.2⟩ (Prod.ext p1 q1) rfl rfl rfl⟩
  · exact ⟨_, _, _, gSa_ok true true, sa_TT me mb es _ tp bd _ _ hh.1 (by omega) hba ⟨hc, hh.2.2⟩ (Prod.ext p1 q1) rfl rfl rfl⟩
def MbOK (mb : List Int) : Prop := mb.length ≤ 9 ∧ ∀ k, k < mb.length → (if k = 0 then 0 else mb.getD (k - 1) 0) < mb.getD k 0 ∧ mb.getD k 0 ≤ 9
noncomputable def newHQ := mkF DB Try.f12.ntmps (fun bs xs => match bs, xs with | [], [.one (.int .i64 _ me), .one (.words .i64 mb)] => some (me, mb) | _, _ => none) (fun t => ([], [.one (.int .i64 false t.1), .one (.words .i64 t.2)])) (fun t => some (.v (.one (.ref 0 0)), hbN t.1 t.2 [], [MbOK t.2, t.1 ∈ t.2]))
theorem newH_ok : OpOK Try.prog DB 12 newHQ := by
  refine opOK_mkG mixed Try.func12 (enters_of Try.func12 (by kernel_rfl) rfl) ?_
  rintro ⟨me, mb⟩ r' bs' ps h hps
  simp only [Option.some.injEq, Prod.mk.injEq] at h
  obtain ⟨rfl, rfl, rfl⟩ := h
  obtain ⟨hl, hm⟩ : MbOK mb := hps (MbOK mb) (by simp)
  have hme : me ∈ mb := hps (me ∈ mb) (by simp)
  refine ⟨_, _, _, gNw_ok, nw_run me mb ?_ (ix1 hme) (by omega) (by omega)⟩
  refine sum_loop gNw_ok mixed (c := bodyN Try.f12 0) (fun k => nwSn me mb (if k = 0 then 0 else mb.getD (k - 1) 0) (k : Nat)) mb.length (e := .exit 0) (s := nwEd me mb) rfl (fun k hk => ?_) ⟨_, _, _, nw_exit me mb _ _ (decide_eq_false (by omega))⟩
  obtain ⟨h1, h2⟩ := hm k hk
  exact ⟨_, _, _, nw_step me mb _ _ k _ (decide_eq_true (by omega)) (by omega) (by omega) (decide_eq_false (by rw [Int.toNat_natCast]; omega)) (decide_eq_false (by rw [Int.toNat_natCast]; omega)) ⟨by omega, by omega⟩ (by rw [Int.toNat_natCast, if_neg (Nat.succ_ne_zero k), Nat.add_sub_cancel]) rfl⟩
end Go.Num
namespace Go.Num
open Go.Abs Go.Proofs Go.Shelf Go.RowKit
noncomputable def gHd : Gam DB := [(12, .op [false, false] newHQ), (16, .op [true, false, false] sayHQ), (17, .op [true] mostQ)]
theorem gHd_ok : GamOK Try.prog DB gHd := gam_op newH_ok (gam_op sayH_ok (gam_op most_ok gam_nil))
theorem hd_run
 (h1 : (MbOK ([(3 : Int)] : List Int)))
 (h2 : (List.Mem (3 : Int) ([(3 : Int)] : List Int)))
 (h3 : (HbOK (3 : Int) ([(3 : Int)] : List Int)))
 (h4 : (EsOK (30000 : Nat) ([] : List (Rec × Ob))))
 (h5 : (InB ([(97 : Int)] : List Int)))
 (h6 : (((((List.length (((sayHM (3 : Int) ([(3 : Int)] : List Int) ([] : List (Rec × Ob)) (1 : Int) ([(97 : Int)] : List Int))).2).1) : Nat) : Int) == (3 : Int)) = true))
 (h7 : ((0 : Int) < (((List.length (((sayHM (3 : Int) ([(3 : Int)] : List Int) ([] : List (Rec × Ob)) (1 : Int) ([(97 : Int)] : List Int))).2).1) : Nat) : Int)))
 (h8 : ((0 : Nat) < (List.length (((sayHM (3 : Int) ([(3 : Int)] : List Int) ([] : List (Rec × Ob)) (1 : Int) ([(97 : Int)] : List Int))).2).1)))
 (h9 : (((recI (List.getD (((sayHM (3 : Int) ([(3 : Int)] : List Int) ([] : List (Rec × Ob)) (1 : Int) ([(97 : Int)] : List Int))).2).1 (0 : Nat) ([] : List (Abs.Fd))) (0 : Nat)) == (1 : Int)) = true))
 (h10 : ((2 : Int) < (((List.length (((sayHM (3 : Int) ([(3 : Int)] : List Int) ([] : List (Rec × Ob)) (1 : Int) ([(97 : Int)] : List Int))).2).1) : Nat) : Int)))
 (h11 : ((2 : Nat) < (List.length (((sayHM (3 : Int) ([(3 : Int)] : List Int) ([] : List (Rec × Ob)) (1 : Int) ([(97 : Int)] : List Int))).2).1)))
 (h12 : (((recI (List.getD (((sayHM (3 : Int) ([(3 : Int)] : List Int) ([] : List (Rec × Ob)) (1 : Int) ([(97 : Int)] : List Int))).2).1 (2 : Nat) ([] : List (Abs.Fd))) (0 : Nat)) == (3 : Int)) = true))
 (h13 : (((((List.length (((sayHM (3 : Int) ([(3 : Int)] : List Int) ([] : List (Rec × Ob)) (1 : Int) ([(97 : Int)] : List Int))).2).2) : Nat) : Int) == (1 : Int)) = true))
 (h14 : ((0 : Int) < (((List.length (((sayHM (3 : Int) ([(3 : Int)] : List Int) ([] : List (Rec × Ob)) (1 : Int) ([(97 : Int)] : List Int))).2).2) : Nat) : Int)))
 (h15 : ((0 : Nat) < (List.length (((sayHM (3 : Int) ([(3 : Int)] : List Int) ([] : List (Rec × Ob)) (1 : Int) ([(97 : Int)] : List Int))).2).2)))
 (h16 : (((recI (List.getD (((sayHM (3 : Int) ([(3 : Int)] : List Int) ([] : List (Rec × Ob)) (1 : Int) ([(97 : Int)] : List Int))).2).2 (0 : Nat) ([] : List (Abs.Fd))) ((0 : Nat) + (1 : Nat))) == (3 : Int)) = true))
 (h17 : ((decide ((ByteArray.mk (Array.mk [(UInt8.ofBitVec (BitVec.ofFin (Fin.mk ((97 : Nat) % ((2 : Nat) ^ (8 : Nat))) (by decide))))])) = (⟨#[97]⟩ : ByteArray))) = true))
 (h18 : (MbOK ([(1 : Int), (2 : Int), (3 : Int), (4 : Int)] : List Int)))
 (h19 : (List.Mem (1 : Int) ([(1 : Int), (2 : Int), (3 : Int), (4 : Int)] : List Int)))
 (h20 : (((fF ([(1 : Int), (2 : Int), (3 : Int), (4 : Int)] : List Int)) == (1 : Int)) = true)) :
 ∃ ps, runF Try.prog DB gHd 100 Try.f6 [] [.is true, .is true, .is true, .is true, .is true, .is true, .is true] = some ((AV.v (A0.one (Part.bool true true))), ps) ∧ AllQ ps := ⟨_, by kernel_rfl, qc (er ((3 : Int))) (qc (er (([(3 : Int)] : List Int))) (qc h1 (qc h2 (qc (show ((0 : Nat) < (1 : Nat)) from by decide) (qc (er ((1 : Int))) (qc (er (([(97 : Int)] : List Int))) (qc (er ((3 : Int))) (qc (er (([(3 : Int)] : List Int))) (qc (er (([] : List (Rec × Ob)))) (qc h3 (qc h4 (qc h5 (qc (show ((((1 : Int) ≤ (1 : Int)) ∧ ((1 : Int) ≤ (3 : Int))) ∧ ((1 : Nat) ≤ (4096 : Nat))) from by decide) (qc h6 (qc (show ((0 : Int) ≤ (0 : Int)) from by decide) (qc h7 (qc h8 (qc h9 (qc (show ((0 : Int) ≤ (2 : Int)) from by decide) (qc h10 (qc h11 (qc h12 (qc h13 (qc (show ((0 : Int) ≤ (0 : Int)) from by decide) (qc h14 (qc h15 (qc h16 (qc (show ((0 : Int) ≤ (0 : Int)) from by decide) (qc h14 (qc h15 (qc h17 (qc (er ((1 : Int))) (qc (er (([(1 : Int), (2 : Int), (3 : Int), (4 : Int)] : List Int))) (qc h18 (qc h19 (qc (er ((1 : Int))) (qc (er (([(1 : Int), (2 : Int), (3 : Int), (4 : Int)] : List Int))) (qc (er (([] : List (Rec × Ob)))) (qc (show ((([(1 : Int), (2 : Int), (3 : Int), (4 : Int)] : List Int) ≠ ([] : List (Int))) ∧ ((4 : Nat) ≤ (1000 : Nat))) from by decide) (qc h20 (qn)))))))))))))))))))))))))))))))))))))))))⟩
def MsT.p (m : MsT) : List (Part DB.τ) := [.int .i64 false m.k, .int .i64 false m.ep, .int .i64 false m.fr, .int .i64 false m.wh, .int .i64 false m.tp, .int .i64 false m.rd, .pw .u8 m.bd]
noncomputable def gCy : Gam DB := [(18, .fz (copyD DB))]
theorem gCy_ok : GamOK Try.prog DB gCy := gam_fz (copy_ok DB) gam_nil
theorem cy_run (m m' : MsT)
 (h1 : ((List.length (m).7) ≤ (281474976710656 : Nat)))
 (h2 : ((m).1 = (m').1))
 (h3 : ((m).2 = (m').2))
 (h4 : ((m).3 = (m').3))
 (h5 : ((m).4 = (m').4))
 (h6 : ((m).5 = (m').5))
 (h7 : ((m).6 = (m').6))
 (h8 : ((m).7 = (m').7)) :
 ∃ ps, runO Try.prog DB gCy 100 Try.f13 ([], [m.a]) [] (.v (.agg m'.p)) [] = some ps ∧ AllQ ps := ⟨_, by kernel_rfl, qc h1 (qc h2 (qc h3 (qc h4 (qc h5 (qc h6 (qc h7 (qc h8 (qn))))))))⟩
noncomputable def copy16R := mkF DB Try.f13.ntmps (fun bs xs => match bs, xs with | [], [x] => msRd x | _, _ => none) (fun m => ([], [m.a])) (fun m => some (.v (.agg m.p), [], [m.bd.length ≤ 281474976710656]))
def headBD : FnD DB
  | [] => some (.v (.one (.bool true true)), [])
  | _ => none
def rowI (l : List Int) : BoxSt DB.τ := .dyn 3 (.ints .i64 l)
end Go.Num
namespace Go.Num
open Go.Abs Go.Proofs Go.Shelf Go.RowKit
theorem copy16_ok : OpOK Try.prog DB 13 (withNew copy16R) := by
  refine opOK_mkR mixed Try.func13 (enters_of Try.func13 (by kernel_rfl) rfl) (fun bs xs t h => by
    split at h
    · rfl
    · cases h) ?_
  rintro m r' ns ps h hps
  simp only [Option.some.injEq, Prod.mk.injEq] at h
  obtain ⟨rfl, rfl, rfl⟩ := h
  exact ⟨_, _, _, gCy_ok, cy_run m m (hps (m.bd.length ≤ 281474976710656) (by simp)) rfl rfl rfl rfl rfl rfl rfl⟩
theorem es_nil : EsOK 30000 [] := fun key => ⟨⟨Nat.zero_le _, fun e h => by cases h⟩, ⟨Nat.zero_le _, fun e h => by cases h⟩⟩
theorem mb_3 : MbOK [3] := ⟨by decide, fun k hk => by
  have : k = 0 := by simp at hk; exact hk
  subst this
  decide⟩
theorem mb_4 : MbOK [1, 2, 3, 4] := ⟨by decide, fun k hk => by
  have : k = 0 ∨ k = 1 ∨ k = 2 ∨ k = 3 := by simp at hk; omega
  rcases this with rfl | rfl | rfl | rfl <;> decide⟩
theorem headB_ok : FnOK Try.prog DB 6 headBD := by
  refine fnOK_of gHd_ok mixed Try.func6 (enters_of Try.func6 (by kernel_rfl) rfl) ?_
  intro xs r ps h hps
  unfold headBD at h
  split at h
  · simp only [Option.some.injEq, Prod.mk.injEq] at h
    obtain ⟨rfl, rfl⟩ := h
    obtain ⟨ps, p1, p2⟩ := hd_run mb_3 (List.mem_cons_self ..) ⟨by decide, by decide, List.mem_cons_self ..⟩ es_nil (fun a ha => by simp at ha; subst ha; decide) (by kernel_rfl) (by decide) (by decide) (by kernel_rfl) (by decide) (by decide) (by kernel_rfl) (by kernel_rfl) (by decide) (by decide) (by kernel_rfl) (by decide) mb_4 (List.mem_cons_self ..) (by decide)
    exact ⟨[], 100, _, _, _, fun w vs h => h, p1, p2, fun E v hv => hv⟩
  · cases h
theorem tkOf_ob (key : Rec) (t : TkT) (h : t.key = key) : tkOf key t.ob = t := by
  subst h
  rfl
theorem ofT_esOf {es : List (Rec × Ob)} {m : MsT} {s : S7} (hs : s.t.key = m.key) (key : Rec) : ofT (esOf es m s) key = if key = m.key then s.t else ofT es key := by
  unfold esOf
  unfold ofT
  rw [hasE_set, obE_set]
  by_cases hk : key = m.key
  · rw [if_pos hk, if_pos (by simp [hk]), if_pos hk]
    exact tkOf_ob key s.t (hs.trans hk.symm)
  · rw [if_neg hk, if_neg hk, decide_eq_false hk, Bool.false_or]
    cases hh : hasE es m.key
    · have e : ofE es m.key = setE es m.key (tkOb false false false [] []) := by unfold ofE; rw [hh]; rfl
      rw [e, hasE_set, obE_set, if_neg hk, decide_eq_false hk, Bool.false_or]
    · have e : ofE es m.key = es := by unfold ofE; rw [hh]; rfl
      rw [e]
def blankT (key : Rec) : TkT := ⟨key, false, false, false, [], []⟩
def Blank (es : List (Rec × Ob)) : Prop := ∀ key, ofT es key = blankT key
theorem Blank.es {es : List (Rec × Ob)} (h : Blank es) : EsOK 30000 es := fun key => by
  rw [h key]
  exact ⟨⟨Nat.zero_le _, fun e h => by cases h⟩, ⟨Nat.zero_le _, fun e h => by cases h⟩⟩
def minded (l : List Int) (m : MsT) : Prop := cntP l m ∧ (m.k = 1 → m.fr = m.wh)
theorem cntF_nil (bd : List Int) : cntF [] bd = 0 := rfl
theorem half_nat {mb : List Int} (h0 : mb ≠ []) : halfF mb = (((mb.length + (mb.length - 1) / 3) / 2 : Nat) : Int) := by
  unfold halfF
  rw [fF_nat h0, show (2 : Int) = ((2 : Nat) : Int) from rfl, ← Int.natCast_add, ← Int.ofNat_tdiv]
def mbN (n : Nat) : List Int := (List.range n).map fun (i : Nat) => (i : Int) + 1
theorem mbN_len (n : Nat) : (mbN n).length = n := by unfold mbN; rw [List.length_map, List.length_range]
theorem mbN_snoc (n : Nat) : mbN (n + 1) = mbN n ++ [(n : Int) + 1] := by unfold mbN; rw [List.range_succ, List.map_append]; rfl
theorem mbN_get {n k : Nat} (h : k < n) : (mbN n).getD k 0 = (k : Int) + 1 := by
  unfold mbN
  rw [List.getD_eq_getElem?_getD, List.getElem?_map, List.getElem?_range h]
  rfl
theorem mbN_mem {n : Nat} {x : Int} : x ∈ mbN n ↔ 1 ≤ x ∧ x ≤ n := by
  unfold mbN
  rw [List.mem_map]
  constructor
  · rintro ⟨a, ha, rfl⟩
    have := List.mem_range.1 ha
    omega
  · rintro ⟨h1, h2⟩
    exact ⟨(x - 1).toNat, List.mem_range.2 (by omega), by omega⟩
theorem mbN_ok {n : Nat} (h : n ≤ 9) : MbOK (mbN n) := by
  refine ⟨by rw [mbN_len]; exact h, fun k hk => ?_⟩
  rw [mbN_len] at hk
  rw [mbN_get hk]
  by_cases h0 : k = 0
  · rw [if_pos h0]; omega
  · rw [if_neg h0, mbN_get (by omega)]; omega
theorem mbN_hb {n : Nat} {me : Int} (h : n ≤ 9) (h1 : 1 ≤ me ∧ me ≤ n) : HbOK me (mbN n) := ⟨fun e => by have := mbN_len n; rw [e] at this; simp at this; omega, by rw [mbN_len]; omega, mbN_mem.2 h1⟩
def msOf (r : Rec) : MsT := ⟨recI r 0, recI r 1, recI r 2, recI r 3, recI r 4, recI r 5, recW r 6⟩
structure MsIn (r : Rec) : Prop where
  bd : InB (recW r 6)
  bl : (recW r 6).length ≤ 140737488355328
instance (l : List Int) (m : MsT) : Decidable (minded l m) := by unfold minded; infer_instance
theorem bits_1023 (n : Int) : 0 ≤ bitsOf .and .i64 n 1023 ∧ bitsOf .and .i64 n 1023 ≤ 1023 := by
  have h1 : (BitVec.ofInt 64 n &&& BitVec.ofInt 64 1023).toNat ≤ 1023 := by
    rw [BitVec.toNat_and]
    exact Nat.le_trans Nat.and_le_right (by decide)
  have h2 : bitsOf .and .i64 n 1023 = (((BitVec.ofInt 64 n &&& BitVec.ofInt 64 1023).toNat : Nat) : Int) := by
    show IntKind.i64.wrap (((BitVec.ofInt 64 n &&& BitVec.ofInt 64 1023).toNat : Nat) : Int) = _
    rw [IntKind.wrap_i64]
    omega
  rw [h2]
  omega
end Go.Num
namespace Go.Num
open Go.Abs Go.Proofs Go.Shelf Go.RowKit
def lSh : List FK := .int .i64 :: mSh
def tdSh : List FK := [.words .u8]
def netX (n g : Int) (hb ml : Part DB.τ) (td : List (List Rec)) : BoxSt DB.τ := .fixed 35 [.int .i64 false n, .int .i64 false g, hb, ml, .prss tdSh 400 td]
def mlX (ml : List Rec) : BoxSt DB.τ := .dyn 61 (.lrs lSh ml)
noncomputable def gBd : Gam DB := [(12, .op [false, false] newHQ)]
theorem gBd_ok : GamOK Try.prog DB gBd := gam_op newH_ok gam_nil
def bmSn (n : Int) (l : List Int) (i : Int) : Sn DB.τ where
  slots := [(0, .v (.one (.int .i64 false n))), (3, .v (.one (.own 0))), (4, .v (.one (.int .i64 false i)))]
  boxes := [(0, rowI l)]
  nt := 46
def bmEd (n : Int) (l : List Int) : Sn DB.τ where
  slots := [(0, .v (.one (.int .i64 false n))), (3, .v (.one (.own 0)))]
  boxes := [(0, rowI l)]
  nt := 46
def bh0 (n g : Int) (l : List Int) (td : List (List Rec)) (i : Int) : Sn DB.τ where
  slots := [(3, .v (.one (.own 0))), (5, .v (.one (.ref 1 0))), (6, .v (.one (.int .i64 false i)))]
  boxes := [(0, rowI l), (1, netX n g .nil .nil td)]
  nt := 46
def bhSn (n g : Int) (l : List Int) (td : List (List Rec)) (es : List (Rec × Ob)) (i : Int) : Sn DB.τ where
  slots := [(3, .v (.one (.own 0))), (5, .v (.one (.ref 1 0))), (6, .v (.one (.int .i64 false i)))]
  boxes := [(0, rowI l), (1, netX n g (.own 2) .nil td), (2, .fam 2 es none)]
  nt := 46
def bhEd (n g : Int) (td : List (List Rec)) (es : List (Rec × Ob)) : Sn DB.τ where
  slots := [(5, .v (.one (.ref 1 0)))]
  boxes := [(1, netX n g (.own 2) .nil td), (2, .fam 2 es none)]
  nt := 46
theorem bm_step (n : Int) (l l' : List Int) (i i' : Int)
 (h1 : ((decide (i ≤ n)) = true))
 (h2 : (((List.length l) + (1 : Nat)) ≤ (9223372036854775807 : Nat)))
 (h3 : ((((List.length l) + (1 : Nat)) * (8 : Nat)) ≤ (140737488355328 : Nat)))
 (h4 : (InI64 (i + (1 : Int))))
 (h5 : ((i + (1 : Int)) = i'))
 (h6 : ((l ++ ([i] : List Int)) = l')) :
 ∃ ps, stepPs Try.prog DB gBd 100 (bodyN Try.f7 0) 100 (bmSn n l i).st [.is true] .normal (bmSn n l' i') = some ps ∧ AllQ ps := ⟨_, by kernel_rfl, qc h1 (qc h2 (qc h3 (qc h4 (qc (er n) (qc h5 (qc h6 (qn)))))))⟩
theorem bm_exit (n : Int) (l : List Int) (i : Int)
 (h1 : ((decide (i ≤ n)) = false)) :
 ∃ ps, stepPs Try.prog DB gBd 100 (bodyN Try.f7 0) 100 (bmSn n l i).st [.is false] (.exit 0) (bmEd n l) = some ps ∧ AllQ ps := ⟨_, by kernel_rfl, qc h1 (qc (er n) (qc (er l) (qn)))⟩
theorem bh_first (n g : Int) (l : List Int) (td : List (List Rec)) (es : List (Rec × Ob)) (i i' : Int)
 (h1 : ((decide (i ≤ g)) = true))
 (h2 : (((List.length l) ≤ (9 : Nat)) ∧ (∀ (k : Nat),   k < (i, l).snd.length →     (if k = 0 then 0 else (i, l).snd.getD (k - 1) 0) < (i, l).snd.getD k 0 ∧ (i, l).snd.getD k 0 ≤ 9)))
 (h3 : (List.Mem i l))
 (h4 : (InI64 (i + (1 : Int))))
 (h5 : (i = (recI (Ob.r (Ob.node [(Fd.i i), (Fd.w l)] [([] : List (Rec × Ob))])) (0 : Nat))))
 (h6 : (l = (recW (Ob.r (Ob.node [(Fd.i i), (Fd.w l)] [([] : List (Rec × Ob))])) (1 : Nat))))
 (h7 : (([] : List (Rec × Ob)) = (Ob.c (Ob.node [(Fd.i i), (Fd.w l)] [([] : List (Rec × Ob))]) (0 : Nat))))
 (h8 : ((i + (1 : Int)) = i'))
 (h9 : ((setE [([(Fd.i (0 : Int))], (Ob.node [(Fd.i i), (Fd.w l)] [([] : List (Rec × Ob))]))] [(Fd.i (0 : Int))] (Ob.node [(Fd.i i), (Fd.w l)] [([] : List (Rec × Ob))])) = es)) :
 ∃ ps, stepPs Try.prog DB gBd 100 (bodyN Try.f7 1) 100 (bh0 n g l td i).st [.is true] .normal (bhSn n g l td es i') = some ps ∧ AllQ ps := ⟨_, by kernel_rfl, qc h1 (qc (er i) (qc (er l) (qc h2 (qc h3 (qc (show ((8 : Nat) ≤ (140737488355328 : Nat)) from by decide) (qc h4 (qc h5 (qc h6 (qc h7 (qc h8 (qc (er l) (qc (er n) (qc (er g) (qc (er td) (qc h9 (qn))))))))))))))))⟩
theorem bh_step (n g : Int) (l : List Int) (td : List (List Rec)) (es es' : List (Rec × Ob)) (i i' : Int)
 (h1 : ((decide (i ≤ g)) = true))
 (h2 : (((List.length l) ≤ (9 : Nat)) ∧ (∀ (k : Nat),   k < (i, l).snd.length →     (if k = 0 then 0 else (i, l).snd.getD (k - 1) 0) < (i, l).snd.getD k 0 ∧ (i, l).snd.getD k 0 ≤ 9)))
 (h3 : (List.Mem i l))
 (h4 : ((((List.length es) + (1 : Nat)) * (8 : Nat)) ≤ (140737488355328 : Nat)))
 (h5 : (((List.length es) + (1 : Nat)) ≤ (9223372036854775807 : Nat)))
 (h6 : (InI64 (i + (1 : Int))))
 (h7 : (i = (recI (Ob.r (Ob.node [(Fd.i i), (Fd.w l)] [([] : List (Rec × Ob))])) (0 : Nat))))
 (h8 : (l = (recW (Ob.r (Ob.node [(Fd.i i), (Fd.w l)] [([] : List (Rec × Ob))])) (1 : Nat))))
 (h9 : (([] : List (Rec × Ob)) = (Ob.c (Ob.node [(Fd.i i), (Fd.w l)] [([] : List (Rec × Ob))]) (0 : Nat))))
 (h10 : ((i + (1 : Int)) = i'))
 (h11 : ((setE (es ++ [([(Fd.i (((List.length es) : Nat) : Int))], (Ob.node [(Fd.i i), (Fd.w l)] [([] : List (Rec × Ob))]))]) [(Fd.i (((List.length es) : Nat) : Int))] (Ob.node [(Fd.i i), (Fd.w l)] [([] : List (Rec × Ob))])) = es')) :
 ∃ ps, stepPs Try.prog DB gBd 100 (bodyN Try.f7 1) 100 (bhSn n g l td es i).st [.is true] .normal (bhSn n g l td es' i') = some ps ∧ AllQ ps := ⟨_, by kernel_rfl, qc h1 (qc (er i) (qc (er l) (qc h2 (qc h3 (qc h4 (qc h5 (qc h6 (qc h7 (qc h8 (qc h9 (qc h10 (qc (er l) (qc (er n) (qc (er g) (qc (er td) (qc h11 (qn)))))))))))))))))⟩
theorem bh_exit (n g : Int) (l : List Int) (td : List (List Rec)) (es : List (Rec × Ob)) (i : Int)
 (h1 : ((decide (i ≤ g)) = false)) :
 ∃ ps, stepPs Try.prog DB gBd 100 (bodyN Try.f7 1) 100 (bhSn n g l td es i).st [.is false] (.exit 2) (bhEd n g td es) = some ps ∧ AllQ ps := ⟨_, by kernel_rfl, qc h1 (qc (er n) (qc (er g) (qc (er td) (qc (er es) (qn)))))⟩
theorem bd_run (n g : Int) (l : List Int) (td : List (List Rec)) (es : List (Rec × Ob))
 (h1 : SumOK Try.prog DB (bodyN Try.f7 0) (loopL DB (bmSn n [] (1 : Nat)) (.exit 0) (bmEd n l)))
 (h2 : (InI64 (n - (1 : Int))))
 (h3 : (InI64 (n - (Go.IntKind.wrap Go.IntKind.i64 (Int.tdiv (n - (1 : Int)) (3 : Int))))))
 (h4 : SumOK Try.prog DB (bodyN Try.f7 1) (loopL DB (bh0 n g l td (1 : Nat)) (.exit 2) (bhEd n g td es)))
 (h5 : ((n - (Go.IntKind.wrap Go.IntKind.i64 (Int.tdiv (n - (1 : Int)) (3 : Int)))) = g))
 (h6 : ((List.replicate (400 : Nat) ([] : List (Rec))) = td)) :
 ∃ ps, runO Try.prog DB gBd 100 Try.f7 ([], [.one (.int .i64 false n)]) [.loop (loopL DB (bmSn n [] (1 : Nat)) (.exit 0) (bmEd n l)), .loop (loopL DB (bh0 n g l td (1 : Nat)) (.exit 2) (bhEd n g td es))] (.v (.one (.ref 0 0))) [netX n g (.own 1) .nil td, .fam 2 es none] = some ps ∧ AllQ ps := ⟨_, by kernel_rfl, qc h1 (qc (er n) (qc (show ((1 : Int) = (((1 : Nat) : Nat) : Int)) from by decide) (qc (er (([] : List (Int)))) (qc h2 (qc (show ((3 : Int) ≠ (0 : Int)) from by decide) (qc h3 (qc h4 (qc (show ((1 : Int) = (((1 : Nat) : Nat) : Int)) from by decide) (qc (er l) (qc (er n) (qc h5 (qc h6 (qc (er n) (qc (er g) (qc (er td) (qc (er es) (qn)))))))))))))))))⟩
end Go.Num
namespace Go.Num
open Go.Abs Go.Proofs Go.Shelf Go.RowKit
noncomputable def gDo : Gam DB := [(nilId, .fn (freezeD DB [93])), (freezeId, .fn (freezeD DB [97])), (bornId, .fn (bornD DB [(8, 0, 3, 61)]))]
theorem gDo_ok : GamOK Try.prog DB gDo := gam_nil6 (gam_freeze (gam_born gam_nil))
structure OuT where
  es : List (Rec × Ob)
  key : Rec
  me : Int
  mb : List Int
  e1 : List (Rec × Ob)
def OuT.f (o : OuT) : BoxSt DB.τ := .fam 2 o.es (some (o.key, [.ref 3 0]))
def dnB (n g : Int) (o : OuT) (ml : List Rec) (td : List (List Rec)) : List (BoxSt DB.τ) := [netX n g (.own 1) (.own 2) td, o.f, mlX ml, hubX o.me o.mb 4, .fam 1 o.e1 none]
def dnC (n g : Int) (o : OuT) (ml : List Rec) (td : List (List Rec)) : List (BoxSt DB.τ) := [netX n g (.own 1) (.own 5) td, o.f, .dead, hubX o.me o.mb 4, .fam 1 o.e1 none, mlX ml]
def d1Sn (n g : Int) (o : OuT) (ml : List Rec) (td : List (List Rec)) (i : Int) (ms ts : List Rec) (k : Int) : Sn DB.τ where
  slots := [(0, .v (.one (.ref 0 0))), (1, .v (.one (.int .i64 false i))), (3, .v (.one (.prs tSh ts))), (14, .v (.one (.prs mSh ms))), (15, .v (.one (.int .i64 false ms.length))), (16, .v (.one (.int .i64 false k)))]
  boxes := enumB 0 (dnC n g o ml td)
  nt := 104
  np := 5
def d1Ed (n g : Int) (o : OuT) (ml : List Rec) (td : List (List Rec)) (i : Int) (ts : List Rec) : Sn DB.τ where
  slots := [(0, .v (.one (.ref 0 0))), (1, .v (.one (.int .i64 false i))), (3, .v (.one (.prs tSh ts)))]
  boxes := enumB 0 (dnC n g o ml td)
  nt := 104
  np := 5
def d2Sn (n g : Int) (o : OuT) (ml : List Rec) (td : List (List Rec)) (i : Int) (ms ts : List Rec) (k : Int) (m : MsT) (j : Int) : Sn DB.τ where
  slots := [(0, .v (.one (.ref 0 0))), (1, .v (.one (.int .i64 false i))), (3, .v (.one (.prs tSh ts))), (10, .v (.one (.ref 6 0))), (11, .v (.one (.int .i64 false j))), (14, .v (.one (.prs mSh ms))), (15, .v (.one (.int .i64 false ms.length))), (16, .v (.one (.int .i64 false k)))]
  boxes := enumB 0 (dnC n g o ml td ++ [.fixed 38 m.p])
  nt := 104
  np := 5
def d3Sn (n g : Int) (o : OuT) (ml : List Rec) (td : List (List Rec)) (i : Int) (ts : List Rec) (k : Int) : Sn DB.τ where
  slots := [(0, .v (.one (.ref 0 0))), (1, .v (.one (.int .i64 false i))), (48, .v (.one (.prs tSh ts))), (49, .v (.one (.int .i64 false ts.length))), (50, .v (.one (.int .i64 false k)))]
  boxes := enumB 0 (dnC n g o ml td)
  nt := 104
  np := 5
def d3Ed (n g : Int) (o : OuT) (ml : List Rec) (td : List (List Rec)) : Sn DB.τ where
  slots := [(0, .v (.one (.ref 0 0)))]
  boxes := enumB 0 (dnC n g o ml td)
  nt := 104
  np := 5
theorem d2_app (n g : Int) (o : OuT) (ml ml' : List Rec) (td : List (List Rec)) (i : Int) (ms ts : List Rec) (k : Int) (m : MsT) (j j' : Int)
 (h1 : ((decide (j ≤ g)) = true))
 (h2 : ((j != i) = true))
 (h3 : ((((List.length ml) + (1 : Nat)) * (80 : Nat)) ≤ (140737488355328 : Nat)))
 (h4 : (((List.length ml) + (1 : Nat)) ≤ (9223372036854775807 : Nat)))
 (h5 : (InI64 (j + (1 : Int))))
 (h6 : ((j + (1 : Int)) = j'))
 (h7 : ((ml ++ [[(Fd.i j), (Fd.i (m).1), (Fd.i (m).2), (Fd.i (m).3), (Fd.i (m).4), (Fd.i (m).5), (Fd.i (m).6), (Fd.w (m).7)]]) = ml')) :
 ∃ ps, stepPs Try.prog DB gDo 100 (bodyN Try.f19 1) 100 (d2Sn n g o ml td i ms ts k m j).st [.is true, .is true] .normal (d2Sn n g o ml' td i ms ts k m j') = some ps ∧ AllQ ps := ⟨_, by kernel_rfl, qc h1 (qc h2 (qc h3 (qc h4 (qc h5 (qc (er i) (qc (er ts) (qc h6 (qc (er ms) (qc (er ((((List.length ms) : Nat) : Int))) (qc (er k) (qc (er n) (qc (er g) (qc (er td) (qc (er ((o).2)) (qc (er ((o).1)) (qc (er ((o).3)) (qc (er ((o).4)) (qc (er ((o).5)) (qc h7 (qc (er ((m).1)) (qc (er ((m).2)) (qc (er ((m).3)) (qc (er ((m).4)) (qc (er ((m).5)) (qc (er ((m).6)) (qc (er ((m).7)) (qn)))))))))))))))))))))))))))⟩
theorem d2_skip (n g : Int) (o : OuT) (ml : List Rec) (td : List (List Rec)) (i : Int) (ms ts : List Rec) (k : Int) (m : MsT) (j j' : Int)
 (h1 : ((decide (j ≤ g)) = true))
 (h2 : ((j != i) = false))
 (h3 : (InI64 (j + (1 : Int))))
 (h4 : ((j + (1 : Int)) = j')) :
 ∃ ps, stepPs Try.prog DB gDo 100 (bodyN Try.f19 1) 100 (d2Sn n g o ml td i ms ts k m j).st [.is true, .is false] .normal (d2Sn n g o ml td i ms ts k m j') = some ps ∧ AllQ ps := ⟨_, by kernel_rfl, qc h1 (qc h2 (qc h3 (qc (er i) (qc (er ts) (qc h4 (qc (er ms) (qc (er ((((List.length ms) : Nat) : Int))) (qc (er k) (qc (er n) (qc (er g) (qc (er td) (qc (er ((o).2)) (qc (er ((o).1)) (qc (er ((o).3)) (qc (er ((o).4)) (qc (er ((o).5)) (qc (er ml) (qc (er ((m).1)) (qc (er ((m).2)) (qc (er ((m).3)) (qc (er ((m).4)) (qc (er ((m).5)) (qc (er ((m).6)) (qc (er ((m).7)) (qn)))))))))))))))))))))))))⟩
theorem d2_exit (n g : Int) (o : OuT) (ml : List Rec) (td : List (List Rec)) (i : Int) (ms ts : List Rec) (k : Int) (m : MsT) (j : Int)
 (h1 : ((decide (j ≤ g)) = false)) :
 ∃ ps, stepPs Try.prog DB gDo 100 (bodyN Try.f19 1) 100 (d2Sn n g o ml td i ms ts k m j).st [.is false] (.exit 2) (d1Sn n g o ml td i ms ts k) = some ps ∧ AllQ ps := ⟨_, by kernel_rfl, qc h1 (qc (er i) (qc (er ts) (qc (er ms) (qc (er ((((List.length ms) : Nat) : Int))) (qc (er k) (qc (er n) (qc (er g) (qc (er td) (qc (er ((o).2)) (qc (er ((o).1)) (qc (er ((o).3)) (qc (er ((o).4)) (qc (er ((o).5)) (qc (er ml) (qn)))))))))))))))⟩
theorem d1_step (n g : Int) (o : OuT) (ml ml' : List Rec) (td : List (List Rec)) (i : Int) (ms ts : List Rec) (k k' : Int) (m : MsT)
 (h1 : ((decide (k < (((List.length ms) : Nat) : Int))) = true))
 (h2 : ((0 : Int) ≤ k))
 (h3 : (k < (((List.length ms) : Nat) : Int)))
 (h4 : (((recI (List.getD ms (Int.toNat k) ([] : List (Abs.Fd))) (((0 : Nat) + (1 : Nat)) + (1 : Nat))) != i) = false))
 (h5 : SumOK Try.prog DB (bodyN Try.f19 1) (loopL DB (d2Sn n g o ml td i ms ts k m 1) (.exit 2) (d1Sn n g o ml' td i ms ts k)))
 (h6 : ((recI (List.getD ms (Int.toNat k) ([] : List (Abs.Fd))) (0 : Nat)) = (m).1))
 (h7 : ((recI (List.getD ms (Int.toNat k) ([] : List (Abs.Fd))) ((0 : Nat) + (1 : Nat))) = (m).2))
 (h8 : ((recI (List.getD ms (Int.toNat k) ([] : List (Abs.Fd))) (((0 : Nat) + (1 : Nat)) + (1 : Nat))) = (m).3))
 (h9 : ((recI (List.getD ms (Int.toNat k) ([] : List (Abs.Fd))) ((((0 : Nat) + (1 : Nat)) + (1 : Nat)) + (1 : Nat))) = (m).4))
 (h10 : ((recI (List.getD ms (Int.toNat k) ([] : List (Abs.Fd))) (((((0 : Nat) + (1 : Nat)) + (1 : Nat)) + (1 : Nat)) + (1 : Nat))) = (m).5))
 (h11 : ((recI (List.getD ms (Int.toNat k) ([] : List (Abs.Fd))) ((((((0 : Nat) + (1 : Nat)) + (1 : Nat)) + (1 : Nat)) + (1 : Nat)) + (1 : Nat))) = (m).6))
 (h12 : ((recW (List.getD ms (Int.toNat k) ([] : List (Abs.Fd))) (((((((0 : Nat) + (1 : Nat)) + (1 : Nat)) + (1 : Nat)) + (1 : Nat)) + (1 : Nat)) + (1 : Nat))) = (m).7))
 (h13 : (InI64 (k + (1 : Int))))
 (h14 : ((k + (1 : Int)) = k')) :
 ∃ ps, stepPs Try.prog DB gDo 100 (bodyN Try.f19 0) 100 (d1Sn n g o ml td i ms ts k).st [.is true, .is false, .loop (loopL DB (d2Sn n g o ml td i ms ts k m 1) (.exit 2) (d1Sn n g o ml' td i ms ts k))] .normal (d1Sn n g o ml' td i ms ts k') = some ps ∧ AllQ ps := ⟨_, by kernel_rfl, qc h1 (qc h2 (qc h3 (qc h4 (qc h5 (qc (er i) (qc (er ts) (qc (er ((1 : Int))) (qc (er ms) (qc (er ((((List.length ms) : Nat) : Int))) (qc (er k) (qc (er n) (qc (er g) (qc (er td) (qc (er ((o).2)) (qc (er ((o).1)) (qc (er ((o).3)) (qc (er ((o).4)) (qc (er ((o).5)) (qc (er ml) (qc h6 (qc h7 (qc h8 (qc h9 (qc h10 (qc h11 (qc h12 (qc h13 (qc (er i) (qc (er ts) (qc (er ms) (qc (er ((((List.length ms) : Nat) : Int))) (qc h14 (qc (er n) (qc (er g) (qc (er td) (qc (er ((o).2)) (qc (er ((o).1)) (qc (er ((o).3)) (qc (er ((o).4)) (qc (er ((o).5)) (qc (er (ml')) (qn))))))))))))))))))))))))))))))))))))))))))⟩
theorem d1_exit (n g : Int) (o : OuT) (ml : List Rec) (td : List (List Rec)) (i : Int) (ms ts : List Rec) (k : Int)
 (h1 : ((decide (k < (((List.length ms) : Nat) : Int))) = false)) :
 ∃ ps, stepPs Try.prog DB gDo 100 (bodyN Try.f19 0) 100 (d1Sn n g o ml td i ms ts k).st [.is false] (.exit 0) (d1Ed n g o ml td i ts) = some ps ∧ AllQ ps := ⟨_, by kernel_rfl, qc h1 (qc (er i) (qc (er ts) (qc (er n) (qc (er g) (qc (er td) (qc (er ((o).2)) (qc (er ((o).1)) (qc (er ((o).3)) (qc (er ((o).4)) (qc (er ((o).5)) (qc (er ml) (qn))))))))))))⟩
theorem d3_step (n g : Int) (o : OuT) (ml : List Rec) (td td' : List (List Rec)) (i : Int) (ts : List Rec) (k k' : Int)
 (h1 : ((decide (k < (((List.length ts) : Nat) : Int))) = true))
 (h2 : ((0 : Int) ≤ k))
 (h3 : (k < (((List.length ts) : Nat) : Int)))
 (h4 : ((decide ((recI (List.getD ts (Int.toNat k) ([] : List (Abs.Fd))) (0 : Nat)) < (1 : Int))) = false))
 (h5 : ((decide ((recI (List.getD ts (Int.toNat k) ([] : List (Abs.Fd))) (0 : Nat)) > (3 : Int))) = false))
 (h6 : ((decide ((recI (List.getD ts (Int.toNat k) ([] : List (Abs.Fd))) ((0 : Nat) + (1 : Nat))) < (1 : Int))) = false))
 (h7 : ((decide ((recI (List.getD ts (Int.toNat k) ([] : List (Abs.Fd))) ((0 : Nat) + (1 : Nat))) > n)) = false))
 (h8 : ((0 : Int) ≤ i))
 (h9 : (i < (((10 : Nat) : Nat) : Int)))
 (h10 : ((0 : Int) ≤ (recI (List.getD ts (Int.toNat k) ([] : List (Abs.Fd))) (0 : Nat))))
 (h11 : ((recI (List.getD ts (Int.toNat k) ([] : List (Abs.Fd))) (0 : Nat)) < (((4 : Nat) : Nat) : Int)))
 (h12 : ((0 : Int) ≤ (recI (List.getD ts (Int.toNat k) ([] : List (Abs.Fd))) ((0 : Nat) + (1 : Nat)))))
 (h13 : ((recI (List.getD ts (Int.toNat k) ([] : List (Abs.Fd))) ((0 : Nat) + (1 : Nat))) < (((10 : Nat) : Nat) : Int)))
 (h14 : ((4 : Nat) ≤ (((((0 : Nat) + (4 : Nat)) + ((Int.toNat i) * (40 : Nat))) + ((Int.toNat (recI (List.getD ts (Int.toNat k) ([] : List (Abs.Fd))) (0 : Nat))) * (10 : Nat))) + (Int.toNat (recI (List.getD ts (Int.toNat k) ([] : List (Abs.Fd))) ((0 : Nat) + (1 : Nat)))))))
 (h15 : ((((((0 : Nat) + (4 : Nat)) + ((Int.toNat i) * (40 : Nat))) + ((Int.toNat (recI (List.getD ts (Int.toNat k) ([] : List (Abs.Fd))) (0 : Nat))) * (10 : Nat))) + (Int.toNat (recI (List.getD ts (Int.toNat k) ([] : List (Abs.Fd))) ((0 : Nat) + (1 : Nat))))) < ((4 : Nat) + (400 : Nat))))
 (h16 : ((List.getD td ((((((0 : Nat) + (4 : Nat)) + ((Int.toNat i) * (40 : Nat))) + ((Int.toNat (recI (List.getD ts (Int.toNat k) ([] : List (Abs.Fd))) (0 : Nat))) * (10 : Nat))) + (Int.toNat (recI (List.getD ts (Int.toNat k) ([] : List (Abs.Fd))) ((0 : Nat) + (1 : Nat))))) - (4 : Nat)) ([] : List (Rec))) = ([] : List (Rec))))
 (h17 : (((1 : Nat) * (24 : Nat)) ≤ (140737488355328 : Nat)))
 (h18 : ((1 : Nat) ≤ (9223372036854775807 : Nat)))
 (h19 : ([[(Fd.w (recW (List.getD ts (Int.toNat k) ([] : List (Abs.Fd))) (((0 : Nat) + (1 : Nat)) + (1 : Nat))))]] ≠ ([] : List (Rec))))
 (h20 : (InI64 (k + (1 : Int))))
 (h21 : ((k + (1 : Int)) = k'))
 (h22 : ((List.set td ((((((0 : Nat) + (4 : Nat)) + ((Int.toNat i) * (40 : Nat))) + ((Int.toNat (recI (List.getD ts (Int.toNat k) ([] : List (Abs.Fd))) (0 : Nat))) * (10 : Nat))) + (Int.toNat (recI (List.getD ts (Int.toNat k) ([] : List (Abs.Fd))) ((0 : Nat) + (1 : Nat))))) - (4 : Nat)) [[(Fd.w (recW (List.getD ts (Int.toNat k) ([] : List (Abs.Fd))) (((0 : Nat) + (1 : Nat)) + (1 : Nat))))]]) = td')) :
 ∃ ps, stepPs Try.prog DB gDo 100 (bodyN Try.f19 2) 100 (d3Sn n g o ml td i ts k).st [.is true, .is false, .is false, .is false, .is false] .normal (d3Sn n g o ml td' i ts k') = some ps ∧ AllQ ps := ⟨_, by kernel_rfl, qc h1 (qc h2 (qc h3 (qc h4 (qc h5 (qc h6 (qc h7 (qc h8 (qc h9 (qc h10 (qc h11 (qc h12 (qc h13 (qc h14 (qc h15 (qc h16 (qc h17 (qc h18 (qc h8 (qc h9 (qc h10 (qc h11 (qc h12 (qc h13 (qc h14 (qc h15 (qc h19 (qc h20 (qc (er i) (qc (er ts) (qc (er ((((List.length ts) : Nat) : Int))) (qc h21 (qc (er n) (qc (er g) (qc h22 (qc (er ((o).2)) (qc (er ((o).1)) (qc (er ((o).3)) (qc (er ((o).4)) (qc (er ((o).5)) (qc (er ml) (qn)))))))))))))))))))))))))))))))))))))))))⟩
theorem d3_exit (n g : Int) (o : OuT) (ml : List Rec) (td : List (List Rec)) (i : Int) (ts : List Rec) (k : Int)
 (h1 : ((decide (k < (((List.length ts) : Nat) : Int))) = false)) :
 ∃ ps, stepPs Try.prog DB gDo 100 (bodyN Try.f19 2) 100 (d3Sn n g o ml td i ts k).st [.is false] (.exit 4) (d3Ed n g o ml td) = some ps ∧ AllQ ps := ⟨_, by kernel_rfl, qc h1 (qc (er n) (qc (er g) (qc (er td) (qc (er ((o).2)) (qc (er ((o).1)) (qc (er ((o).3)) (qc (er ((o).4)) (qc (er ((o).5)) (qc (er ml) (qn))))))))))⟩
theorem do_run (n g : Int) (o : OuT) (ml ml' : List Rec) (td td' : List (List Rec)) (i : Int) (ms ts : List Rec) (es' : List (Rec × Ob))
 (h1 : SumOK Try.prog DB (bodyN Try.f19 0) (loopL DB (d1Sn n g o ml td i ms ts (0 : Nat)) (.exit 0) (d1Ed n g o ml' td i ts)))
 (h2 : SumOK Try.prog DB (bodyN Try.f19 2) (loopL DB (d3Sn n g o ml' td i ts (0 : Nat)) (.exit 4) (d3Ed n g o ml' td')))
 (h3 : ((o).3 = (recI (Ob.r (Ob.node [(Fd.i (o).3), (Fd.w (o).4)] [(o).5])) (0 : Nat))))
 (h4 : ((o).4 = (recW (Ob.r (Ob.node [(Fd.i (o).3), (Fd.w (o).4)] [(o).5])) (1 : Nat))))
 (h5 : ((o).5 = (Ob.c (Ob.node [(Fd.i (o).3), (Fd.w (o).4)] [(o).5]) (0 : Nat))))
 (h6 : ((setE (o).1 (o).2 (Ob.node [(Fd.i (o).3), (Fd.w (o).4)] [(o).5])) = es')) :
 ∃ ps, runO Try.prog DB gDo 100 Try.f19 (dnB n g o ml td, [.one (.ref 0 0), .one (.int .i64 false i), .one (.prs mSh ms), .one (.prs tSh ts)]) [.loop (loopL DB (d1Sn n g o ml td i ms ts (0 : Nat)) (.exit 0) (d1Ed n g o ml' td i ts)), .loop (loopL DB (d3Sn n g o ml' td i ts (0 : Nat)) (.exit 4) (d3Ed n g o ml' td'))] (.v (.one (.bool true true))) [netX n g (.own 1) (.own 5) td', .fam 2 es' none, .dead, .dead, .dead, mlX ml'] = some ps ∧ AllQ ps := ⟨_, by kernel_rfl, qc h1 (qc (er i) (qc (er ts) (qc (er ms) (qc (er ((((List.length ms) : Nat) : Int))) (qc (show ((0 : Int) = (((0 : Nat) : Nat) : Int)) from by decide) (qc (er n) (qc (er g) (qc (er td) (qc (er ((o).2)) (qc (er ((o).1)) (qc (er ((o).3)) (qc (er ((o).4)) (qc (er ((o).5)) (qc (er ml) (qc h2 (qc (er i) (qc (er ts) (qc (er ((((List.length ts) : Nat) : Int))) (qc (show ((0 : Int) = (((0 : Nat) : Nat) : Int)) from by decide) (qc (er n) (qc (er g) (qc (er td) (qc (er ((o).2)) (qc (er ((o).1)) (qc (er ((o).3)) (qc (er ((o).4)) (qc (er ((o).5)) (qc (er (ml')) (qc h3 (qc h4 (qc h5 (qc (er n) (qc (er g) (qc (er (td')) (qc h6 (qc (er (ml')) (qn)))))))))))))))))))))))))))))))))))))⟩
end Go.Num
namespace Go.Num
open Go.Abs Go.Proofs Go.Shelf Go.RowKit
def ltR (j : Int) (m : MsT) : Rec := .i j :: m.r
def ltsK (i : Int) (m : MsT) (j : Nat) : List Rec := (List.range j).flatMap fun (a : Nat) => if ((a : Int) + 1) = i then [] else [ltR ((a : Int) + 1) m]
theorem ltsK_succ (i : Int) (m : MsT) (j : Nat) : ltsK i m (j + 1) = ltsK i m j ++ (if ((j : Int) + 1) = i then [] else [ltR ((j : Int) + 1) m]) := by
  unfold ltsK
  rw [List.range_succ, List.flatMap_append]
  simp
theorem ltsK_len (i : Int) (m : MsT) (j : Nat) : (ltsK i m j).length ≤ j := by
  induction j with
  | zero => simp [ltsK]
  | succ j ih =>
    rw [ltsK_succ, List.length_append]
    split
    · simp; omega
    · simp; omega
def sendM (g i : Int) (ms : List Rec) : List Rec := ms.flatMap fun r => ltsK i (msOf r) g.toNat
theorem sendM_len (g i : Int) (ms : List Rec) : (sendM g i ms).length ≤ ms.length * g.toNat := by
  induction ms with
  | nil => simp [sendM]
  | cons r ms ih =>
    have := ltsK_len i (msOf r) g.toNat
    unfold sendM at ih ⊢
    rw [List.flatMap_cons, List.length_append, List.length_cons, Nat.add_mul]
    omega
def cellN (i t w : Int) : Nat := i.toNat * 40 + t.toNat * 10 + w.toNat
def tellM (i : Int) (ts : List Rec) (td : List (List Rec)) : List (List Rec) := ts.foldl (fun td r => td.set (cellN i (recI r 0) (recI r 1)) [[.w (recW r 2)]]) td
theorem take_snoc {α : Type} {l : List α} {k : Nat} {x : α} (h : k < l.length) (d : α) (hx : l.getD k d = x) : l.take (k + 1) = l.take k ++ [x] := by
  rw [List.take_add_one, List.getElem?_eq_getElem h]
  rw [List.getD_eq_getElem?_getD, List.getElem?_eq_getElem h] at hx
  simp only [Option.getD_some] at hx
  rw [hx]; rfl
theorem sendM_take {g i : Int} {ms : List Rec} {k : Nat} (h : k < ms.length) : sendM g i (ms.take (k + 1)) = sendM g i (ms.take k) ++ ltsK i (msOf (ms.getD k [])) g.toNat := by
  unfold sendM
  rw [take_snoc h [] rfl, List.flatMap_append]
  simp
theorem tellM_take {i : Int} {ts : List Rec} {td : List (List Rec)} {k : Nat} (h : k < ts.length) : tellM i (ts.take (k + 1)) td = (tellM i (ts.take k) td).set (cellN i (recI (ts.getD k []) 0) (recI (ts.getD k []) 1)) [[.w (recW (ts.getD k []) 2)]] := by
  unfold tellM
  rw [take_snoc h [] rfl, List.foldl_append]
  rfl
def DnOK (n g i : Int) (ml : List Rec) (td : List (List Rec)) (ms ts : List Rec) : Prop :=
  (0 ≤ i ∧ i < 10 ∧ 0 ≤ g ∧ g ≤ 9 ∧ n ≤ 9) ∧ (ml.length ≤ 1000000 ∧ ms.length ≤ 1000) ∧ (∀ k, k < ms.length → recI (ms.getD k []) 2 = i) ∧
    ∀ k, k < ts.length → (1 ≤ recI (ts.getD k []) 0 ∧ recI (ts.getD k []) 0 ≤ 3) ∧ (1 ≤ recI (ts.getD k []) 1 ∧ recI (ts.getD k []) 1 ≤ n) ∧
      (tellM i (ts.take k) td).getD (cellN i (recI (ts.getD k []) 0) (recI (ts.getD k []) 1)) [] = []
theorem d2_sum (n g : Int) (o : OuT) (ml : List Rec) (td : List (List Rec)) (i : Int) (ms ts : List Rec) (k : Int) (m : MsT) (hg : 0 ≤ g) (hg9 : g ≤ 9) (hl : ml.length ≤ 2000000) :
    SumOK Try.prog DB (bodyN Try.f19 1) (loopL DB (d2Sn n g o ml td i ms ts k m 1) (.exit 2) (d1Sn n g o (ml ++ ltsK i m g.toNat) td i ms ts k)) := by
  have e : d2Sn n g o ml td i ms ts k m 1 = d2Sn n g o (ml ++ ltsK i m 0) td i ms ts k m ((0 : Nat) + 1) := by
    show _ = d2Sn n g o (ml ++ []) td i ms ts k m (0 + 1)
    rw [List.append_nil]; rfl
  rw [e]
  refine sum_loop gDo_ok mixed (c := bodyN Try.f19 1) (fun a => d2Sn n g o (ml ++ ltsK i m a) td i ms ts k m ((a : Nat) + 1)) g.toNat (e := .exit 2) (s := d1Sn n g o (ml ++ ltsK i m g.toNat) td i ms ts k) rfl (fun a ha => ?_) ⟨_, _, _, d2_exit n g o _ td i ms ts k m _ (decide_eq_false (by omega))⟩
  · have hlen := ltsK_len i m a
    by_cases h : ((a : Int) + 1) = i
    · exact ⟨_, _, _, by
        have := d2_skip n g o (ml ++ ltsK i m a) td i ms ts k m (a + 1) (((a + 1 : Nat) : Int) + 1) (decide_eq_true (by omega)) (by simp [h]) ⟨by omega, by omega⟩ (by omega)
        rw [ltsK_succ, if_pos h, List.append_nil]
        exact this⟩
    · exact ⟨_, _, _, d2_app n g o (ml ++ ltsK i m a) (ml ++ ltsK i m (a + 1)) td i ms ts k m (a + 1) (((a + 1 : Nat) : Int) + 1) (decide_eq_true (by omega)) (by simp [h]) (by rw [List.length_append]; omega) (by rw [List.length_append]; omega) ⟨by omega, by omega⟩ (by omega) (by rw [ltsK_succ, if_neg h, List.append_assoc]; rfl)⟩
theorem d1_sum {n g : Int} {o : OuT} {ml : List Rec} {td : List (List Rec)} {i : Int} {ms ts : List Rec} (h : DnOK n g i ml td ms ts) :
    SumOK Try.prog DB (bodyN Try.f19 0) (loopL DB (d1Sn n g o ml td i ms ts (0 : Nat)) (.exit 0) (d1Ed n g o (ml ++ sendM g i ms) td i ts)) := by
  obtain ⟨⟨h1, h2, h3, h4, h5⟩, ⟨h6, h7⟩, h8, _⟩ := h
  have e : d1Sn n g o ml td i ms ts (0 : Nat) = d1Sn n g o (ml ++ sendM g i (ms.take 0)) td i ms ts (0 : Nat) := by
    show _ = d1Sn n g o (ml ++ []) td i ms ts (0 : Nat)
    rw [List.append_nil]
  rw [e]
  refine sum_loop gDo_ok mixed (c := bodyN Try.f19 0) (fun k => d1Sn n g o (ml ++ sendM g i (ms.take k)) td i ms ts (k : Nat)) ms.length (e := .exit 0) (s := d1Ed n g o (ml ++ sendM g i ms) td i ts) rfl (fun k hk => ?_) ⟨_, _, _, by
    have := d1_exit n g o (ml ++ sendM g i (ms.take ms.length)) td i ms ts (ms.length : Nat) (decide_eq_false (by omega))
    rw [List.take_length] at this ⊢
    exact this⟩
  have hl : (ml ++ sendM g i (ms.take k)).length ≤ 2000000 := by
    have := sendM_len g i (ms.take k)
    have h9 : (ms.take k).length * g.toNat ≤ 1000 * 9 := Nat.mul_le_mul (by rw [List.length_take]; omega) (by omega)
    rw [List.length_append]
    omega
  have hs := d2_sum n g o (ml ++ sendM g i (ms.take k)) td i ms ts (k : Nat) (msOf (ms.getD k [])) h3 h4 hl
  rw [List.append_assoc, ← sendM_take hk] at hs
  exact ⟨_, _, _, d1_step n g o (ml ++ sendM g i (ms.take k)) (ml ++ sendM g i (ms.take (k + 1))) td i ms ts (k : Nat) ((k + 1 : Nat) : Int) (msOf (ms.getD k [])) (decide_eq_true (by omega)) (by omega) (by omega) (by rw [Int.toNat_natCast]; exact bne_eq_false_iff_eq.2 (h8 k hk)) hs (by rw [Int.toNat_natCast]; rfl) (by rw [Int.toNat_natCast]; rfl) (by rw [Int.toNat_natCast]; rfl) (by rw [Int.toNat_natCast]; rfl) (by rw [Int.toNat_natCast]; rfl) (by rw [Int.toNat_natCast]; rfl) (by rw [Int.toNat_natCast]; rfl) ⟨by omega, by omega⟩ rfl⟩
theorem d3_sum {n g : Int} {o : OuT} {ml ml' : List Rec} {td : List (List Rec)} {i : Int} {ms ts : List Rec} (h : DnOK n g i ml td ms ts) (hlt : ts.length ≤ 1000000) :
    SumOK Try.prog DB (bodyN Try.f19 2) (loopL DB (d3Sn n g o ml' td i ts (0 : Nat)) (.exit 4) (d3Ed n g o ml' (tellM i ts td))) := by
  obtain ⟨⟨h1, h2, h3, h4, h5⟩, _, _, h8⟩ := h
  refine sum_loop gDo_ok mixed (c := bodyN Try.f19 2) (fun k => d3Sn n g o ml' (tellM i (ts.take k) td) i ts (k : Nat)) ts.length (e := .exit 4) (s := d3Ed n g o ml' (tellM i ts td)) rfl (fun k hk => ?_) ⟨_, _, _, by
    have := d3_exit n g o ml' (tellM i (ts.take ts.length) td) i ts (ts.length : Nat) (decide_eq_false (by omega))
    rw [List.take_length] at this ⊢
    exact this⟩
  obtain ⟨⟨a1, a2⟩, ⟨b1, b2⟩, c1⟩ := h8 k hk
  have hidx : ∀ x y : Int, ((((0 + 4) + i.toNat * 40) + x.toNat * 10) + y.toNat) - 4 = cellN i x y := fun x y => by unfold cellN; omega
  exact ⟨_, _, _, d3_step n g o ml' (tellM i (ts.take k) td) (tellM i (ts.take (k + 1)) td) i ts (k : Nat) ((k + 1 : Nat) : Int) (decide_eq_true (by omega)) (by omega) (by omega)
    (by rw [Int.toNat_natCast]; exact decide_eq_false (by omega)) (by rw [Int.toNat_natCast]; exact decide_eq_false (by omega)) (by rw [Int.toNat_natCast]; exact decide_eq_false (by show ¬ recI _ 1 < 1; omega)) (by rw [Int.toNat_natCast]; exact decide_eq_false (by show ¬ recI _ 1 > n; omega))
    h1 h2 (by rw [Int.toNat_natCast]; omega) (by rw [Int.toNat_natCast]; omega) (by rw [Int.toNat_natCast]; show 0 ≤ recI _ 1; omega) (by rw [Int.toNat_natCast]; show recI _ 1 < 10; omega)
    (by omega) (by rw [Int.toNat_natCast]; have : recI (ts.getD k []) (0 + 1) ≤ n := b2; omega)
    (by rw [Int.toNat_natCast, hidx]; exact c1) (by omega) (by omega) (by simp) ⟨by omega, by omega⟩ rfl (by rw [Int.toNat_natCast, hidx, tellM_take hk])⟩
abbrev NtT := (Int × Int × OuT × List Rec × List (List Rec)) × Int × List Rec × List Rec
def dnRd : List (BoxSt DB.τ) → List (A0 DB.τ) → Option NtT
  | [.fixed _ [.int .i64 _ n, .int .i64 _ g, .own 1, .own 2, .prss _ _ td], .fam _ es (some (key, [.ref 3 0])), .dyn _ (.lrs _ ml), .fixed _ [.int .i64 _ me, .pw .i64 mb, .mapr 4], .fam _ e1 none], [.one (.ref 0 0), .one (.int .i64 _ i), .one (.prs _ ms), .one (.prs _ ts)] => some ((n, g, ⟨es, key, me, mb, e1⟩, ml, td), i, ms, ts)
  | _, _ => none
noncomputable def doneQ := mkF DB Try.f19.ntmps dnRd (fun t => (dnB t.1.1 t.1.2.1 t.1.2.2.1 t.1.2.2.2.1 t.1.2.2.2.2, [.one (.ref 0 0), .one (.int .i64 false t.2.1), .one (.prs mSh t.2.2.1), .one (.prs tSh t.2.2.2)]))
  (fun t => some (.v (.one (.bool true true)), [netX t.1.1 t.1.2.1 (.own 1) (.own 5) (tellM t.2.1 t.2.2.2 t.1.2.2.2.2), .fam 2 (setE t.1.2.2.1.es t.1.2.2.1.key (hubOb t.1.2.2.1.me t.1.2.2.1.mb t.1.2.2.1.e1)) none, .dead, .dead, .dead, mlX (t.1.2.2.2.1 ++ sendM t.1.2.1 t.2.1 t.2.2.1)], [DnOK t.1.1 t.1.2.1 t.2.1 t.1.2.2.2.1 t.1.2.2.2.2 t.2.2.1 t.2.2.2, t.2.2.2.length ≤ 1000000]))
theorem done_ok : OpOK Try.prog DB 19 doneQ := by
  refine opOK_mkG mixed Try.func19 (enters_of Try.func19 (by kernel_rfl) rfl) ?_
  rintro ⟨⟨n, g, o, ml, td⟩, i, ms, ts⟩ r' bs' ps h hps
  simp only [Option.some.injEq, Prod.mk.injEq] at h
  obtain ⟨rfl, rfl, rfl⟩ := h
  have hd : DnOK n g i ml td ms ts := hps (DnOK n g i ml td ms ts) (by simp)
  have hl : ts.length ≤ 1000000 := hps (ts.length ≤ 1000000) (by simp)
  exact ⟨_, _, _, gDo_ok, do_run n g o ml _ td _ i ms ts _ (d1_sum hd) (d3_sum hd hl) rfl rfl rfl rfl⟩
def hubsE (n g : Nat) (tk : Nat → List (Rec × Ob)) : List (Rec × Ob) := (List.range g).map fun (i : Nat) => ([.i (i : Int)], hubOb ((i : Int) + 1) (mbN n) (tk i))
theorem hubsE_len (n g : Nat) (tk : Nat → List (Rec × Ob)) : (hubsE n g tk).length = g := by unfold hubsE; rw [List.length_map, List.length_range]
theorem hubsE_succ (n g : Nat) (tk : Nat → List (Rec × Ob)) : hubsE n (g + 1) tk = hubsE n g tk ++ [([.i (g : Int)], hubOb ((g : Int) + 1) (mbN n) (tk g))] := by
  unfold hubsE
  rw [List.range_succ, List.map_append]; rfl
theorem hubsE_not (n g : Nat) (tk : Nat → List (Rec × Ob)) {k : Nat} (h : g ≤ k) : [Fd.i (k : Int)] ∉ (hubsE n g tk).map (·.1) := by
  intro hm
  obtain ⟨x, hx, e⟩ := List.mem_map.1 hm
  unfold hubsE at hx
  obtain ⟨i, hi, rfl⟩ := List.mem_map.1 hx
  have := List.mem_range.1 hi
  simp only [List.cons.injEq, Fd.i.injEq, and_true] at e
  omega
theorem setE_last {es : List (Rec × Ob)} {key : Rec} {o p : Ob} (h : key ∉ es.map (·.1)) : setE (es ++ [(key, o)]) key p = es ++ [(key, p)] := by
  induction es with
  | nil => simp [setE]
  | cons x es ih =>
    obtain ⟨k, q⟩ := x
    rw [List.map_cons, List.mem_cons, not_or] at h
    have hk : ¬ k = key := fun e => h.1 e.symm
    simp [setE, hk, ih h.2]
def nGood (n : Nat) : Nat := n - (n - 1) / 3
theorem nGood_int {n : Nat} (h1 : 1 ≤ n) (h9 : n ≤ 9) : (n : Int) - Go.IntKind.wrap .i64 (Int.tdiv ((n : Int) - 1) 3) = nGood n := by
  have : n = 1 ∨ n = 2 ∨ n = 3 ∨ n = 4 ∨ n = 5 ∨ n = 6 ∨ n = 7 ∨ n = 8 ∨ n = 9 := by omega
  rcases this with rfl | rfl | rfl | rfl | rfl | rfl | rfl | rfl | rfl <;> decide
noncomputable def buildQ := mkF DB Try.f7.ntmps (fun bs xs => match bs, xs with | [], [.one (.int .i64 _ n)] => some n | _, _ => none) (fun n => ([], [.one (.int .i64 false n)])) (fun n => some (.v (.one (.ref 0 0)), [netX n (nGood n.toNat) (.own 1) .nil (List.replicate 400 []), .fam 2 (hubsE n.toNat (nGood n.toNat) fun _ => []) none], [1 ≤ n ∧ n ≤ 9]))
theorem build_ok : OpOK Try.prog DB 7 buildQ := by
  refine opOK_mkG mixed Try.func7 (enters_of Try.func7 (by kernel_rfl) rfl) ?_
  rintro n r' bs' ps h hps
  simp only [Option.some.injEq, Prod.mk.injEq] at h
  obtain ⟨rfl, rfl, rfl⟩ := h
  obtain ⟨h1, h9⟩ : 1 ≤ n ∧ n ≤ 9 := hps (1 ≤ n ∧ n ≤ 9) (by simp)
  obtain ⟨m, rfl⟩ : ∃ m : Nat, n = m := ⟨n.toNat, by omega⟩
  simp only [Int.toNat_natCast]
  have hg1 : 1 ≤ nGood m := by unfold nGood; omega
  have hgm : nGood m ≤ m := by unfold nGood; omega
  generalize hG : nGood m = G at hg1 hgm
  have s1 : SumOK Try.prog DB (bodyN Try.f7 0) (loopL DB (bmSn m [] (1 : Nat)) (.exit 0) (bmEd m (mbN m))) := by
    refine sum_loop gBd_ok mixed (c := bodyN Try.f7 0) (fun k => bmSn m (mbN k) ((k + 1 : Nat) : Int)) m (e := .exit 0) (s := bmEd m (mbN m)) rfl (fun k hk => ⟨_, _, _, bm_step m (mbN k) (mbN (k + 1)) _ _ (decide_eq_true (by omega)) (by rw [mbN_len]; omega) (by rw [mbN_len]; omega) ⟨by omega, by omega⟩ (by omega) (by rw [mbN_snoc]; rfl)⟩) ⟨_, _, _, bm_exit m (mbN m) _ (decide_eq_false (by omega))⟩
  have hmo : MbOK (mbN m) := mbN_ok (by omega)
  have s2 : SumOK Try.prog DB (bodyN Try.f7 1) (loopL DB (bh0 m G (mbN m) (List.replicate 400 []) (1 : Nat)) (.exit 2) (bhEd m G (List.replicate 400 []) (hubsE m G fun _ => []))) := by
    refine sum_loop gBd_ok mixed (c := bodyN Try.f7 1) (fun k => if k = 0 then bh0 m G (mbN m) (List.replicate 400 []) (1 : Nat) else bhSn m G (mbN m) (List.replicate 400 []) (hubsE m k fun _ => []) ((k + 1 : Nat) : Int)) G (e := .exit 2) (s := bhEd m G (List.replicate 400 []) (hubsE m G fun _ => [])) rfl (fun k hk => ?_) ⟨_, _, _, by
      rw [if_neg (by omega)]
      exact bh_exit m G (mbN m) _ _ _ (decide_eq_false (by omega))⟩
    rw [if_neg (Nat.succ_ne_zero k)]
    by_cases h0 : k = 0
    · subst h0
      rw [if_pos rfl]
      exact ⟨_, _, _, bh_first m G (mbN m) _ _ _ _ (decide_eq_true (by omega)) hmo (mbN_mem.2 ⟨by omega, by omega⟩) ⟨by omega, by omega⟩ rfl rfl rfl rfl rfl⟩
    · rw [if_neg h0]
      exact ⟨_, _, _, bh_step m G (mbN m) _ _ _ _ _ (decide_eq_true (by omega)) hmo (mbN_mem.2 ⟨by omega, by omega⟩) (by rw [hubsE_len]; omega) (by rw [hubsE_len]; omega) ⟨by omega, by omega⟩ rfl rfl rfl rfl (by
        rw [hubsE_len, setE_last (hubsE_not m k _ (Nat.le_refl _)), hubsE_succ]
        rw [show ((k + 1 : Nat) : Int) = (k : Int) + 1 from by omega]
        rfl)⟩
  exact ⟨_, _, _, gBd_ok, bd_run m G (mbN m) _ _ s1 ⟨by omega, by omega⟩ ⟨by rw [nGood_int (by omega) (by omega)]; omega, by rw [nGood_int (by omega) (by omega)]; omega⟩ s2 (by rw [nGood_int (by omega) (by omega), hG]) rfl⟩
end Go.Num
namespace Go.Num
open Go.Abs Go.Proofs Go.Shelf Go.RowKit
noncomputable def gDl : Gam DB := [(swapId, .fn (freezeD DB [12])), (freezeId, .fn (freezeD DB [7, 8])), (13, .rd [false] copy16R), (15, .op [true, false] inQ), (19, .op [true, false, false, false] doneQ)]
theorem gDl_ok : GamOK Try.prog DB gDl := gam_swap (gam_freeze (gam_rd copy16_ok (gam_op in_ok (gam_op done_ok gam_nil))))
def ntB (n g : Int) (es : List (Rec × Ob)) (ml : List Rec) (td : List (List Rec)) : List (BoxSt DB.τ) := [netX n g (.own 1) (.own 2) td, .fam 2 es none, mlX ml]
abbrev dl_run_x1 (es : List (Rec × Ob)) (ml : List Rec) (k : Int) := ((inM (recI (Ob.r (obE es [(Fd.i (((Int.toNat ((recI (List.getD ml (Int.toNat k) ([] : List (Abs.Fd))) (0 : Nat)) - (1 : Int))) : Nat) : Int))])) (0 : Nat)) (recW (Ob.r (obE es [(Fd.i (((Int.toNat ((recI (List.getD ml (Int.toNat k) ([] : List (Abs.Fd))) (0 : Nat)) - (1 : Int))) : Nat) : Int))])) (1 : Nat)) (Ob.c (obE es [(Fd.i (((Int.toNat ((recI (List.getD ml (Int.toNat k) ([] : List (Abs.Fd))) (0 : Nat)) - (1 : Int))) : Nat) : Int))]) (0 : Nat)) (MsT.mk (recI (List.getD ml (Int.toNat k) ([] : List (Abs.Fd))) ((0 : Nat) + (1 : Nat))) (recI (List.getD ml (Int.toNat k) ([] : List (Abs.Fd))) (((0 : Nat) + (1 : Nat)) + (1 : Nat))) (recI (List.getD ml (Int.toNat k) ([] : List (Abs.Fd))) ((((0 : Nat) + (1 : Nat)) + (1 : Nat)) + (1 : Nat))) (recI (List.getD ml (Int.toNat k) ([] : List (Abs.Fd))) (((((0 : Nat) + (1 : Nat)) + (1 : Nat)) + (1 : Nat)) + (1 : Nat))) (recI (List.getD ml (Int.toNat k) ([] : List (Abs.Fd))) ((((((0 : Nat) + (1 : Nat)) + (1 : Nat)) + (1 : Nat)) + (1 : Nat)) + (1 : Nat))) (recI (List.getD ml (Int.toNat k) ([] : List (Abs.Fd))) (((((((0 : Nat) + (1 : Nat)) + (1 : Nat)) + (1 : Nat)) + (1 : Nat)) + (1 : Nat)) + (1 : Nat))) (recW (List.getD ml (Int.toNat k) ([] : List (Abs.Fd))) ((((((((0 : Nat) + (1 : Nat)) + (1 : Nat)) + (1 : Nat)) + (1 : Nat)) + (1 : Nat)) + (1 : Nat)) + (1 : Nat))))))
abbrev dl_run_x2 (ml : List Rec) (k : Int) := (Fd.i (((Int.toNat ((recI (List.getD ml (Int.toNat k) ([] : List (Abs.Fd))) (0 : Nat)) - (1 : Int))) : Nat) : Int))
abbrev dl_run_x3  := (((((0 : Nat) + (1 : Nat)) + (1 : Nat)) + (1 : Nat)) + (1 : Nat))
abbrev dl_run_x4 (ml : List Rec) (k : Int) := (recW (List.getD ml (Int.toNat k) ([] : List (Abs.Fd))) ((((dl_run_x3 ) + (1 : Nat)) + (1 : Nat)) + (1 : Nat)))
abbrev dl_run_x5 (ml : List Rec) (k : Int) := ((([] : List (Rec)) ++ (List.drop (0 : Nat) (List.take (Int.toNat k) ml))) ++ (List.drop (Int.toNat (k + (1 : Int))) (List.take (Int.toNat (((List.length ml) : Nat) : Int)) ml)))
theorem dl_run (n g : Int) (es es' : List (Rec × Ob)) (ml ml' : List Rec) (td td' : List (List Rec)) (k : Int)
 (h1 : ((0 : Int) ≤ k))
 (h2 : (k < (((List.length ml) : Nat) : Int)))
 (h3 : (k ≤ (((List.length ml) : Nat) : Int)))
 (h4 : ((((0 : Nat) + (List.length (List.drop (0 : Nat) (List.take (Int.toNat k) ml)))) * (80 : Nat)) ≤ (140737488355328 : Nat)))
 (h5 : (((0 : Nat) + (List.length (List.drop (0 : Nat) (List.take (Int.toNat k) ml)))) ≤ (9223372036854775807 : Nat)))
 (h6 : (InI64 (k + (1 : Int))))
 (h7 : ((0 : Int) ≤ (k + (1 : Int))))
 (h8 : ((k + (1 : Int)) ≤ (((List.length ml) : Nat) : Int)))
 (h9 : ((((List.length ml) : Nat) : Int) ≤ (((List.length ml) : Nat) : Int)))
 (h10 : ((((List.length (([] : List (Rec)) ++ (List.drop (0 : Nat) (List.take (Int.toNat k) ml)))) + (List.length (List.drop (Int.toNat (k + (1 : Int))) (List.take (Int.toNat (((List.length ml) : Nat) : Int)) ml)))) * (80 : Nat)) ≤ (140737488355328 : Nat)))
 (h11 : (((List.length (([] : List (Rec)) ++ (List.drop (0 : Nat) (List.take (Int.toNat k) ml)))) + (List.length (List.drop (Int.toNat (k + (1 : Int))) (List.take (Int.toNat (((List.length ml) : Nat) : Int)) ml)))) ≤ (9223372036854775807 : Nat)))
 (h12 : (InI64 ((recI (List.getD ml (Int.toNat k) ([] : List (Abs.Fd))) (0 : Nat)) - (1 : Int))))
 (h13 : ((0 : Int) ≤ ((recI (List.getD ml (Int.toNat k) ([] : List (Abs.Fd))) (0 : Nat)) - (1 : Int))))
 (h14 : (((recI (List.getD ml (Int.toNat k) ([] : List (Abs.Fd))) (0 : Nat)) - (1 : Int)) < (((List.length es) : Nat) : Int)))
 (h15 : ((hasE es [(dl_run_x2 ml k)]) = true))
 (h16 : ((List.length (dl_run_x4 ml k)) ≤ (281474976710656 : Nat)))
 (h17 : (HbOK (recI (Ob.r (obE es [(dl_run_x2 ml k)])) (0 : Nat)) (recW (Ob.r (obE es [(dl_run_x2 ml k)])) (1 : Nat))))
 (h18 : (EsOK (30000 : Nat) (Ob.c (obE es [(dl_run_x2 ml k)]) (0 : Nat))))
 (h19 : (InB (dl_run_x4 ml k)))
 (h20 : (DnOK n g (recI (List.getD ml (Int.toNat k) ([] : List (Abs.Fd))) (0 : Nat)) (dl_run_x5 ml k) td ((dl_run_x1 es ml k).2).1 ((dl_run_x1 es ml k).2).2))
 (h21 : ((List.length ((dl_run_x1 es ml k).2).2) ≤ (1000000 : Nat)))
 (h22 : ((tellM (recI (List.getD ml (Int.toNat k) ([] : List (Abs.Fd))) (0 : Nat)) ((dl_run_x1 es ml k).2).2 td) = td'))
 (h23 : ((setE es [(dl_run_x2 ml k)] (hubOb (recI (Ob.r (obE es [(dl_run_x2 ml k)])) (0 : Nat)) (recW (Ob.r (obE es [(dl_run_x2 ml k)])) (1 : Nat)) (dl_run_x1 es ml k).1)) = es'))
 (h24 : (((dl_run_x5 ml k) ++ (sendM g (recI (List.getD ml (Int.toNat k) ([] : List (Abs.Fd))) (0 : Nat)) ((dl_run_x1 es ml k).2).1)) = ml')) :
 ∃ ps, runO Try.prog DB gDl 100 Try.f11 (ntB n g es ml td, [.one (.ref 0 0), .one (.int .i64 false k)]) [] (.v (.one (.bool true true))) [netX n g (.own 1) (.own 3) td', .fam 2 es' none, .dead, mlX ml'] = some ps ∧ AllQ ps := ⟨_, by kernel_rfl, qc h1 (qc h2 (qc (show ((0 : Int) ≤ (0 : Int)) from by decide) (qc h1 (qc h3 (qc h4 (qc h5 (qc h6 (qc h7 (qc h8 (qc h9 (qc h10 (qc h11 (qc h12 (qc h13 (qc h14 (qc h15 (qc (er ((recI (List.getD ml (Int.toNat k) ([] : List (Abs.Fd))) ((0 : Nat) + (1 : Nat))))) (qc (er ((recI (List.getD ml (Int.toNat k) ([] : List (Abs.Fd))) (((0 : Nat) + (1 : Nat)) + (1 : Nat))))) (qc (er ((recI (List.getD ml (Int.toNat k) ([] : List (Abs.Fd))) ((((0 : Nat) + (1 : Nat)) + (1 : Nat)) + (1 : Nat))))) (qc (er ((recI (List.getD ml (Int.toNat k) ([] : List (Abs.Fd))) (dl_run_x3 )))) (qc (er ((recI (List.getD ml (Int.toNat k) ([] : List (Abs.Fd))) ((dl_run_x3 ) + (1 : Nat))))) (qc (er ((recI (List.getD ml (Int.toNat k) ([] : List (Abs.Fd))) (((dl_run_x3 ) + (1 : Nat)) + (1 : Nat))))) (qc (er ((dl_run_x4 ml k))) (qc h16 (qc (er ((recI (List.getD ml (Int.toNat k) ([] : List (Abs.Fd))) ((0 : Nat) + (1 : Nat))))) (qc (er ((recI (List.getD ml (Int.toNat k) ([] : List (Abs.Fd))) (((0 : Nat) + (1 : Nat)) + (1 : Nat))))) (qc (er ((recI (List.getD ml (Int.toNat k) ([] : List (Abs.Fd))) ((((0 : Nat) + (1 : Nat)) + (1 : Nat)) + (1 : Nat))))) (qc (er ((recI (List.getD ml (Int.toNat k) ([] : List (Abs.Fd))) (dl_run_x3 )))) (qc (er ((recI (List.getD ml (Int.toNat k) ([] : List (Abs.Fd))) ((dl_run_x3 ) + (1 : Nat))))) (qc (er ((recI (List.getD ml (Int.toNat k) ([] : List (Abs.Fd))) (((dl_run_x3 ) + (1 : Nat)) + (1 : Nat))))) (qc (er ((dl_run_x4 ml k))) (qc (er ((recI (Ob.r (obE es [(dl_run_x2 ml k)])) (0 : Nat)))) (qc (er ((recW (Ob.r (obE es [(dl_run_x2 ml k)])) (1 : Nat)))) (qc (er ((Ob.c (obE es [(dl_run_x2 ml k)]) (0 : Nat)))) (qc h17 (qc h18 (qc h19 (qc (er ((recI (List.getD ml (Int.toNat k) ([] : List (Abs.Fd))) (0 : Nat)))) (qc (er (((dl_run_x1 es ml k).2).1)) (qc (er (((dl_run_x1 es ml k).2).2)) (qc (er n) (qc (er g) (qc (er td) (qc (er ([(dl_run_x2 ml k)])) (qc (er es) (qc (er ((dl_run_x5 ml k))) (qc (er ((recI (Ob.r (obE es [(dl_run_x2 ml k)])) (0 : Nat)))) (qc (er ((recW (Ob.r (obE es [(dl_run_x2 ml k)])) (1 : Nat)))) (qc (er ((dl_run_x1 es ml k).1)) (qc h20 (qc h21 (qc (er n) (qc (er g) (qc h22 (qc h23 (qc h24 (qn)))))))))))))))))))))))))))))))))))))))))))))))))))))))))⟩
end Go.Num
namespace Go.Num
open Go.Abs Go.Proofs Go.Shelf Go.RowKit
def obI (es : List (Rec × Ob)) (i : Int) : Ob := obE es [.i ((i - 1).toNat : Nat)]
def lM (l : Rec) : MsT := ⟨recI l 1, recI l 2, recI l 3, recI l 4, recI l 5, recI l 6, recW l 7⟩
def goM (es : List (Rec × Ob)) (i : Int) (m : MsT) : List (Rec × Ob) × List Rec × List Rec := inM (recI (obI es i).r 0) (recW (obI es i).r 1) ((obI es i).c 0) m
def putM (es : List (Rec × Ob)) (i : Int) (e1 : List (Rec × Ob)) : List (Rec × Ob) := setE es [.i ((i - 1).toNat : Nat)] (hubOb (recI (obI es i).r 0) (recW (obI es i).r 1) e1)
def restM (ml : List Rec) (k : Nat) : List Rec := ml.take k ++ ml.drop (k + 1)
def HuOK (es : List (Rec × Ob)) (i : Int) : Prop := (1 ≤ i ∧ i ≤ es.length ∧ es.length ≤ 9) ∧ hasE es [.i ((i - 1).toNat : Nat)] = true ∧ HbOK (recI (obI es i).r 0) (recW (obI es i).r 1) ∧ EsOK 30000 ((obI es i).c 0)
def DlOK (n g : Int) (es : List (Rec × Ob)) (ml : List Rec) (td : List (List Rec)) (k : Nat) : Prop :=
  (k < ml.length ∧ ml.length ≤ 1000000) ∧ HuOK es (recI (ml.getD k []) 0) ∧ (InB (lM (ml.getD k [])).bd ∧ (lM (ml.getD k [])).bd.length ≤ 281474976710656) ∧
    DnOK n g (recI (ml.getD k []) 0) (restM ml k) td (goM es (recI (ml.getD k []) 0) (lM (ml.getD k []))).2.1 (goM es (recI (ml.getD k []) 0) (lM (ml.getD k []))).2.2 ∧ (goM es (recI (ml.getD k []) 0) (lM (ml.getD k []))).2.2.length ≤ 1000000
abbrev NetM := List (Rec × Ob) × List Rec × List (List Rec)
def dlM (g : Int) (es : List (Rec × Ob)) (ml : List Rec) (td : List (List Rec)) (k : Nat) : NetM :=
  (putM es (recI (ml.getD k []) 0) (goM es (recI (ml.getD k []) 0) (lM (ml.getD k []))).1, restM ml k ++ sendM g (recI (ml.getD k []) 0) (goM es (recI (ml.getD k []) 0) (lM (ml.getD k []))).2.1, tellM (recI (ml.getD k []) 0) (goM es (recI (ml.getD k []) 0) (lM (ml.getD k []))).2.2 td)
def dlRd : List (BoxSt DB.τ) → List (A0 DB.τ) → Option ((Int × Int × NetM) × Int)
  | [.fixed _ [.int .i64 _ n, .int .i64 _ g, .own 1, .own 2, .prss _ _ td], .fam _ es none, .dyn _ (.lrs _ ml)], [.one (.ref 0 0), .one (.int .i64 _ k)] => some ((n, g, es, ml, td), k)
  | _, _ => none
noncomputable def dlvQ := mkF DB Try.f11.ntmps dlRd (fun t => (ntB t.1.1 t.1.2.1 t.1.2.2.1 t.1.2.2.2.1 t.1.2.2.2.2, [.one (.ref 0 0), .one (.int .i64 false t.2)]))
  (fun t => some (.v (.one (.bool true true)), [netX t.1.1 t.1.2.1 (.own 1) (.own 3) (dlM t.1.2.1 t.1.2.2.1 t.1.2.2.2.1 t.1.2.2.2.2 t.2.toNat).2.2, .fam 2 (dlM t.1.2.1 t.1.2.2.1 t.1.2.2.2.1 t.1.2.2.2.2 t.2.toNat).1 none, .dead, mlX (dlM t.1.2.1 t.1.2.2.1 t.1.2.2.2.1 t.1.2.2.2.2 t.2.toNat).2.1], [DlOK t.1.1 t.1.2.1 t.1.2.2.1 t.1.2.2.2.1 t.1.2.2.2.2 t.2.toNat, 0 ≤ t.2]))
theorem dlv_ok : OpOK Try.prog DB 11 dlvQ := by
  refine opOK_mkG mixed Try.func11 (enters_of Try.func11 (by kernel_rfl) rfl) ?_
  rintro ⟨⟨n, g, es, ml, td⟩, k⟩ r' bs' ps h hps
  simp only [Option.some.injEq, Prod.mk.injEq] at h
  obtain ⟨rfl, rfl, rfl⟩ := h
  have hd : DlOK n g es ml td k.toNat := hps (DlOK n g es ml td k.toNat) (by simp)
  have h0 : 0 ≤ k := hps (0 ≤ k) (by simp)
  obtain ⟨j, rfl⟩ : ∃ j : Nat, k = j := ⟨k.toNat, by omega⟩
  rw [Int.toNat_natCast] at hd
  simp only [Int.toNat_natCast]
  obtain ⟨⟨a1, a2⟩, ⟨⟨b1, b2, b3⟩, b4, b5, b6⟩, ⟨c1, c2⟩, d1, d2⟩ := hd
  have e1 : (([] : List Rec) ++ (ml.take ((j : Int)).toNat).drop 0) ++ (ml.take ((ml.length : Int)).toNat).drop ((j : Int) + 1).toNat = restM ml j := by
    rw [Int.toNat_natCast, Int.toNat_natCast, show ((j : Int) + 1).toNat = j + 1 from by omega, List.take_length, List.drop_zero, List.nil_append]
    rfl
  have hl1 : ((ml.take ((j : Int)).toNat).drop 0).length ≤ ml.length := by rw [List.drop_zero, List.length_take]; omega
  have hl2 : ((ml.take ((ml.length : Int)).toNat).drop ((j : Int) + 1).toNat).length ≤ ml.length := by rw [List.length_drop, List.length_take]; omega
  refine ⟨_, _, _, gDl_ok, dl_run n g es _ ml _ td _ j (by omega) (by omega) (by omega) (by omega) (by omega) ⟨by omega, by omega⟩ (by omega) (by omega) (by omega) (by rw [List.nil_append]; omega) (by rw [List.nil_append]; omega) ?_ ?_ ?_ b4 c2 b5 b6 c1 ?_ d2 rfl rfl ?_⟩
  · rw [Int.toNat_natCast]; exact ⟨by omega, by omega⟩
  · rw [Int.toNat_natCast]; omega
  · rw [Int.toNat_natCast]; omega
  · have d1' := d1
    rw [← e1] at d1'
    exact d1'
  · show (_ ++ _) ++ _ = restM ml j ++ _
    rw [e1]
    rfl
end Go.Num
namespace Go.Num
open Go.Abs Go.Proofs Go.Shelf Go.RowKit
noncomputable def gAg : Gam DB := [(10, .fn (sameD DB))]
theorem gAg_ok : GamOK Try.prog DB gAg := gam_cons (same_ok DB) gam_nil
def agB (n g : Int) (es : List (Rec × Ob)) (ml : List Rec) (td : List (List Rec)) : List (Nat × BoxSt DB.τ) := enumB 0 (ntB n g es ml td)
def a1Sn (n g : Int) (es : List (Rec × Ob)) (ml : List Rec) (td : List (List Rec)) (t : Int) : Sn DB.τ where
  slots := [(0, .v (.one (.ref 0 0))), (3, .v (.one (.int .i64 false t)))]
  boxes := agB n g es ml td
  nt := 57
  np := 3
def a1Ed (n g : Int) (es : List (Rec × Ob)) (ml : List Rec) (td : List (List Rec)) : Sn DB.τ where
  slots := [(0, .v (.one (.ref 0 0)))]
  boxes := agB n g es ml td
  nt := 57
  np := 3
def a2Sn (n g : Int) (es : List (Rec × Ob)) (ml : List Rec) (td : List (List Rec)) (t w : Int) : Sn DB.τ where
  slots := [(0, .v (.one (.ref 0 0))), (3, .v (.one (.int .i64 false t))), (4, .v (.one (.int .i64 false w)))]
  boxes := agB n g es ml td
  nt := 57
  np := 3
def a3Sn (n g : Int) (es : List (Rec × Ob)) (ml : List Rec) (td : List (List Rec)) (t w i : Int) (f : List Int) (s : Bool) : Sn DB.τ where
  slots := [(0, .v (.one (.ref 0 0))), (3, .v (.one (.int .i64 false t))), (4, .v (.one (.int .i64 false w))), (5, .v (.one (.words .u8 f))), (6, .v (.one (.bool false s))), (7, .v (.one (.int .i64 false i)))]
  boxes := agB n g es ml td
  nt := 57
  np := 3
theorem a3_none (n g : Int) (es : List (Rec × Ob)) (ml : List Rec) (td : List (List Rec)) (t w i i' : Int) (f : List Int) (s : Bool)
 (h1 : ((decide (i ≤ g)) = true))
 (h2 : ((0 : Int) ≤ i))
 (h3 : (i < (((10 : Nat) : Nat) : Int)))
 (h4 : ((0 : Int) ≤ t))
 (h5 : (t < (((4 : Nat) : Nat) : Int)))
 (h6 : ((0 : Int) ≤ w))
 (h7 : (w < (((10 : Nat) : Nat) : Int)))
 (h8 : ((4 : Nat) ≤ (((((0 : Nat) + (4 : Nat)) + ((Int.toNat i) * (40 : Nat))) + ((Int.toNat t) * (10 : Nat))) + (Int.toNat w))))
 (h9 : ((((((0 : Nat) + (4 : Nat)) + ((Int.toNat i) * (40 : Nat))) + ((Int.toNat t) * (10 : Nat))) + (Int.toNat w)) < ((4 : Nat) + (400 : Nat))))
 (h10 : ((decide ((((List.length (List.getD td ((((((0 : Nat) + (4 : Nat)) + ((Int.toNat i) * (40 : Nat))) + ((Int.toNat t) * (10 : Nat))) + (Int.toNat w)) - (4 : Nat)) ([] : List (Rec)))) : Nat) : Int) > (1 : Int))) = false))
 (h11 : (((((List.length (List.getD td ((((((0 : Nat) + (4 : Nat)) + ((Int.toNat i) * (40 : Nat))) + ((Int.toNat t) * (10 : Nat))) + (Int.toNat w)) - (4 : Nat)) ([] : List (Rec)))) : Nat) : Int) == (1 : Int)) = false))
 (h12 : (InI64 (i + (1 : Int))))
 (h13 : ((i + (1 : Int)) = i')) :
 ∃ ps, stepPs Try.prog DB gAg 100 (bodyN Try.f9 2) 100 (a3Sn n g es ml td t w i f s).st [.is true, .is false, .is false] .normal (a3Sn n g es ml td t w i' f s) = some ps ∧ AllQ ps := ⟨_, by kernel_rfl, qc h1 (qc h2 (qc h3 (qc h4 (qc h5 (qc h6 (qc h7 (qc h8 (qc h9 (qc h10 (qc h11 (qc h12 (qc (er t) (qc (er w) (qc (er f) (qc (er s) (qc h13 (qc (er n) (qc (er g) (qc (er td) (qc (er es) (qc (er ml) (qn))))))))))))))))))))))⟩
theorem a3_first (n g : Int) (es : List (Rec × Ob)) (ml : List Rec) (td : List (List Rec)) (t w i i' : Int) (f f' : List Int) (s : Bool)
 (h1 : ((decide (i ≤ g)) = true))
 (h2 : ((0 : Int) ≤ i))
 (h3 : (i < (((10 : Nat) : Nat) : Int)))
 (h4 : ((0 : Int) ≤ t))
 (h5 : (t < (((4 : Nat) : Nat) : Int)))
 (h6 : ((0 : Int) ≤ w))
 (h7 : (w < (((10 : Nat) : Nat) : Int)))
 (h8 : ((4 : Nat) ≤ (((((0 : Nat) + (4 : Nat)) + ((Int.toNat i) * (40 : Nat))) + ((Int.toNat t) * (10 : Nat))) + (Int.toNat w))))
 (h9 : ((((((0 : Nat) + (4 : Nat)) + ((Int.toNat i) * (40 : Nat))) + ((Int.toNat t) * (10 : Nat))) + (Int.toNat w)) < ((4 : Nat) + (400 : Nat))))
 (h10 : ((decide ((((List.length (List.getD td ((((((0 : Nat) + (4 : Nat)) + ((Int.toNat i) * (40 : Nat))) + ((Int.toNat t) * (10 : Nat))) + (Int.toNat w)) - (4 : Nat)) ([] : List (Rec)))) : Nat) : Int) > (1 : Int))) = false))
 (h11 : (((((List.length (List.getD td ((((((0 : Nat) + (4 : Nat)) + ((Int.toNat i) * (40 : Nat))) + ((Int.toNat t) * (10 : Nat))) + (Int.toNat w)) - (4 : Nat)) ([] : List (Rec)))) : Nat) : Int) == (1 : Int)) = true))
 (h12 : (s = false))
 (h13 : ((0 : Int) < (((List.length (List.getD td ((((((0 : Nat) + (4 : Nat)) + ((Int.toNat i) * (40 : Nat))) + ((Int.toNat t) * (10 : Nat))) + (Int.toNat w)) - (4 : Nat)) ([] : List (Rec)))) : Nat) : Int)))
 (h14 : (InI64 (i + (1 : Int))))
 (h15 : ((recW (List.getD (List.getD td ((((((0 : Nat) + (4 : Nat)) + ((Int.toNat i) * (40 : Nat))) + ((Int.toNat t) * (10 : Nat))) + (Int.toNat w)) - (4 : Nat)) ([] : List (Rec))) (0 : Nat) ([] : List (Abs.Fd))) (0 : Nat)) = f'))
 (h16 : ((i + (1 : Int)) = i')) :
 ∃ ps, stepPs Try.prog DB gAg 100 (bodyN Try.f9 2) 100 (a3Sn n g es ml td t w i f s).st [.is true, .is false, .is true, .is false] .normal (a3Sn n g es ml td t w i' f' true) = some ps ∧ AllQ ps := ⟨_, by kernel_rfl, qc h1 (qc h2 (qc h3 (qc h4 (qc h5 (qc h6 (qc h7 (qc h8 (qc h9 (qc h10 (qc h11 (qc h12 (qc (show ((0 : Int) ≤ (0 : Int)) from by decide) (qc h13 (qc h14 (qc (er t) (qc (er w) (qc h15 (qc (er true) (qc h16 (qc (er n) (qc (er g) (qc (er td) (qc (er es) (qc (er ml) (qn)))))))))))))))))))))))))⟩
theorem a3_more (n g : Int) (es : List (Rec × Ob)) (ml : List Rec) (td : List (List Rec)) (t w i i' : Int) (f f' : List Int) (s : Bool)
 (h1 : ((decide (i ≤ g)) = true))
 (h2 : ((0 : Int) ≤ i))
 (h3 : (i < (((10 : Nat) : Nat) : Int)))
 (h4 : ((0 : Int) ≤ t))
 (h5 : (t < (((4 : Nat) : Nat) : Int)))
 (h6 : ((0 : Int) ≤ w))
 (h7 : (w < (((10 : Nat) : Nat) : Int)))
 (h8 : ((4 : Nat) ≤ (((((0 : Nat) + (4 : Nat)) + ((Int.toNat i) * (40 : Nat))) + ((Int.toNat t) * (10 : Nat))) + (Int.toNat w))))
 (h9 : ((((((0 : Nat) + (4 : Nat)) + ((Int.toNat i) * (40 : Nat))) + ((Int.toNat t) * (10 : Nat))) + (Int.toNat w)) < ((4 : Nat) + (400 : Nat))))
 (h10 : ((decide ((((List.length (List.getD td ((((((0 : Nat) + (4 : Nat)) + ((Int.toNat i) * (40 : Nat))) + ((Int.toNat t) * (10 : Nat))) + (Int.toNat w)) - (4 : Nat)) ([] : List (Rec)))) : Nat) : Int) > (1 : Int))) = false))
 (h11 : (((((List.length (List.getD td ((((((0 : Nat) + (4 : Nat)) + ((Int.toNat i) * (40 : Nat))) + ((Int.toNat t) * (10 : Nat))) + (Int.toNat w)) - (4 : Nat)) ([] : List (Rec)))) : Nat) : Int) == (1 : Int)) = true))
 (h12 : (s = true))
 (h13 : ((0 : Int) < (((List.length (List.getD td ((((((0 : Nat) + (4 : Nat)) + ((Int.toNat i) * (40 : Nat))) + ((Int.toNat t) * (10 : Nat))) + (Int.toNat w)) - (4 : Nat)) ([] : List (Rec)))) : Nat) : Int)))
 (h14 : ((decide (f = (recW (List.getD (List.getD td ((((((0 : Nat) + (4 : Nat)) + ((Int.toNat i) * (40 : Nat))) + ((Int.toNat t) * (10 : Nat))) + (Int.toNat w)) - (4 : Nat)) ([] : List (Rec))) (0 : Nat) ([] : List (Abs.Fd))) (0 : Nat)))) = true))
 (h15 : ((List.length f) ≤ (9223372036854775807 : Nat)))
 (h16 : ((List.length (recW (List.getD (List.getD td ((((((0 : Nat) + (4 : Nat)) + ((Int.toNat i) * (40 : Nat))) + ((Int.toNat t) * (10 : Nat))) + (Int.toNat w)) - (4 : Nat)) ([] : List (Rec))) (0 : Nat) ([] : List (Abs.Fd))) (0 : Nat))) ≤ (9223372036854775807 : Nat)))
 (h17 : (InI64 (i + (1 : Int))))
 (h18 : ((recW (List.getD (List.getD td ((((((0 : Nat) + (4 : Nat)) + ((Int.toNat i) * (40 : Nat))) + ((Int.toNat t) * (10 : Nat))) + (Int.toNat w)) - (4 : Nat)) ([] : List (Rec))) (0 : Nat) ([] : List (Abs.Fd))) (0 : Nat)) = f'))
 (h19 : ((i + (1 : Int)) = i')) :
 ∃ ps, stepPs Try.prog DB gAg 100 (bodyN Try.f9 2) 100 (a3Sn n g es ml td t w i f s).st [.is true, .is false, .is true, .is true, .is true] .normal (a3Sn n g es ml td t w i' f' true) = some ps ∧ AllQ ps := ⟨_, by kernel_rfl, qc h1 (qc h2 (qc h3 (qc h4 (qc h5 (qc h6 (qc h7 (qc h8 (qc h9 (qc h10 (qc h11 (qc h12 (qc (show ((0 : Int) ≤ (0 : Int)) from by decide) (qc h13 (qc h14 (qc h15 (qc h16 (qc (show ((0 : Int) ≤ (0 : Int)) from by decide) (qc h13 (qc h17 (qc (er t) (qc (er w) (qc h18 (qc (er true) (qc h19 (qc (er n) (qc (er g) (qc (er td) (qc (er es) (qc (er ml) (qn))))))))))))))))))))))))))))))⟩
theorem a3_exit (n g : Int) (es : List (Rec × Ob)) (ml : List Rec) (td : List (List Rec)) (t w i : Int) (f : List Int) (s : Bool)
 (h1 : ((decide (i ≤ g)) = false)) :
 ∃ ps, stepPs Try.prog DB gAg 100 (bodyN Try.f9 2) 100 (a3Sn n g es ml td t w i f s).st [.is false] (.exit 4) (a2Sn n g es ml td t w) = some ps ∧ AllQ ps := ⟨_, by kernel_rfl, qc h1 (qc (er t) (qc (er w) (qc (er n) (qc (er g) (qc (er td) (qc (er es) (qc (er ml) (qn))))))))⟩
theorem a2_exit (n g : Int) (es : List (Rec × Ob)) (ml : List Rec) (td : List (List Rec)) (t w : Int)
 (h1 : ((decide (w ≤ n)) = false)) :
 ∃ ps, stepPs Try.prog DB gAg 100 (bodyN Try.f9 1) 100 (a2Sn n g es ml td t w).st [.is false] (.exit 2) (a1Sn n g es ml td t) = some ps ∧ AllQ ps := ⟨_, by kernel_rfl, qc h1 (qc (er t) (qc (er n) (qc (er g) (qc (er td) (qc (er es) (qc (er ml) (qn)))))))⟩
theorem a1_exit (n g : Int) (es : List (Rec × Ob)) (ml : List Rec) (td : List (List Rec)) (t : Int)
 (h1 : ((decide (t ≤ (3 : Int))) = false)) :
 ∃ ps, stepPs Try.prog DB gAg 100 (bodyN Try.f9 0) 100 (a1Sn n g es ml td t).st [.is false] (.exit 0) (a1Ed n g es ml td) = some ps ∧ AllQ ps := ⟨_, by kernel_rfl, qc h1 (qc (er n) (qc (er g) (qc (er td) (qc (er es) (qc (er ml) (qn))))))⟩
theorem a2_step (n g : Int) (es : List (Rec × Ob)) (ml : List Rec) (td : List (List Rec)) (t w w' : Int)
 (h1 : ((decide (w ≤ n)) = true))
 (h2 : SumOK Try.prog DB (bodyN Try.f9 2) (loopL DB (a3Sn n g es ml td t w 1 [] false) (.exit 4) (a2Sn n g es ml td t w)))
 (h3 : (InI64 (w + (1 : Int))))
 (h4 : ((w + (1 : Int)) = w')) :
 ∃ ps, stepPs Try.prog DB gAg 100 (bodyN Try.f9 1) 100 (a2Sn n g es ml td t w).st [.is true, .loop (loopL DB (a3Sn n g es ml td t w 1 [] false) (.exit 4) (a2Sn n g es ml td t w))] .normal (a2Sn n g es ml td t w') = some ps ∧ AllQ ps := ⟨_, by kernel_rfl, qc h1 (qc h2 (qc (er t) (qc (er w) (qc (er (([] : List (Int)))) (qc (er false) (qc (er ((1 : Int))) (qc (er n) (qc (er g) (qc (er td) (qc (er es) (qc (er ml) (qc h3 (qc (er t) (qc h4 (qc (er n) (qc (er g) (qc (er td) (qc (er es) (qc (er ml) (qn))))))))))))))))))))⟩
theorem a1_step (n g : Int) (es : List (Rec × Ob)) (ml : List Rec) (td : List (List Rec)) (t t' : Int)
 (h1 : ((decide (t ≤ (3 : Int))) = true))
 (h2 : SumOK Try.prog DB (bodyN Try.f9 1) (loopL DB (a2Sn n g es ml td t 1) (.exit 2) (a1Sn n g es ml td t)))
 (h3 : (InI64 (t + (1 : Int))))
 (h4 : ((t + (1 : Int)) = t')) :
 ∃ ps, stepPs Try.prog DB gAg 100 (bodyN Try.f9 0) 100 (a1Sn n g es ml td t).st [.is true, .loop (loopL DB (a2Sn n g es ml td t 1) (.exit 2) (a1Sn n g es ml td t))] .normal (a1Sn n g es ml td t') = some ps ∧ AllQ ps := ⟨_, by kernel_rfl, qc h1 (qc h2 (qc (er t) (qc (er ((1 : Int))) (qc (er n) (qc (er g) (qc (er td) (qc (er es) (qc (er ml) (qc h3 (qc h4 (qc (er n) (qc (er g) (qc (er td) (qc (er es) (qc (er ml) (qn))))))))))))))))⟩
theorem ag_run (n g : Int) (es : List (Rec × Ob)) (ml : List Rec) (td : List (List Rec))
 (h1 : SumOK Try.prog DB (bodyN Try.f9 0) (loopL DB (a1Sn n g es ml td 1) (.exit 0) (a1Ed n g es ml td))) :
 ∃ ps, runO Try.prog DB gAg 100 Try.f9 (ntB n g es ml td, [.one (.ref 0 0)]) [.loop (loopL DB (a1Sn n g es ml td 1) (.exit 0) (a1Ed n g es ml td))] (.v (.one (.bool true true))) (ntB n g es ml td) = some ps ∧ AllQ ps := ⟨_, by kernel_rfl, qc h1 (qc (er ((1 : Int))) (qc (er n) (qc (er g) (qc (er td) (qc (er es) (qc (er ml) (qc (er n) (qc (er g) (qc (er td) (qc (er es) (qc (er ml) (qn))))))))))))⟩
end Go.Num
namespace Go.Num
open Go.Abs Go.Proofs Go.Shelf Go.RowKit
def cellT (td : List (List Rec)) (i t w : Int) : List Rec := td.getD (cellN i t w) []
def AgOK (n g : Int) (td : List (List Rec)) : Prop := ∀ t w i : Int, 1 ≤ t → t ≤ 3 → 1 ≤ w → w ≤ n → 1 ≤ i → i ≤ g → (cellT td i t w).length ≤ 1 ∧ (recW ((cellT td i t w).getD 0 []) 0).length ≤ 4096 ∧
  ∀ j : Int, 1 ≤ j → j ≤ g → cellT td i t w ≠ [] → cellT td j t w ≠ [] → recW ((cellT td i t w).getD 0 []) 0 = recW ((cellT td j t w).getD 0 []) 0
def fsK (td : List (List Rec)) (t w : Int) : Nat → List Int × Bool
  | 0 => ([], false)
  | k + 1 => if cellT td ((k : Int) + 1) t w = [] then fsK td t w k else (recW ((cellT td ((k : Int) + 1) t w).getD 0 []) 0, true)
theorem fsK_some (td : List (List Rec)) (t w : Int) : ∀ k, (fsK td t w k).2 = true → ∃ a : Nat, a < k ∧ cellT td ((a : Int) + 1) t w ≠ [] ∧ (fsK td t w k).1 = recW ((cellT td ((a : Int) + 1) t w).getD 0 []) 0
  | 0, h => by cases h
  | k + 1, h => by
    unfold fsK at h ⊢
    by_cases hc : cellT td ((k : Int) + 1) t w = []
    · rw [if_pos hc] at h ⊢
      obtain ⟨a, h1, h2, h3⟩ := fsK_some td t w k h
      exact ⟨a, by omega, h2, h3⟩
    · rw [if_neg hc]
      exact ⟨k, by omega, hc, rfl⟩
theorem cell_idx (i t w : Int) : ((((0 + 4) + i.toNat * 40) + t.toNat * 10) + w.toNat) - 4 = cellN i t w := by unfold cellN; omega
theorem a3_sum {n g : Int} {es : List (Rec × Ob)} {ml : List Rec} {td : List (List Rec)} (h : AgOK n g td) (hn : n ≤ 9) (hg : 0 ≤ g ∧ g ≤ 9) {t w : Int} (ht : 1 ≤ t ∧ t ≤ 3) (hw : 1 ≤ w ∧ w ≤ n) :
    SumOK Try.prog DB (bodyN Try.f9 2) (loopL DB (a3Sn n g es ml td t w 1 [] false) (.exit 4) (a2Sn n g es ml td t w)) := by
  have e0 : a3Sn n g es ml td t w 1 [] false = a3Sn n g es ml td t w ((0 : Nat) + 1) (fsK td t w 0).1 (fsK td t w 0).2 := by
    rw [show ((0 : Nat) : Int) + 1 = 1 from rfl]
    rfl
  rw [e0]
  refine sum_loop gAg_ok mixed (c := bodyN Try.f9 2) (fun k => a3Sn n g es ml td t w ((k : Nat) + 1) (fsK td t w k).1 (fsK td t w k).2) g.toNat (e := .exit 4) (s := a2Sn n g es ml td t w) rfl (fun k hk => ?_) ⟨_, _, _, a3_exit n g es ml td t w _ _ _ (decide_eq_false (by omega))⟩
  obtain ⟨h1, h0, h2⟩ := h t w ((k : Int) + 1) ht.1 ht.2 hw.1 hw.2 (by omega) (by omega)
  have hc : td.getD (((((0 + 4) + (((k : Int) + 1)).toNat * 40) + t.toNat * 10) + w.toNat) - 4) [] = cellT td ((k : Int) + 1) t w := by rw [cell_idx]; rfl
  by_cases he : cellT td ((k : Int) + 1) t w = []
  · have e : fsK td t w (k + 1) = fsK td t w k := by show (if _ then _ else _) = _; rw [if_pos he]
    have := a3_none n g es ml td t w ((k : Int) + 1) ((k + 1 : Nat) + 1) (fsK td t w k).1 (fsK td t w k).2 (decide_eq_true (by omega)) (by omega) (by omega) (by omega) (by omega) (by omega) (by omega) (by omega) (by omega) (by rw [hc, he]; rfl) (by rw [hc, he]; rfl) ⟨by omega, by omega⟩ (by omega)
    simp only [e]
    exact ⟨_, _, _, this⟩
  · have e : fsK td t w (k + 1) = (recW ((cellT td ((k : Int) + 1) t w).getD 0 []) 0, true) := by show (if _ then _ else _) = _; rw [if_neg he]
    have hl : (cellT td ((k : Int) + 1) t w).length = 1 := by
      have : (cellT td ((k : Int) + 1) t w).length ≠ 0 := fun h => he (List.eq_nil_of_length_eq_zero h)
      omega
    simp only [e]
    cases hs : (fsK td t w k).2 with
    | false =>
      exact ⟨_, _, _, a3_first n g es ml td t w ((k : Int) + 1) ((k + 1 : Nat) + 1) (fsK td t w k).1 _ false (decide_eq_true (by omega)) (by omega) (by omega) (by omega) (by omega) (by omega) (by omega) (by omega) (by omega) (by rw [hc, hl]; rfl) (by rw [hc, hl]; rfl) rfl (by rw [hc, hl]; omega) ⟨by omega, by omega⟩ (by rw [hc]) (by omega)⟩
    | true =>
      obtain ⟨a, ha, hac, haf⟩ := fsK_some td t w k hs
      have hf : (fsK td t w k).1 = recW ((cellT td ((k : Int) + 1) t w).getD 0 []) 0 := by rw [haf]; exact (h2 ((a : Int) + 1) (by omega) (by omega) he hac).symm
      exact ⟨_, _, _, a3_more n g es ml td t w ((k : Int) + 1) ((k + 1 : Nat) + 1) (fsK td t w k).1 _ true (decide_eq_true (by omega)) (by omega) (by omega) (by omega) (by omega) (by omega) (by omega) (by omega) (by omega) (by rw [hc, hl]; rfl) (by rw [hc, hl]; rfl) rfl (by rw [hc, hl]; omega) (by rw [hc]; exact decide_eq_true hf) (by rw [hf]; omega) (by rw [hc]; omega) ⟨by omega, by omega⟩ (by rw [hc]) (by omega)⟩
theorem a2_sum {n g : Int} {es : List (Rec × Ob)} {ml : List Rec} {td : List (List Rec)} (h : AgOK n g td) (hn : 1 ≤ n ∧ n ≤ 9) (hg : 0 ≤ g ∧ g ≤ 9) {t : Int} (ht : 1 ≤ t ∧ t ≤ 3) :
    SumOK Try.prog DB (bodyN Try.f9 1) (loopL DB (a2Sn n g es ml td t 1) (.exit 2) (a1Sn n g es ml td t)) := by
  have e0 : a2Sn n g es ml td t 1 = a2Sn n g es ml td t ((0 : Nat) + 1) := by
    rw [show ((0 : Nat) : Int) + 1 = 1 from rfl]
  rw [e0]
  refine sum_loop gAg_ok mixed (c := bodyN Try.f9 1) (fun k => a2Sn n g es ml td t ((k : Nat) + 1)) n.toNat (e := .exit 2) (s := a1Sn n g es ml td t) rfl (fun k hk => ?_) ⟨_, _, _, a2_exit n g es ml td t _ (decide_eq_false (by omega))⟩
  exact ⟨_, _, _, a2_step n g es ml td t ((k : Int) + 1) ((k + 1 : Nat) + 1) (decide_eq_true (by omega)) (a3_sum h hn.2 hg ht ⟨by omega, by omega⟩) ⟨by omega, by omega⟩ (by omega)⟩
theorem a1_sum {n g : Int} {es : List (Rec × Ob)} {ml : List Rec} {td : List (List Rec)} (h : AgOK n g td) (hn : 1 ≤ n ∧ n ≤ 9) (hg : 0 ≤ g ∧ g ≤ 9) :
    SumOK Try.prog DB (bodyN Try.f9 0) (loopL DB (a1Sn n g es ml td 1) (.exit 0) (a1Ed n g es ml td)) := by
  have e0 : a1Sn n g es ml td 1 = a1Sn n g es ml td ((0 : Nat) + 1) := by
    rw [show ((0 : Nat) : Int) + 1 = 1 from rfl]
  rw [e0]
  refine sum_loop gAg_ok mixed (c := bodyN Try.f9 0) (fun k => a1Sn n g es ml td ((k : Nat) + 1)) 3 (e := .exit 0) (s := a1Ed n g es ml td) rfl (fun k hk => ?_) ⟨_, _, _, a1_exit n g es ml td _ (decide_eq_false (by omega))⟩
  exact ⟨_, _, _, a1_step n g es ml td ((k : Int) + 1) ((k + 1 : Nat) + 1) (decide_eq_true (by omega)) (a2_sum h hn hg ⟨by omega, by omega⟩) ⟨by omega, by omega⟩ (by omega)⟩
def agRd : List (BoxSt DB.τ) → List (A0 DB.τ) → Option (Int × Int × NetM)
  | [.fixed _ [.int .i64 _ n, .int .i64 _ g, .own 1, .own 2, .prss _ _ td], .fam _ es none, .dyn _ (.lrs _ ml)], [.one (.ref 0 0)] => some (n, g, es, ml, td)
  | _, _ => none
noncomputable def agrQ := mkF DB Try.f9.ntmps agRd (fun t => (ntB t.1 t.2.1 t.2.2.1 t.2.2.2.1 t.2.2.2.2, [.one (.ref 0 0)]))
  (fun t => some (.v (.one (.bool true true)), ntB t.1 t.2.1 t.2.2.1 t.2.2.2.1 t.2.2.2.2, [AgOK t.1 t.2.1 t.2.2.2.2, (1 ≤ t.1 ∧ t.1 ≤ 9) ∧ 0 ≤ t.2.1 ∧ t.2.1 ≤ 9]))
theorem agr_ok : OpOK Try.prog DB 9 agrQ := by
  refine opOK_mkG mixed Try.func9 (enters_of Try.func9 (by kernel_rfl) rfl) ?_
  rintro ⟨n, g, es, ml, td⟩ r' bs' ps h hps
  simp only [Option.some.injEq, Prod.mk.injEq] at h
  obtain ⟨rfl, rfl, rfl⟩ := h
  have h1 : AgOK n g td := hps (AgOK n g td) (by simp)
  obtain ⟨h2, h3⟩ : (1 ≤ n ∧ n ≤ 9) ∧ 0 ≤ g ∧ g ≤ 9 := hps ((1 ≤ n ∧ n ≤ 9) ∧ 0 ≤ g ∧ g ≤ 9) (by simp)
  exact ⟨_, _, _, gAg_ok, ag_run n g es ml td (a1_sum h1 h2 h3)⟩
end Go.Num
