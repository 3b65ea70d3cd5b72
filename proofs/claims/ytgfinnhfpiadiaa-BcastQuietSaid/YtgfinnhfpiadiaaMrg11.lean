/- Several texts put together: B10 B11 B12. -/
import Derived.Test.YtgfinnhfpiadiaaMrg10
namespace Go.Num
open Go.Abs Go.Proofs Go.Shelf Go.RowKit
def convA : List (BoxSt DB.τ) → Option (List (BoxSt DB.τ))
  | [h, .fixed t [.nil, .nil], f] => some [h, .fixed t [.own 3, .nil], f, msX []]
  | _ => none
def convB : List (BoxSt DB.τ) → Option (List (BoxSt DB.τ))
  | [h, .fixed t [.own 3, .nil], f, .dyn e p] => some [h, .fixed t [.own 3, .own 4], f, .dyn e p, tsX []]
  | _ => none
theorem convA_ok (bs b2 : List (BoxSt DB.τ)) (h : convA bs = some b2) : NilTo DB bs b2 := by
  unfold convA at h
  split at h
  · rename_i x t f
    cases h
    refine ⟨1, t, [.nil, .nil], [.own 3, .nil], 38, .lrs mSh [], rfl, rfl, rfl, fun E cs hal hnu hp => ?_⟩
    obtain ⟨c1, c2, rfl, h1, h2⟩ := hp
    obtain rfl : c1 = [Value.slice none 0 0] := h1
    have hal : E.al 3 := hal
    have hnu : E.ν 3 = .slice none 0 0 := hnu
    exact ⟨_, _, rfl, ⟨hal, by rw [hnu]; rfl, by rw [hnu]⟩, h2⟩
  · cases h
theorem convB_ok (bs b2 : List (BoxSt DB.τ)) (h : convB bs = some b2) : NilTo DB bs b2 := by
  unfold convB at h
  split at h
  · rename_i x t f e p
    cases h
    refine ⟨1, t, [.own 3, .nil], [.own 3, .own 4], 56, .lrs tSh [], rfl, rfl, rfl, fun E cs hal hnu hp => ?_⟩
    obtain ⟨c1, c2, rfl, h1, c3, c4, rfl, h3, h4⟩ := hp
    obtain rfl : c3 = [Value.slice none 0 0] := h3
    have hal : E.al 4 := hal
    have hnu : E.ν 4 = .slice none 0 0 := hnu
    exact ⟨_, _, rfl, h1, _, _, rfl, ⟨hal, by rw [hnu]; rfl, by rw [hnu]⟩, h4⟩
  · cases h
theorem viaA_ok {f : FuncId} {F : List (BoxSt DB.τ) → List (A0 DB.τ) → Option (AV DB.τ × List (BoxSt DB.τ) × List Prop)} (h : OpOK Try.prog DB f F) : OpOK Try.prog DB f (viaF convA F) := opOK_nil1 convA convA_ok h
theorem viaB_ok {f : FuncId} {F : List (BoxSt DB.τ) → List (A0 DB.τ) → Option (AV DB.τ × List (BoxSt DB.τ) × List Prop)} (h : OpOK Try.prog DB f F) : OpOK Try.prog DB f (viaF convB F) := opOK_nil1 convB convB_ok h
noncomputable def gInN : Gam DB := [(22, .op [true] idleQ), (23, .op [true, false, true] (viaF convA (viaF convB hearNQ)))]
theorem gInN_ok : GamOK Try.prog DB gInN := gam_op idle_ok (gam_op (viaA_ok (viaB_ok hearN_ok)) gam_nil)
noncomputable def gIn (p q : Bool) : Gam DB := [(22, .op [true] idleQ), (23, .op [true, false, true] (viaF convA (viaF convB (hear2Q p q))))]
theorem gIn_ok (p q : Bool) : GamOK Try.prog DB (gIn p q) := gam_op idle_ok (gam_op (viaA_ok (viaB_ok (hear2_ok p q))) gam_nil)
def inB2 (me : Int) (mb : List Int) (es : List (Rec × Ob)) (ms ts : List Rec) : List (BoxSt DB.τ) := [hubX me mb 1, .fam 1 es none, msX ms, tsX ts]
theorem in_n (me : Int) (mb : List Int) (es es' : List (Rec × Ob)) (k ep fr wh tp rd : Int) (bd : List Int) (ms' ts' : List Rec)
 (h1 : (mb ≠ ([] : List (Int))))
 (h2 : ((List.length mb) ≤ (1000 : Nat)))
 (h3 : (¬ (cntP mb (MsT.mk k ep fr wh tp rd bd))))
 (h4 : (es = es'))
 (h5 : (([] : List (Rec)) = ms'))
 (h6 : (([] : List (Rec)) = ts')) :
 ∃ ps, runO Try.prog DB gInN 100 Try.f15 (hbN me mb es, [.one (.ref 0 0), (MsT.mk k ep fr wh tp rd bd).a]) [] (.tup [.one (.own 2), .one (.own 3)]) (inB2 me mb es' ms' ts') = some ps ∧ AllQ ps := ⟨_, by kernel_rfl, qc (Eq.refl me) (qc (Eq.refl mb) (qc (Eq.refl es) (qc h1 (qc (Eq.refl k) (qc (Eq.refl ep) (qc (Eq.refl fr) (qc (Eq.refl wh) (qc (Eq.refl tp) (qc (Eq.refl rd) (qc (Eq.refl bd) (qc (Eq.refl me) (qc (Eq.refl mb) (qc (Eq.refl es) (qc (Eq.refl (([] : List (Rec)))) (qc (Eq.refl (([] : List (Rec)))) (qc h2 (qc h3 (qc (Eq.refl me) (qc (Eq.refl mb) (qc h4 (qc h5 (qc h6 (qn)))))))))))))))))))))))⟩
theorem in_FF (me : Int) (mb : List Int) (es es' : List (Rec × Ob)) (k ep fr wh tp rd : Int) (bd : List Int) (ms' ts' : List Rec)
 (h1 : (mb ≠ ([] : List (Int))))
 (h2 : (Base7 (40000 : Nat) mb (MsT.mk k ep fr wh tp rd bd) (s0Of es (MsT.mk k ep fr wh tp rd bd) ([] : List (Rec)) ([] : List (Rec)))))
 (h3 : ((cntP mb (MsT.mk k ep fr wh tp rd bd)) ∧ (List.Mem me mb)))
 (h4 : (((hear2M me mb (MsT.mk k ep fr wh tp rd bd) (s0Of es (MsT.mk k ep fr wh tp rd bd) ([] : List (Rec)) ([] : List (Rec))))).2 = (false, false)))
 (h5 : ((esOf es (MsT.mk k ep fr wh tp rd bd) ((hear2M me mb (MsT.mk k ep fr wh tp rd bd) (s0Of es (MsT.mk k ep fr wh tp rd bd) ([] : List (Rec)) ([] : List (Rec))))).1) = es'))
 (h6 : ((((hear2M me mb (MsT.mk k ep fr wh tp rd bd) (s0Of es (MsT.mk k ep fr wh tp rd bd) ([] : List (Rec)) ([] : List (Rec))))).1).2 = ms'))
 (h7 : ((((hear2M me mb (MsT.mk k ep fr wh tp rd bd) (s0Of es (MsT.mk k ep fr wh tp rd bd) ([] : List (Rec)) ([] : List (Rec))))).1).3 = ts')) :
 ∃ ps, runO Try.prog DB (gIn false false) 100 Try.f15 (hbN me mb es, [.one (.ref 0 0), (MsT.mk k ep fr wh tp rd bd).a]) [] (.tup [.one (.own 2), .one (.own 3)]) (inB2 me mb es' ms' ts') = some ps ∧ AllQ ps := ⟨_, by kernel_rfl, qc (Eq.refl me) (qc (Eq.refl mb) (qc (Eq.refl es) (qc h1 (qc (Eq.refl k) (qc (Eq.refl ep) (qc (Eq.refl fr) (qc (Eq.refl wh) (qc (Eq.refl tp) (qc (Eq.refl rd) (qc (Eq.refl bd) (qc (Eq.refl me) (qc (Eq.refl mb) (qc (Eq.refl es) (qc (Eq.refl (([] : List (Rec)))) (qc (Eq.refl (([] : List (Rec)))) (qc h2 (qc h3 (qc h4 (qc (Eq.refl me) (qc (Eq.refl mb) (qc h5 (qc h6 (qc h7 (qn))))))))))))))))))))))))⟩
theorem in_FT (me : Int) (mb : List Int) (es es' : List (Rec × Ob)) (k ep fr wh tp rd : Int) (bd : List Int) (ms' ts' : List Rec)
 (h1 : (mb ≠ ([] : List (Int))))
 (h2 : (Base7 (40000 : Nat) mb (MsT.mk k ep fr wh tp rd bd) (s0Of es (MsT.mk k ep fr wh tp rd bd) ([] : List (Rec)) ([] : List (Rec)))))
 (h3 : ((cntP mb (MsT.mk k ep fr wh tp rd bd)) ∧ (List.Mem me mb)))
 (h4 : (((hear2M me mb (MsT.mk k ep fr wh tp rd bd) (s0Of es (MsT.mk k ep fr wh tp rd bd) ([] : List (Rec)) ([] : List (Rec))))).2 = (false, true)))
 (h5 : ((esOf es (MsT.mk k ep fr wh tp rd bd) ((hear2M me mb (MsT.mk k ep fr wh tp rd bd) (s0Of es (MsT.mk k ep fr wh tp rd bd) ([] : List (Rec)) ([] : List (Rec))))).1) = es'))
 (h6 : ((((hear2M me mb (MsT.mk k ep fr wh tp rd bd) (s0Of es (MsT.mk k ep fr wh tp rd bd) ([] : List (Rec)) ([] : List (Rec))))).1).2 = ms'))
 (h7 : ((((hear2M me mb (MsT.mk k ep fr wh tp rd bd) (s0Of es (MsT.mk k ep fr wh tp rd bd) ([] : List (Rec)) ([] : List (Rec))))).1).3 = ts')) :
 ∃ ps, runO Try.prog DB (gIn false true) 100 Try.f15 (hbN me mb es, [.one (.ref 0 0), (MsT.mk k ep fr wh tp rd bd).a]) [] (.tup [.one (.own 2), .one (.own 3)]) (inB2 me mb es' ms' ts') = some ps ∧ AllQ ps := ⟨_, by kernel_rfl, qc (Eq.refl me) (qc (Eq.refl mb) (qc (Eq.refl es) (qc h1 (qc (Eq.refl k) (qc (Eq.refl ep) (qc (Eq.refl fr) (qc (Eq.refl wh) (qc (Eq.refl tp) (qc (Eq.refl rd) (qc (Eq.refl bd) (qc (Eq.refl me) (qc (Eq.refl mb) (qc (Eq.refl es) (qc (Eq.refl (([] : List (Rec)))) (qc (Eq.refl (([] : List (Rec)))) (qc h2 (qc h3 (qc h4 (qc (Eq.refl me) (qc (Eq.refl mb) (qc h5 (qc h6 (qc h7 (qn))))))))))))))))))))))))⟩
theorem in_TF (me : Int) (mb : List Int) (es es' : List (Rec × Ob)) (k ep fr wh tp rd : Int) (bd : List Int) (ms' ts' : List Rec)
 (h1 : (mb ≠ ([] : List (Int))))
 (h2 : (Base7 (40000 : Nat) mb (MsT.mk k ep fr wh tp rd bd) (s0Of es (MsT.mk k ep fr wh tp rd bd) ([] : List (Rec)) ([] : List (Rec)))))
 (h3 : ((cntP mb (MsT.mk k ep fr wh tp rd bd)) ∧ (List.Mem me mb)))
 (h4 : (((hear2M me mb (MsT.mk k ep fr wh tp rd bd) (s0Of es (MsT.mk k ep fr wh tp rd bd) ([] : List (Rec)) ([] : List (Rec))))).2 = (true, false)))
 (h5 : ((esOf es (MsT.mk k ep fr wh tp rd bd) ((hear2M me mb (MsT.mk k ep fr wh tp rd bd) (s0Of es (MsT.mk k ep fr wh tp rd bd) ([] : List (Rec)) ([] : List (Rec))))).1) = es'))
 (h6 : ((((hear2M me mb (MsT.mk k ep fr wh tp rd bd) (s0Of es (MsT.mk k ep fr wh tp rd bd) ([] : List (Rec)) ([] : List (Rec))))).1).2 = ms'))
 (h7 : ((((hear2M me mb (MsT.mk k ep fr wh tp rd bd) (s0Of es (MsT.mk k ep fr wh tp rd bd) ([] : List (Rec)) ([] : List (Rec))))).1).3 = ts')) :
 ∃ ps, runO Try.prog DB (gIn true false) 100 Try.f15 (hbN me mb es, [.one (.ref 0 0), (MsT.mk k ep fr wh tp rd bd).a]) [] (.tup [.one (.own 2), .one (.own 3)]) (inB2 me mb es' ms' ts') = some ps ∧ AllQ ps := ⟨_, by kernel_rfl, qc (Eq.refl me) (qc (Eq.refl mb) (qc (Eq.refl es) (qc h1 (qc (Eq.refl k) (qc (Eq.refl ep) (qc (Eq.refl fr) (qc (Eq.refl wh) (qc (Eq.refl tp) (qc (Eq.refl rd) (qc (Eq.refl bd) (qc (Eq.refl me) (qc (Eq.refl mb) (qc (Eq.refl es) (qc (Eq.refl (([] : List (Rec)))) (qc (Eq.refl (([] : List (Rec)))) (qc h2 (qc h3 (qc h4 (qc (Eq.refl me) (qc (Eq.refl mb) (qc h5 (qc h6 (qc h7 (qn))))))))))))))))))))))))⟩
theorem in_TT (me : Int) (mb : List Int) (es es' : List (Rec × Ob)) (k ep fr wh tp rd : Int) (bd : List Int) (ms' ts' : List Rec)
 (h1 : (mb ≠ ([] : List (Int))))
 (h2 : (Base7 (40000 : Nat) mb (MsT.mk k ep fr wh tp rd bd) (s0Of es (MsT.mk k ep fr wh tp rd bd) ([] : List (Rec)) ([] : List (Rec)))))
 (h3 : ((cntP mb (MsT.mk k ep fr wh tp rd bd)) ∧ (List.Mem me mb)))
 (h4 : (((hear2M me mb (MsT.mk k ep fr wh tp rd bd) (s0Of es (MsT.mk k ep fr wh tp rd bd) ([] : List (Rec)) ([] : List (Rec))))).2 = (true, true)))
 (h5 : ((esOf es (MsT.mk k ep fr wh tp rd bd) ((hear2M me mb (MsT.mk k ep fr wh tp rd bd) (s0Of es (MsT.mk k ep fr wh tp rd bd) ([] : List (Rec)) ([] : List (Rec))))).1) = es'))
 (h6 : ((((hear2M me mb (MsT.mk k ep fr wh tp rd bd) (s0Of es (MsT.mk k ep fr wh tp rd bd) ([] : List (Rec)) ([] : List (Rec))))).1).2 = ms'))
 (h7 : ((((hear2M me mb (MsT.mk k ep fr wh tp rd bd) (s0Of es (MsT.mk k ep fr wh tp rd bd) ([] : List (Rec)) ([] : List (Rec))))).1).3 = ts')) :
 ∃ ps, runO Try.prog DB (gIn true true) 100 Try.f15 (hbN me mb es, [.one (.ref 0 0), (MsT.mk k ep fr wh tp rd bd).a]) [] (.tup [.one (.own 2), .one (.own 3)]) (inB2 me mb es' ms' ts') = some ps ∧ AllQ ps := ⟨_, by kernel_rfl, qc (Eq.refl me) (qc (Eq.refl mb) (qc (Eq.refl es) (qc h1 (qc (Eq.refl k) (qc (Eq.refl ep) (qc (Eq.refl fr) (qc (Eq.refl wh) (qc (Eq.refl tp) (qc (Eq.refl rd) (qc (Eq.refl bd) (qc (Eq.refl me) (qc (Eq.refl mb) (qc (Eq.refl es) (qc (Eq.refl (([] : List (Rec)))) (qc (Eq.refl (([] : List (Rec)))) (qc h2 (qc h3 (qc h4 (qc (Eq.refl me) (qc (Eq.refl mb) (qc h5 (qc h6 (qc h7 (qn))))))))))))))))))))))))⟩
noncomputable def gSa (p q : Bool) : Gam DB := [(22, .op [true] idleQ), (24, .fz clB7), (23, .op [true, false, true] (viaF convB (hear2Q p q)))]
theorem gSa_ok (p q : Bool) : GamOK Try.prog DB (gSa p q) := gam_op idle_ok (gam_fz clB7_ok (gam_op (viaB_ok (hear2_ok p q)) gam_nil))
abbrev sa_FF_x1 (me : Int) (mb : List Int) (es : List (Rec × Ob)) (tp : Int) (bd : List Int) := ((hear2M me mb (MsT.mk (1 : Int) (0 : Int) me me tp (0 : Int) bd) (s0Of es (MsT.mk (1 : Int) (0 : Int) me me tp (0 : Int) bd) [[(Fd.i (1 : Int)), (Fd.i (0 : Int)), (Fd.i me), (Fd.i me), (Fd.i tp), (Fd.i (0 : Int)), (Fd.w bd)]] ([] : List (Rec)))))
theorem sa_FF (me : Int) (mb : List Int) (es es' : List (Rec × Ob)) (tp : Int) (bd : List Int) (ms' ts' : List Rec)
 (h1 : (mb ≠ ([] : List (Int))))
 (h2 : ((List.length bd) ≤ (140737488355328 : Nat)))
 (h3 : (Base7 (40000 : Nat) mb (MsT.mk (1 : Int) (0 : Int) me me tp (0 : Int) bd) (s0Of es (MsT.mk (1 : Int) (0 : Int) me me tp (0 : Int) bd) [[(Fd.i (1 : Int)), (Fd.i (0 : Int)), (Fd.i me), (Fd.i me), (Fd.i tp), (Fd.i (0 : Int)), (Fd.w bd)]] ([] : List (Rec)))))
 (h4 : ((cntP mb (MsT.mk (1 : Int) (0 : Int) me me tp (0 : Int) bd)) ∧ (List.Mem me mb)))
 (h5 : ((sa_FF_x1 me mb es tp bd).2 = (false, false)))
 (h6 : ((esOf es (MsT.mk (1 : Int) (0 : Int) me me tp (0 : Int) bd) (sa_FF_x1 me mb es tp bd).1) = es'))
 (h7 : (((sa_FF_x1 me mb es tp bd).1).2 = ms'))
 (h8 : (((sa_FF_x1 me mb es tp bd).1).3 = ts')) :
 ∃ ps, runO Try.prog DB (gSa false false) 100 Try.f16 (hbN me mb es, [.one (.ref 0 0), .one (.int .i64 false tp), .one (.words .u8 bd)]) [] (.tup [.one (.own 2), .one (.own 3)]) (inB2 me mb es' ms' ts') = some ps ∧ AllQ ps := ⟨_, by kernel_rfl, qc (Eq.refl me) (qc (Eq.refl mb) (qc (Eq.refl es) (qc h1 (qc h2 (qc (Eq.refl ((1 : Int))) (qc (Eq.refl ((0 : Int))) (qc (Eq.refl me) (qc (Eq.refl me) (qc (Eq.refl tp) (qc (Eq.refl ((0 : Int))) (qc (Eq.refl bd) (qc (Eq.refl me) (qc (Eq.refl mb) (qc (Eq.refl es) (qc (Eq.refl ([[(Fd.i (1 : Int)), (Fd.i (0 : Int)), (Fd.i me), (Fd.i me), (Fd.i tp), (Fd.i (0 : Int)), (Fd.w bd)]])) (qc (Eq.refl (([] : List (Rec)))) (qc h3 (qc h4 (qc h5 (qc (Eq.refl me) (qc (Eq.refl mb) (qc h6 (qc h7 (qc h8 (qn)))))))))))))))))))))))))⟩
abbrev sa_FT_x1 (me : Int) (mb : List Int) (es : List (Rec × Ob)) (tp : Int) (bd : List Int) := ((hear2M me mb (MsT.mk (1 : Int) (0 : Int) me me tp (0 : Int) bd) (s0Of es (MsT.mk (1 : Int) (0 : Int) me me tp (0 : Int) bd) [[(Fd.i (1 : Int)), (Fd.i (0 : Int)), (Fd.i me), (Fd.i me), (Fd.i tp), (Fd.i (0 : Int)), (Fd.w bd)]] ([] : List (Rec)))))
theorem sa_FT (me : Int) (mb : List Int) (es es' : List (Rec × Ob)) (tp : Int) (bd : List Int) (ms' ts' : List Rec)
 (h1 : (mb ≠ ([] : List (Int))))
 (h2 : ((List.length bd) ≤ (140737488355328 : Nat)))
 (h3 : (Base7 (40000 : Nat) mb (MsT.mk (1 : Int) (0 : Int) me me tp (0 : Int) bd) (s0Of es (MsT.mk (1 : Int) (0 : Int) me me tp (0 : Int) bd) [[(Fd.i (1 : Int)), (Fd.i (0 : Int)), (Fd.i me), (Fd.i me), (Fd.i tp), (Fd.i (0 : Int)), (Fd.w bd)]] ([] : List (Rec)))))
 (h4 : ((cntP mb (MsT.mk (1 : Int) (0 : Int) me me tp (0 : Int) bd)) ∧ (List.Mem me mb)))
 (h5 : ((sa_FT_x1 me mb es tp bd).2 = (false, true)))
 (h6 : ((esOf es (MsT.mk (1 : Int) (0 : Int) me me tp (0 : Int) bd) (sa_FT_x1 me mb es tp bd).1) = es'))
 (h7 : (((sa_FT_x1 me mb es tp bd).1).2 = ms'))
 (h8 : (((sa_FT_x1 me mb es tp bd).1).3 = ts')) :
 ∃ ps, runO Try.prog DB (gSa false true) 100 Try.f16 (hbN me mb es, [.one (.ref 0 0), .one (.int .i64 false tp), .one (.words .u8 bd)]) [] (.tup [.one (.own 2), .one (.own 3)]) (inB2 me mb es' ms' ts') = some ps ∧ AllQ ps := ⟨_, by kernel_rfl, qc (Eq.refl me) (qc (Eq.refl mb) (qc (Eq.refl es) (qc h1 (qc h2 (qc (Eq.refl ((1 : Int))) (qc (Eq.refl ((0 : Int))) (qc (Eq.refl me) (qc (Eq.refl me) (qc (Eq.refl tp) (qc (Eq.refl ((0 : Int))) (qc (Eq.refl bd) (qc (Eq.refl me) (qc (Eq.refl mb) (qc (Eq.refl es) (qc (Eq.refl ([[(Fd.i (1 : Int)), (Fd.i (0 : Int)), (Fd.i me), (Fd.i me), (Fd.i tp), (Fd.i (0 : Int)), (Fd.w bd)]])) (qc (Eq.refl (([] : List (Rec)))) (qc h3 (qc h4 (qc h5 (qc (Eq.refl me) (qc (Eq.refl mb) (qc h6 (qc h7 (qc h8 (qn)))))))))))))))))))))))))⟩
abbrev sa_TF_x1 (me : Int) (mb : List Int) (es : List (Rec × Ob)) (tp : Int) (bd : List Int) := ((hear2M me mb (MsT.mk (1 : Int) (0 : Int) me me tp (0 : Int) bd) (s0Of es (MsT.mk (1 : Int) (0 : Int) me me tp (0 : Int) bd) [[(Fd.i (1 : Int)), (Fd.i (0 : Int)), (Fd.i me), (Fd.i me), (Fd.i tp), (Fd.i (0 : Int)), (Fd.w bd)]] ([] : List (Rec)))))
theorem sa_TF (me : Int) (mb : List Int) (es es' : List (Rec × Ob)) (tp : Int) (bd : List Int) (ms' ts' : List Rec)
 (h1 : (mb ≠ ([] : List (Int))))
 (h2 : ((List.length bd) ≤ (140737488355328 : Nat)))
 (h3 : (Base7 (40000 : Nat) mb (MsT.mk (1 : Int) (0 : Int) me me tp (0 : Int) bd) (s0Of es (MsT.mk (1 : Int) (0 : Int) me me tp (0 : Int) bd) [[(Fd.i (1 : Int)), (Fd.i (0 : Int)), (Fd.i me), (Fd.i me), (Fd.i tp), (Fd.i (0 : Int)), (Fd.w bd)]] ([] : List (Rec)))))
 (h4 : ((cntP mb (MsT.mk (1 : Int) (0 : Int) me me tp (0 : Int) bd)) ∧ (List.Mem me mb)))
 (h5 : ((sa_TF_x1 me mb es tp bd).2 = (true, false)))
 (h6 : ((esOf es (MsT.mk (1 : Int) (0 : Int) me me tp (0 : Int) bd) (sa_TF_x1 me mb es tp bd).1) = es'))
 (h7 : (((sa_TF_x1 me mb es tp bd).1).2 = ms'))
 (h8 : (((sa_TF_x1 me mb es tp bd).1).3 = ts')) :
 ∃ ps, runO Try.prog DB (gSa true false) 100 Try.f16 (hbN me mb es, [.one (.ref 0 0), .one (.int .i64 false tp), .one (.words .u8 bd)]) [] (.tup [.one (.own 2), .one (.own 3)]) (inB2 me mb es' ms' ts') = some ps ∧ AllQ ps := ⟨_, by kernel_rfl, qc (Eq.refl me) (qc (Eq.refl mb) (qc (Eq.refl es) (qc h1 (qc h2 (qc (Eq.refl ((1 : Int))) (qc (Eq.refl ((0 : Int))) (qc (Eq.refl me) (qc (Eq.refl me) (qc (Eq.refl tp) (qc (Eq.refl ((0 : Int))) (qc (Eq.refl bd) (qc (Eq.refl me) (qc (Eq.refl mb) (qc (Eq.refl es) (qc (Eq.refl ([[(Fd.i (1 : Int)), (Fd.i (0 : Int)), (Fd.i me), (Fd.i me), (Fd.i tp), (Fd.i (0 : Int)), (Fd.w bd)]])) (qc (Eq.refl (([] : List (Rec)))) (qc h3 (qc h4 (qc h5 (qc (Eq.refl me) (qc (Eq.refl mb) (qc h6 (qc h7 (qc h8 (qn)))))))))))))))))))))))))⟩
abbrev sa_TT_x1 (me : Int) (mb : List Int) (es : List (Rec × Ob)) (tp : Int) (bd : List Int) := ((hear2M me mb (MsT.mk (1 : Int) (0 : Int) me me tp (0 : Int) bd) (s0Of es (MsT.mk (1 : Int) (0 : Int) me me tp (0 : Int) bd) [[(Fd.i (1 : Int)), (Fd.i (0 : Int)), (Fd.i me), (Fd.i me), (Fd.i tp), (Fd.i (0 : Int)), (Fd.w bd)]] ([] : List (Rec)))))
theorem sa_TT (me : Int) (mb : List Int) (es es' : List (Rec × Ob)) (tp : Int) (bd : List Int) (ms' ts' : List Rec)
 (h1 : (mb ≠ ([] : List (Int))))
 (h2 : ((List.length bd) ≤ (140737488355328 : Nat)))
 (h3 : (Base7 (40000 : Nat) mb (MsT.mk (1 : Int) (0 : Int) me me tp (0 : Int) bd) (s0Of es (MsT.mk (1 : Int) (0 : Int) me me tp (0 : Int) bd) [[(Fd.i (1 : Int)), (Fd.i (0 : Int)), (Fd.i me), (Fd.i me), (Fd.i tp), (Fd.i (0 : Int)), (Fd.w bd)]] ([] : List (Rec)))))
 (h4 : ((cntP mb (MsT.mk (1 : Int) (0 : Int) me me tp (0 : Int) bd)) ∧ (List.Mem me mb)))
 (h5 : ((sa_TT_x1 me mb es tp bd).2 = (true, true)))
 (h6 : ((esOf es (MsT.mk (1 : Int) (0 : Int) me me tp (0 : Int) bd) (sa_TT_x1 me mb es tp bd).1) = es'))
 (h7 : (((sa_TT_x1 me mb es tp bd).1).2 = ms'))
 (h8 : (((sa_TT_x1 me mb es tp bd).1).3 = ts')) :
 ∃ ps, runO Try.prog DB (gSa true true) 100 Try.f16 (hbN me mb es, [.one (.ref 0 0), .one (.int .i64 false tp), .one (.words .u8 bd)]) [] (.tup [.one (.own 2), .one (.own 3)]) (inB2 me mb es' ms' ts') = some ps ∧ AllQ ps := ⟨_, by kernel_rfl, qc (Eq.refl me) (qc (Eq.refl mb) (qc (Eq.refl es) (qc h1 (qc h2 (qc (Eq.refl ((1 : Int))) (qc (Eq.refl ((0 : Int))) (qc (Eq.refl me) (qc (Eq.refl me) (qc (Eq.refl tp) (qc (Eq.refl ((0 : Int))) (qc (Eq.refl bd) (qc (Eq.refl me) (qc (Eq.refl mb) (qc (Eq.refl es) (qc (Eq.refl ([[(Fd.i (1 : Int)), (Fd.i (0 : Int)), (Fd.i me), (Fd.i me), (Fd.i tp), (Fd.i (0 : Int)), (Fd.w bd)]])) (qc (Eq.refl (([] : List (Rec)))) (qc h3 (qc h4 (qc h5 (qc (Eq.refl me) (qc (Eq.refl mb) (qc h6 (qc h7 (qc h8 (qn)))))))))))))))))))))))))⟩
noncomputable def gNw : Gam DB := [(20, .fn contains7D), (21, .fz clI7)]
theorem gNw_ok : GamOK Try.prog DB gNw := gam_cons contains7_ok (gam_fz clI7_ok gam_nil)
def nwSn (me : Int) (mb : List Int) (a k : Int) : Sn DB.τ where
  slots := [(0, .v (.one (.int .i64 false me))), (1, .v (.one (.words .i64 mb))), (5, .v (.one (.int .i64 false a))), (8, .v (.one (.words .i64 mb))), (9, .v (.one (.int .i64 false mb.length))), (10, .v (.one (.int .i64 false k)))]
  boxes := []
  nt := 33
def nwEd (me : Int) (mb : List Int) : Sn DB.τ where
  slots := [(0, .v (.one (.int .i64 false me))), (1, .v (.one (.words .i64 mb)))]
  boxes := []
  nt := 33
theorem nw_step (me : Int) (mb : List Int) (a a' k k' : Int)
 (h1 : ((decide (k < (((List.length mb) : Nat) : Int))) = true))
 (h2 : ((0 : Int) ≤ k))
 (h3 : (k < (((List.length mb) : Nat) : Int)))
 (h4 : ((decide ((List.getD mb (Int.toNat k) (0 : Int)) ≤ a)) = false))
 (h5 : ((decide ((List.getD mb (Int.toNat k) (0 : Int)) > (9 : Int))) = false))
 (h6 : (InI64 (k + (1 : Int))))
 (h7 : ((List.getD mb (Int.toNat k) (0 : Int)) = a'))
 (h8 : ((k + (1 : Int)) = k')) :
 ∃ ps, stepPs Try.prog DB gNw 100 (bodyN Try.f12 0) 100 (nwSn me mb a k).st [.is true, .is false, .is false] .normal (nwSn me mb a' k') = some ps ∧ AllQ ps := ⟨_, by kernel_rfl, qc h1 (qc h2 (qc h3 (qc h4 (qc h5 (qc h6 (qc (Eq.refl me) (qc (Eq.refl mb) (qc h7 (qc (Eq.refl mb) (qc (Eq.refl ((((List.length mb) : Nat) : Int))) (qc h8 (qn))))))))))))⟩
theorem nw_exit (me : Int) (mb : List Int) (a k : Int)
 (h1 : ((decide (k < (((List.length mb) : Nat) : Int))) = false)) :
 ∃ ps, stepPs Try.prog DB gNw 100 (bodyN Try.f12 0) 100 (nwSn me mb a k).st [.is false] (.exit 0) (nwEd me mb) = some ps ∧ AllQ ps := ⟨_, by kernel_rfl, qc h1 (qc (Eq.refl me) (qc (Eq.refl mb) (qn)))⟩
theorem nw_run (me : Int) (mb : List Int)
 (h1 : SumOK Try.prog DB (bodyN Try.f12 0) (loopL DB (nwSn me mb 0 (0 : Nat)) (.exit 0) (nwEd me mb)))
 (h2 : ((decide ((0 : Int) ≤ (idxF mb me))) = true))
 (h3 : ((List.length mb) ≤ (1000 : Nat)))
 (h4 : ((List.length mb) ≤ (17592186044416 : Nat))) :
 ∃ ps, runO Try.prog DB gNw 100 Try.f12 ([], [.one (.int .i64 false me), .one (.words .i64 mb)]) [.loop (loopL DB (nwSn me mb 0 (0 : Nat)) (.exit 0) (nwEd me mb)), .is true] (.v (.one (.ref 0 0))) (hbN me mb []) = some ps ∧ AllQ ps := ⟨_, by kernel_rfl, qc h1 (qc (Eq.refl me) (qc (Eq.refl mb) (qc (Eq.refl ((0 : Int))) (qc (Eq.refl mb) (qc (Eq.refl ((((List.length mb) : Nat) : Int))) (qc (show ((0 : Int) = (((0 : Nat) : Nat) : Int)) from by decide) (qc h2 (qc h3 (qc h4 (qc (Eq.refl me) (qc (Eq.refl mb) (qc (Eq.refl (([] : List (Rec × Ob)))) (qn)))))))))))))⟩
def EsOK (n : Nat) (es : List (Rec × Ob)) : Prop := ∀ key, ((ofT es key).ee.length ≤ n ∧ ∀ e ∈ (ofT es key).ee, InB (recW e.2.r 0)) ∧ ((ofT es key).rr.length ≤ n ∧ ∀ e ∈ (ofT es key).rr, InB (recW e.2.r 0))
def HbOK (me : Int) (mb : List Int) : Prop := mb ≠ [] ∧ mb.length ≤ 1000 ∧ me ∈ mb
def inM (me : Int) (mb : List Int) (es : List (Rec × Ob)) (m : MsT) : List (Rec × Ob) × List Rec × List Rec :=
  if cntP mb m then (esOf es m (hear2M me mb m (s0Of es m [] [])).1, (hear2M me mb m (s0Of es m [] [])).1.ms, (hear2M me mb m (s0Of es m [] [])).1.ts) else (es, [], [])
theorem inM_yes {me : Int} {mb : List Int} {es : List (Rec × Ob)} {m : MsT} (h : cntP mb m) : inM me mb es m = (esOf es m (hear2M me mb m (s0Of es m [] [])).1, (hear2M me mb m (s0Of es m [] [])).1.ms, (hear2M me mb m (s0Of es m [] [])).1.ts) := if_pos h
theorem inM_no {me : Int} {mb : List Int} {es : List (Rec × Ob)} {m : MsT} (h : ¬ cntP mb m) : inM me mb es m = (es, [], []) := if_neg h
theorem base_of {n : Nat} {me : Int} {mb : List Int} {es : List (Rec × Ob)} {m : MsT} {ms ts : List Rec} (h : HbOK me mb) (he : EsOK n es) (hb : InB m.bd) (hl : m.bd.length ≤ 4096) (hm : ms.length ≤ n) (ht : ts.length ≤ n) : Base7 n mb m (s0Of es m ms ts) :=
  ⟨h.1, h.2.1, (he m.key).1, (he m.key).2, hb, hl, hm, ht⟩
noncomputable def inQ := mkF DB Try.f15.ntmps (fun bs xs => (hmRd bs xs).bind nOnly) (fun t => (hbN t.1.1 t.1.2.1 t.1.2.2, [.one (.ref 0 0), t.2.a]))
  (fun t => some (.tup [.one (.own 2), .one (.own 3)], inB2 t.1.1 t.1.2.1 (inM t.1.1 t.1.2.1 t.1.2.2 t.2).1 (inM t.1.1 t.1.2.1 t.1.2.2 t.2).2.1 (inM t.1.1 t.1.2.1 t.1.2.2 t.2).2.2, [HbOK t.1.1 t.1.2.1, EsOK 30000 t.1.2.2, InB t.2.bd]))
theorem in_ok : OpOK Try.prog DB 15 inQ := by
  refine opOK_mkG mixed Try.func15 (enters_of Try.func15 (by kernel_rfl) rfl) ?_
  rintro ⟨⟨me, mb, es⟩, ⟨k, ep, fr, wh, tp, rd, bd⟩⟩ r' bs' ps h hps
  simp only [Option.some.injEq, Prod.mk.injEq] at h
  obtain ⟨rfl, rfl, rfl⟩ := h
  have hh : HbOK me mb := hps (HbOK me mb) (by simp)
  have he : EsOK 30000 es := hps (EsOK 30000 es) (by simp)
  have hb : InB bd := hps (InB bd) (by simp)
  simp only
  by_cases hc : cntP mb ⟨k, ep, fr, wh, tp, rd, bd⟩
  · rw [inM_yes hc]
    have hba := (base_of (m := ⟨k, ep, fr, wh, tp, rd, bd⟩) (ms := []) (ts := []) hh he hb hc.2.2.2.1 (Nat.zero_le _) (Nat.zero_le _)).mono (show 30000 ≤ 40000 by decide)
    cases p1 : (hear2M me mb ⟨k, ep, fr, wh, tp, rd, bd⟩ (s0Of es ⟨k, ep, fr, wh, tp, rd, bd⟩ [] [])).2.1 <;> cases q1 : (hear2M me mb ⟨k, ep, fr, wh, tp, rd, bd⟩ (s0Of es ⟨k, ep, fr, wh, tp, rd, bd⟩ [] [])).2.2
    · exact ⟨_, _, _, gIn_ok false false, in_FF me mb es _ k ep fr wh tp rd bd _ _ hh.1 hba ⟨hc, hh.2.2⟩ (Prod.ext p1 q1) rfl rfl rfl⟩
    · exact ⟨_, _, _, gIn_ok false true, in_FT me mb es _ k ep fr wh tp rd bd _ _ hh.1 hba ⟨hc, hh.2.2⟩ (Prod.ext p1 q1) rfl rfl rfl⟩
    · exact ⟨_, _, _, gIn_ok true false, in_TF me mb es _ k ep fr wh tp rd bd _ _ hh.1 hba ⟨hc, hh.2.2⟩ (Prod.ext p1 q1) rfl rfl rfl⟩
    · exact ⟨_, _, _, gIn_ok true true, in_TT me mb es _ k ep fr wh tp rd bd _ _ hh.1 hba ⟨hc, hh.2.2⟩ (Prod.ext p1 q1) rfl rfl rfl⟩
  · rw [inM_no hc]
    exact ⟨_, _, _, gInN_ok, in_n me mb es _ k ep fr wh tp rd bd _ _ hh.1 hh.2.1 hc rfl rfl rfl⟩
def initM (me tp : Int) (bd : List Int) : MsT := ⟨1, 0, me, me, tp, 0, bd⟩
def sayHM (me : Int) (mb : List Int) (es : List (Rec × Ob)) (tp : Int) (bd : List Int) : List (Rec × Ob) × List Rec × List Rec :=
  (esOf es (initM me tp bd) (hear2M me mb (initM me tp bd) (s0Of es (initM me tp bd) [(initM me tp bd).r] [])).1, (hear2M me mb (initM me tp bd) (s0Of es (initM me tp bd) [(initM me tp bd).r] [])).1.ms, (hear2M me mb (initM me tp bd) (s0Of es (initM me tp bd) [(initM me tp bd).r] [])).1.ts)
def saRd (bs : List (BoxSt DB.τ)) : List (A0 DB.τ) → Option ((Int × List Int × List (Rec × Ob)) × Int × List Int)
  | [.one (.ref 0 0), .one (.int .i64 _ tp), .one (.words .u8 bd)] => match hbRd bs with
    | some (me, mb, es, none) => some ((me, mb, es), tp, bd)
    | _ => none
  | _ => none
noncomputable def sayHQ := mkF DB Try.f16.ntmps saRd (fun t => (hbN t.1.1 t.1.2.1 t.1.2.2, [.one (.ref 0 0), .one (.int .i64 false t.2.1), .one (.words .u8 t.2.2)]))
  (fun t => some (.tup [.one (.own 2), .one (.own 3)], inB2 t.1.1 t.1.2.1 (sayHM t.1.1 t.1.2.1 t.1.2.2 t.2.1 t.2.2).1 (sayHM t.1.1 t.1.2.1 t.1.2.2 t.2.1 t.2.2).2.1 (sayHM t.1.1 t.1.2.1 t.1.2.2 t.2.1 t.2.2).2.2, [HbOK t.1.1 t.1.2.1, EsOK 30000 t.1.2.2, InB t.2.2, (1 ≤ t.2.1 ∧ t.2.1 ≤ 3) ∧ t.2.2.length ≤ 4096]))
theorem sayH_ok : OpOK Try.prog DB 16 sayHQ := by
  refine opOK_mkG mixed Try.func16 (enters_of Try.func16 (by kernel_rfl) rfl) ?_
  rintro ⟨⟨me, mb, es⟩, tp, bd⟩ r' bs' ps h hps
  simp only [Option.some.injEq, Prod.mk.injEq] at h
  obtain ⟨rfl, rfl, rfl⟩ := h
  have hh : HbOK me mb := hps (HbOK me mb) (by simp)
  have he : EsOK 30000 es := hps (EsOK 30000 es) (by simp)
  have hb : InB bd := hps (InB bd) (by simp)
  obtain ⟨⟨ht1, ht2⟩, hl⟩ : (1 ≤ tp ∧ tp ≤ 3) ∧ bd.length ≤ 4096 := hps ((1 ≤ tp ∧ tp ≤ 3) ∧ bd.length ≤ 4096) (by simp)
  have hc : cntP mb (initM me tp bd) := ⟨Or.inl rfl, ht1, ht2, hl, hh.2.2, hh.2.2⟩
  have hba := (base_of (m := initM me tp bd) (ms := [(initM me tp bd).r]) (ts := []) hh he hb hl (show 1 ≤ 30000 by decide) (Nat.zero_le _)).mono (show 30000 ≤ 40000 by decide)
  simp only
  unfold sayHM
  cases p1 : (hear2M me mb (initM me tp bd) (s0Of es (initM me tp bd) [(initM me tp bd).r] [])).2.1 <;> cases q1 : (hear2M me mb (initM me tp bd) (s0Of es (initM me tp bd) [(initM me tp bd).r] [])).2.2
  · exact ⟨_, _, _, gSa_ok false false, sa_FF me mb es _ tp bd _ _ hh.1 (by omega) hba ⟨hc, hh.2.2⟩ (Prod.ext p1 q1) rfl rfl rfl⟩
  · exact ⟨_, _, _, gSa_ok false true, sa_FT me mb es _ tp bd _ _ hh.1 (by omega) hba ⟨hc, hh.2.2⟩ (Prod.ext p1 q1) rfl rfl rfl⟩
  · exact ⟨_, _, _, gSa_ok true false, sa_TF me mb es _ tp bd _ _ hh.1 (by omega) hba ⟨hc, hh.2.2⟩ (Prod.ext p1 q1) rfl rfl rfl⟩
  · exact ⟨_, _, _, gSa_ok true true, sa_TT me mb es _ tp bd _ _ hh.1 (by omega) hba ⟨hc, hh.2.2⟩ (Prod.ext p1 q1) rfl rfl rfl⟩
def MbOK (mb : List Int) : Prop := mb.length ≤ 9 ∧ ∀ k, k < mb.length → (if k = 0 then 0 else mb.getD (k - 1) 0) < mb.getD k 0 ∧ mb.getD k 0 ≤ 9
noncomputable def newHQ := mkF DB Try.f12.ntmps (fun bs xs => match bs, xs with | [], [.one (.int .i64 _ me), .one (.words .i64 mb)] => some (me, mb) | _, _ => none) (fun t => ([], [.one (.int .i64 false t.1), .one (.words .i64 t.2)])) (fun t => some (.v (.one (.ref 0 0)), hbN t.1 t.2 [], [MbOK t.2, t.1 ∈ t.2]))
theorem newH_ok : OpOK Try.prog DB 12 newHQ := by
  refine opOK_mkG mixed Try.func12 (enters_of Try.func12 (by kernel_rfl) rfl) ?_
  rintro ⟨me, mb⟩ r' bs' ps h hps
  simp only [Option.some.injEq, Prod.mk.injEq] at h
  obtain ⟨rfl, rfl, rfl⟩ := h
  obtain ⟨hl, hm⟩ : MbOK mb := hps (MbOK mb) (by simp)
  have hme : me ∈ mb := hps (me ∈ mb) (by simp)
  refine ⟨_, _, _, gNw_ok, nw_run me mb ?_ (ix1 hme) (by omega) (by omega)⟩
  refine sum_loop gNw_ok mixed (c := bodyN Try.f12 0) (fun k => nwSn me mb (if k = 0 then 0 else mb.getD (k - 1) 0) (k : Nat)) mb.length (e := .exit 0) (s := nwEd me mb) rfl (fun k hk => ?_) ⟨_, _, _, nw_exit me mb _ _ (decide_eq_false (by omega))⟩
  obtain ⟨h1, h2⟩ := hm k hk
  exact ⟨_, _, _, nw_step me mb _ _ k _ (decide_eq_true (by omega)) (by omega) (by omega) (decide_eq_false (by rw [Int.toNat_natCast]; omega)) (decide_eq_false (by rw [Int.toNat_natCast]; omega)) ⟨by omega, by omega⟩ (by rw [Int.toNat_natCast, if_neg (Nat.succ_ne_zero k), Nat.add_sub_cancel]) rfl⟩
end Go.Num
namespace Go.Num
open Go.Abs Go.Proofs Go.Shelf Go.RowKit
noncomputable def gHd : Gam DB := [(12, .op [false, false] newHQ), (16, .op [true, false, false] sayHQ), (17, .op [true] mostQ)]
theorem gHd_ok : GamOK Try.prog DB gHd := gam_op newH_ok (gam_op sayH_ok (gam_op most_ok gam_nil))
theorem hd_run
 (h1 : (MbOK ([(3 : Int)] : List Int)))
 (h2 : (List.Mem (3 : Int) ([(3 : Int)] : List Int)))
 (h3 : (HbOK (3 : Int) ([(3 : Int)] : List Int)))
 (h4 : (EsOK (30000 : Nat) ([] : List (Rec × Ob))))
 (h5 : (InB ([(97 : Int)] : List Int)))
 (h6 : (((((List.length (((sayHM (3 : Int) ([(3 : Int)] : List Int) ([] : List (Rec × Ob)) (1 : Int) ([(97 : Int)] : List Int))).2).1) : Nat) : Int) == (3 : Int)) = true))
 (h7 : ((0 : Int) < (((List.length (((sayHM (3 : Int) ([(3 : Int)] : List Int) ([] : List (Rec × Ob)) (1 : Int) ([(97 : Int)] : List Int))).2).1) : Nat) : Int)))
 (h8 : ((0 : Nat) < (List.length (((sayHM (3 : Int) ([(3 : Int)] : List Int) ([] : List (Rec × Ob)) (1 : Int) ([(97 : Int)] : List Int))).2).1)))
 (h9 : (((recI (List.getD (((sayHM (3 : Int) ([(3 : Int)] : List Int) ([] : List (Rec × Ob)) (1 : Int) ([(97 : Int)] : List Int))).2).1 (0 : Nat) ([] : List (Abs.Fd))) (0 : Nat)) == (1 : Int)) = true))
 (h10 : ((2 : Int) < (((List.length (((sayHM (3 : Int) ([(3 : Int)] : List Int) ([] : List (Rec × Ob)) (1 : Int) ([(97 : Int)] : List Int))).2).1) : Nat) : Int)))
 (h11 : ((2 : Nat) < (List.length (((sayHM (3 : Int) ([(3 : Int)] : List Int) ([] : List (Rec × Ob)) (1 : Int) ([(97 : Int)] : List Int))).2).1)))
 (h12 : (((recI (List.getD (((sayHM (3 : Int) ([(3 : Int)] : List Int) ([] : List (Rec × Ob)) (1 : Int) ([(97 : Int)] : List Int))).2).1 (2 : Nat) ([] : List (Abs.Fd))) (0 : Nat)) == (3 : Int)) = true))
 (h13 : (((((List.length (((sayHM (3 : Int) ([(3 : Int)] : List Int) ([] : List (Rec × Ob)) (1 : Int) ([(97 : Int)] : List Int))).2).2) : Nat) : Int) == (1 : Int)) = true))
 (h14 : ((0 : Int) < (((List.length (((sayHM (3 : Int) ([(3 : Int)] : List Int) ([] : List (Rec × Ob)) (1 : Int) ([(97 : Int)] : List Int))).2).2) : Nat) : Int)))
 (h15 : ((0 : Nat) < (List.length (((sayHM (3 : Int) ([(3 : Int)] : List Int) ([] : List (Rec × Ob)) (1 : Int) ([(97 : Int)] : List Int))).2).2)))
 (h16 : (((recI (List.getD (((sayHM (3 : Int) ([(3 : Int)] : List Int) ([] : List (Rec × Ob)) (1 : Int) ([(97 : Int)] : List Int))).2).2 (0 : Nat) ([] : List (Abs.Fd))) ((0 : Nat) + (1 : Nat))) == (3 : Int)) = true))
 (h17 : ((decide ((ByteArray.mk (Array.mk [(UInt8.ofBitVec (BitVec.ofFin (Fin.mk ((97 : Nat) % ((2 : Nat) ^ (8 : Nat))) (by decide))))])) = (⟨#[97]⟩ : ByteArray))) = true))
 (h18 : (MbOK ([(1 : Int), (2 : Int), (3 : Int), (4 : Int)] : List Int)))
 (h19 : (List.Mem (1 : Int) ([(1 : Int), (2 : Int), (3 : Int), (4 : Int)] : List Int)))
 (h20 : (((fF ([(1 : Int), (2 : Int), (3 : Int), (4 : Int)] : List Int)) == (1 : Int)) = true)) :
 ∃ ps, runF Try.prog DB gHd 100 Try.f6 [] [.is true, .is true, .is true, .is true, .is true, .is true, .is true] = some ((AV.v (A0.one (Part.bool true true))), ps) ∧ AllQ ps := ⟨_, by kernel_rfl, qc (Eq.refl ((3 : Int))) (qc (Eq.refl (([(3 : Int)] : List Int))) (qc h1 (qc h2 (qc (show ((0 : Nat) < (1 : Nat)) from by decide) (qc (Eq.refl ((1 : Int))) (qc (Eq.refl (([(97 : Int)] : List Int))) (qc (Eq.refl ((3 : Int))) (qc (Eq.refl (([(3 : Int)] : List Int))) (qc (Eq.refl (([] : List (Rec × Ob)))) (qc h3 (qc h4 (qc h5 (qc (show ((((1 : Int) ≤ (1 : Int)) ∧ ((1 : Int) ≤ (3 : Int))) ∧ ((1 : Nat) ≤ (4096 : Nat))) from by decide) (qc h6 (qc (show ((0 : Int) ≤ (0 : Int)) from by decide) (qc h7 (qc h8 (qc h9 (qc (show ((0 : Int) ≤ (2 : Int)) from by decide) (qc h10 (qc h11 (qc h12 (qc h13 (qc (show ((0 : Int) ≤ (0 : Int)) from by decide) (qc h14 (qc h15 (qc h16 (qc (show ((0 : Int) ≤ (0 : Int)) from by decide) (qc h14 (qc h15 (qc h17 (qc (Eq.refl ((1 : Int))) (qc (Eq.refl (([(1 : Int), (2 : Int), (3 : Int), (4 : Int)] : List Int))) (qc h18 (qc h19 (qc (Eq.refl ((1 : Int))) (qc (Eq.refl (([(1 : Int), (2 : Int), (3 : Int), (4 : Int)] : List Int))) (qc (Eq.refl (([] : List (Rec × Ob)))) (qc (show ((([(1 : Int), (2 : Int), (3 : Int), (4 : Int)] : List Int) ≠ ([] : List (Int))) ∧ ((4 : Nat) ≤ (1000 : Nat))) from by decide) (qc h20 (qn)))))))))))))))))))))))))))))))))))))))))⟩
def MsT.p (m : MsT) : List (Part DB.τ) := [.int .i64 false m.k, .int .i64 false m.ep, .int .i64 false m.fr, .int .i64 false m.wh, .int .i64 false m.tp, .int .i64 false m.rd, .pw .u8 m.bd]
noncomputable def gCy : Gam DB := [(18, .fz (copyD DB))]
theorem gCy_ok : GamOK Try.prog DB gCy := gam_fz (copy_ok DB) gam_nil
theorem cy_run (m m' : MsT)
 (h1 : ((List.length (m).7) ≤ (281474976710656 : Nat)))
 (h2 : ((m).1 = (m').1))
 (h3 : ((m).2 = (m').2))
 (h4 : ((m).3 = (m').3))
 (h5 : ((m).4 = (m').4))
 (h6 : ((m).5 = (m').5))
 (h7 : ((m).6 = (m').6))
 (h8 : ((m).7 = (m').7)) :
 ∃ ps, runO Try.prog DB gCy 100 Try.f13 ([], [m.a]) [] (.v (.agg m'.p)) [] = some ps ∧ AllQ ps := ⟨_, by kernel_rfl, qc h1 (qc h2 (qc h3 (qc h4 (qc h5 (qc h6 (qc h7 (qc h8 (qn))))))))⟩
noncomputable def copy16R := mkF DB Try.f13.ntmps (fun bs xs => match bs, xs with | [], [x] => msRd x | _, _ => none) (fun m => ([], [m.a])) (fun m => some (.v (.agg m.p), [], [m.bd.length ≤ 281474976710656]))
def in7Sn (l : List Int) (x k : Int) : Sn DB.τ where
  slots := [(0, .v (.one (.words .i64 l))), (1, .v (.one (.int .i64 false x))), (7, .v (.one (.int .i64 false l.length))), (8, .v (.one (.int .i64 false k)))]
  boxes := []
  nt := 18
def in7Hit : Sn DB.τ where
  slots := [(4, .v (.one (.bool true true)))]
  boxes := []
  nt := 18
def in7End : Sn DB.τ where
  slots := []
  boxes := []
  nt := 18
theorem in7_step (l : List Int) (x k k' : Int)
 (h1 : ((decide (k < (((List.length l) : Nat) : Int))) = true))
 (h2 : ((0 : Int) ≤ k))
 (h3 : (k < (((List.length l) : Nat) : Int)))
 (h4 : (((List.getD l (Int.toNat k) (0 : Int)) == x) = false))
 (h5 : (InI64 (k + (1 : Int))))
 (h6 : ((k + (1 : Int)) = k')) :
 ∃ ps, stepPs Try.prog DB [] 100 (bodyN Try.f14 0) 100 (in7Sn l x k).st [.is true, .is false] .normal (in7Sn l x k') = some ps ∧ AllQ ps := ⟨_, by kernel_rfl, qc h1 (qc h2 (qc h3 (qc h4 (qc h5 (qc (Eq.refl l) (qc (Eq.refl x) (qc (Eq.refl ((((List.length l) : Nat) : Int))) (qc h6 (qn)))))))))⟩
theorem in7_hit (l : List Int) (x k : Int)
 (h1 : ((decide (k < (((List.length l) : Nat) : Int))) = true))
 (h2 : ((0 : Int) ≤ k))
 (h3 : (k < (((List.length l) : Nat) : Int)))
 (h4 : (((List.getD l (Int.toNat k) (0 : Int)) == x) = true)) :
 ∃ ps, stepPs Try.prog DB [] 100 (bodyN Try.f14 0) 100 (in7Sn l x k).st [.is true, .is true] .ret in7Hit = some ps ∧ AllQ ps := ⟨_, by kernel_rfl, qc h1 (qc h2 (qc h3 (qc h4 (qn))))⟩
theorem in7_exit (l : List Int) (x k : Int)
 (h1 : ((decide (k < (((List.length l) : Nat) : Int))) = false)) :
 ∃ ps, stepPs Try.prog DB [] 100 (bodyN Try.f14 0) 100 (in7Sn l x k).st [.is false] (.exit 0) in7End = some ps ∧ AllQ ps := ⟨_, by kernel_rfl, qc h1 (qn)⟩
theorem in7_yes (l : List Int) (x : Int) (v : Bool)
 (h1 : SumOK Try.prog DB (bodyN Try.f14 0) (loopL DB (in7Sn l x (0 : Nat)) .ret in7Hit))
 (h2 : (true = v)) :
 ∃ ps, runO Try.prog DB [] 100 Try.f14 ([], [.one (.words .i64 l), .one (.int .i64 false x)]) [.loop (loopL DB (in7Sn l x (0 : Nat)) .ret in7Hit)] (.v (.one (.bool false v))) [] = some ps ∧ AllQ ps := ⟨_, by kernel_rfl, qc h1 (qc (Eq.refl l) (qc (Eq.refl x) (qc (Eq.refl ((((List.length l) : Nat) : Int))) (qc (show ((0 : Int) = (((0 : Nat) : Nat) : Int)) from by decide) (qc h2 (qn))))))⟩
theorem in7_no (l : List Int) (x : Int) (v : Bool)
 (h1 : SumOK Try.prog DB (bodyN Try.f14 0) (loopL DB (in7Sn l x (0 : Nat)) (.exit 0) in7End))
 (h2 : (false = v)) :
 ∃ ps, runO Try.prog DB [] 100 Try.f14 ([], [.one (.words .i64 l), .one (.int .i64 false x)]) [.loop (loopL DB (in7Sn l x (0 : Nat)) (.exit 0) in7End)] (.v (.one (.bool false v))) [] = some ps ∧ AllQ ps := ⟨_, by kernel_rfl, qc h1 (qc (Eq.refl l) (qc (Eq.refl x) (qc (Eq.refl ((((List.length l) : Nat) : Int))) (qc (show ((0 : Int) = (((0 : Nat) : Nat) : Int)) from by decide) (qc h2 (qn))))))⟩
noncomputable def in7R := mkF DB Try.f14.ntmps (fun bs xs => match bs, xs with | [], [.one (.words .i64 l), .one (.int .i64 _ x)] => some (l, x) | _, _ => none) (fun t => ([], [.one (.words .i64 t.1), .one (.int .i64 false t.2)])) (fun t => some (.v (.one (.bool false (decide (0 ≤ idxF t.1 t.2)))), [], [t.1.length ≤ 1000]))
def headBD : FnD DB
  | [] => some (.v (.one (.bool true true)), [])
  | _ => none
noncomputable def gQu : Gam DB := [(6, .fn headBD), (12, .op [false, false] newHQ), (16, .op [true, false, false] sayHQ), (15, .op [true, false] inQ), (13, .rd [false] copy16R), (14, .rd [false, false] in7R)]
def rowI (l : List Int) : BoxSt DB.τ := .dyn 3 (.ints .i64 l)
def qmSn (n : Int) (sc : List Rec) (l : List Int) (i : Int) : Sn DB.τ where
  slots := [(0, .v (.one (.int .i64 false n))), (1, .v (.one (.prs mSh sc))), (5, .v (.one (.own 0))), (6, .v (.one (.int .i64 false i)))]
  boxes := [(0, rowI l)]
  nt := 146
def qmEd (sc : List Rec) (l : List Int) : Sn DB.τ where
  slots := [(1, .v (.one (.prs mSh sc))), (5, .v (.one (.own 0)))]
  boxes := [(0, rowI l)]
  nt := 146
def qrSn (sc : List Rec) (l : List Int) (es : List (Rec × Ob)) (i : Int) : Sn DB.τ where
  slots := [(1, .v (.one (.prs mSh sc))), (5, .v (.one (.own 2))), (7, .v (.one (.ref 0 0))), (8, .v (.one (.int .i64 false i)))]
  boxes := enumB 0 (hbN 1 l es ++ [rowI l])
  nt := 146
def qrEd (l : List Int) (es : List (Rec × Ob)) : Sn DB.τ where
  slots := [(7, .v (.one (.ref 0 0)))]
  boxes := enumB 0 (hbN 1 l es)
  nt := 146
theorem qm_step (n : Int) (sc : List Rec) (l l' : List Int) (i i' : Int)
 (h1 : ((decide (i ≤ n)) = true))
 (h2 : (((List.length l) + (1 : Nat)) ≤ (9223372036854775807 : Nat)))
 (h3 : ((((List.length l) + (1 : Nat)) * (8 : Nat)) ≤ (140737488355328 : Nat)))
 (h4 : (InI64 (i + (1 : Int))))
 (h5 : ((i + (1 : Int)) = i'))
 (h6 : ((l ++ ([i] : List Int)) = l')) :
 ∃ ps, stepPs Try.prog DB gQu 100 (bodyN Try.f5 0) 100 (qmSn n sc l i).st [.is true] .normal (qmSn n sc l' i') = some ps ∧ AllQ ps := ⟨_, by kernel_rfl, qc h1 (qc h2 (qc h3 (qc h4 (qc (Eq.refl n) (qc (Eq.refl sc) (qc h5 (qc h6 (qn))))))))⟩
theorem qm_exit (n : Int) (sc : List Rec) (l : List Int) (i : Int)
 (h1 : ((decide (i ≤ n)) = false)) :
 ∃ ps, stepPs Try.prog DB gQu 100 (bodyN Try.f5 0) 100 (qmSn n sc l i).st [.is false] (.exit 0) (qmEd sc l) = some ps ∧ AllQ ps := ⟨_, by kernel_rfl, qc h1 (qc (Eq.refl sc) (qc (Eq.refl l) (qn)))⟩
abbrev qr_2s_x1  := (((((0 : Nat) + (1 : Nat)) + (1 : Nat)) + (1 : Nat)) + (1 : Nat))
abbrev qr_2s_x2 (sc : List Rec) (i : Int) := (recI (List.getD sc (Int.toNat i) ([] : List (Abs.Fd))) ((((0 : Nat) + (1 : Nat)) + (1 : Nat)) + (1 : Nat)))
theorem qr_2s (sc : List Rec) (l : List Int) (es es' : List (Rec × Ob)) (i i' : Int)
 (h1 : ((decide (i < (((List.length sc) : Nat) : Int))) = true))
 (h2 : ((decide (i < (60 : Int))) = true))
 (h3 : ((0 : Int) ≤ i))
 (h4 : (i < (((List.length sc) : Nat) : Int)))
 (h5 : ((List.length (recW (List.getD sc (Int.toNat i) ([] : List (Abs.Fd))) (((qr_2s_x1 ) + (1 : Nat)) + (1 : Nat)))) ≤ (281474976710656 : Nat)))
 (h6 : (((recI (List.getD sc (Int.toNat i) ([] : List (Abs.Fd))) (0 : Nat)) == (2 : Int)) = true))
 (h7 : ((decide ((0 : Int) ≤ (idxF l (recI (List.getD sc (Int.toNat i) ([] : List (Abs.Fd))) (((0 : Nat) + (1 : Nat)) + (1 : Nat)))))) = true))
 (h8 : ((List.length l) ≤ (1000 : Nat)))
 (h9 : ((decide ((0 : Int) ≤ (idxF l (qr_2s_x2 sc i)))) = true))
 (h10 : ((decide ((recI (List.getD sc (Int.toNat i) ([] : List (Abs.Fd))) (qr_2s_x1 )) ≥ (1 : Int))) = true))
 (h11 : ((decide ((recI (List.getD sc (Int.toNat i) ([] : List (Abs.Fd))) (qr_2s_x1 )) ≤ (3 : Int))) = true))
 (h12 : ((decide ((((List.length (recW (List.getD sc (Int.toNat i) ([] : List (Abs.Fd))) (((qr_2s_x1 ) + (1 : Nat)) + (1 : Nat)))) : Nat) : Int) ≤ (4096 : Int))) = true))
 (h13 : (InI64 (i + (1 : Int))))
 (h14 : ((i + (1 : Int)) = i'))
 (h15 : (es = es')) :
 ∃ ps, stepPs Try.prog DB gQu 100 (bodyN Try.f5 1) 100 (qrSn sc l es i).st [.is true, .is true, .is true, .is true, .is true, .is true, .is true, .is true] .normal (qrSn sc l es' i') = some ps ∧ AllQ ps := ⟨_, by kernel_rfl, qc h1 (qc h2 (qc h3 (qc h4 (qc (Eq.refl ((recI (List.getD sc (Int.toNat i) ([] : List (Abs.Fd))) (0 : Nat)))) (qc (Eq.refl ((recI (List.getD sc (Int.toNat i) ([] : List (Abs.Fd))) ((0 : Nat) + (1 : Nat))))) (qc (Eq.refl ((recI (List.getD sc (Int.toNat i) ([] : List (Abs.Fd))) (((0 : Nat) + (1 : Nat)) + (1 : Nat))))) (qc (Eq.refl ((qr_2s_x2 sc i))) (qc (Eq.refl ((recI (List.getD sc (Int.toNat i) ([] : List (Abs.Fd))) (qr_2s_x1 )))) (qc (Eq.refl ((recI (List.getD sc (Int.toNat i) ([] : List (Abs.Fd))) ((qr_2s_x1 ) + (1 : Nat))))) (qc (Eq.refl ((recW (List.getD sc (Int.toNat i) ([] : List (Abs.Fd))) (((qr_2s_x1 ) + (1 : Nat)) + (1 : Nat))))) (qc h5 (qc h6 (qc h7 (qc (Eq.refl l) (qc (Eq.refl ((recI (List.getD sc (Int.toNat i) ([] : List (Abs.Fd))) (((0 : Nat) + (1 : Nat)) + (1 : Nat))))) (qc h8 (qc h9 (qc (Eq.refl l) (qc (Eq.refl ((qr_2s_x2 sc i))) (qc h8 (qc h10 (qc h11 (qc h12 (qc h13 (qc (Eq.refl sc) (qc h14 (qc (Eq.refl ((1 : Int))) (qc (Eq.refl l) (qc h15 (qc (Eq.refl l) (qn)))))))))))))))))))))))))))))))⟩
abbrev qr_20_x1 (sc : List Rec) (l : List Int) (es : List (Rec × Ob)) (i : Int) := ((inM (1 : Int) l es (MsT.mk (recI (List.getD sc (Int.toNat i) ([] : List (Abs.Fd))) (0 : Nat)) (recI (List.getD sc (Int.toNat i) ([] : List (Abs.Fd))) ((0 : Nat) + (1 : Nat))) (recI (List.getD sc (Int.toNat i) ([] : List (Abs.Fd))) (((0 : Nat) + (1 : Nat)) + (1 : Nat))) (recI (List.getD sc (Int.toNat i) ([] : List (Abs.Fd))) ((((0 : Nat) + (1 : Nat)) + (1 : Nat)) + (1 : Nat))) (recI (List.getD sc (Int.toNat i) ([] : List (Abs.Fd))) (((((0 : Nat) + (1 : Nat)) + (1 : Nat)) + (1 : Nat)) + (1 : Nat))) (recI (List.getD sc (Int.toNat i) ([] : List (Abs.Fd))) ((((((0 : Nat) + (1 : Nat)) + (1 : Nat)) + (1 : Nat)) + (1 : Nat)) + (1 : Nat))) (recW (List.getD sc (Int.toNat i) ([] : List (Abs.Fd))) (((((((0 : Nat) + (1 : Nat)) + (1 : Nat)) + (1 : Nat)) + (1 : Nat)) + (1 : Nat)) + (1 : Nat))))))
abbrev qr_20_x2 (sc : List Rec) (i : Int) := (recW (List.getD sc (Int.toNat i) ([] : List (Abs.Fd))) (((((((0 : Nat) + (1 : Nat)) + (1 : Nat)) + (1 : Nat)) + (1 : Nat)) + (1 : Nat)) + (1 : Nat)))
abbrev qr_20_x3 (sc : List Rec) (i : Int) := (recI (List.getD sc (Int.toNat i) ([] : List (Abs.Fd))) (((0 : Nat) + (1 : Nat)) + (1 : Nat)))
theorem qr_20 (sc : List Rec) (l : List Int) (es es' : List (Rec × Ob)) (i i' : Int)
 (h1 : ((decide (i < (((List.length sc) : Nat) : Int))) = true))
 (h2 : ((decide (i < (60 : Int))) = true))
 (h3 : ((0 : Int) ≤ i))
 (h4 : (i < (((List.length sc) : Nat) : Int)))
 (h5 : ((List.length (qr_20_x2 sc i)) ≤ (281474976710656 : Nat)))
 (h6 : (((recI (List.getD sc (Int.toNat i) ([] : List (Abs.Fd))) (0 : Nat)) == (2 : Int)) = true))
 (h7 : ((decide ((0 : Int) ≤ (idxF l (qr_20_x3 sc i)))) = false))
 (h8 : ((List.length l) ≤ (1000 : Nat)))
 (h9 : (HbOK (1 : Int) l))
 (h10 : (EsOK (30000 : Nat) es))
 (h11 : (InB (qr_20_x2 sc i)))
 (h12 : (((((List.length ((qr_20_x1 sc l es i).2).1) : Nat) : Int) != (0 : Int)) = false))
 (h13 : (((((List.length ((qr_20_x1 sc l es i).2).2) : Nat) : Int) != (0 : Int)) = false))
 (h14 : (InI64 (i + (1 : Int))))
 (h15 : ((i + (1 : Int)) = i'))
 (h16 : ((qr_20_x1 sc l es i).1 = es')) :
 ∃ ps, stepPs Try.prog DB gQu 100 (bodyN Try.f5 1) 100 (qrSn sc l es i).st [.is true, .is true, .is true, .is false, .is false, .is false] .normal (qrSn sc l es' i') = some ps ∧ AllQ ps := ⟨_, by kernel_rfl, qc h1 (qc h2 (qc h3 (qc h4 (qc (Eq.refl ((recI (List.getD sc (Int.toNat i) ([] : List (Abs.Fd))) (0 : Nat)))) (qc (Eq.refl ((recI (List.getD sc (Int.toNat i) ([] : List (Abs.Fd))) ((0 : Nat) + (1 : Nat))))) (qc (Eq.refl ((qr_20_x3 sc i))) (qc (Eq.refl ((recI (List.getD sc (Int.toNat i) ([] : List (Abs.Fd))) ((((0 : Nat) + (1 : Nat)) + (1 : Nat)) + (1 : Nat))))) (qc (Eq.refl ((recI (List.getD sc (Int.toNat i) ([] : List (Abs.Fd))) (((((0 : Nat) + (1 : Nat)) + (1 : Nat)) + (1 : Nat)) + (1 : Nat))))) (qc (Eq.refl ((recI (List.getD sc (Int.toNat i) ([] : List (Abs.Fd))) ((((((0 : Nat) + (1 : Nat)) + (1 : Nat)) + (1 : Nat)) + (1 : Nat)) + (1 : Nat))))) (qc (Eq.refl ((qr_20_x2 sc i))) (qc h5 (qc h6 (qc h7 (qc (Eq.refl l) (qc (Eq.refl ((qr_20_x3 sc i))) (qc h8 (qc (Eq.refl ((recI (List.getD sc (Int.toNat i) ([] : List (Abs.Fd))) (0 : Nat)))) (qc (Eq.refl ((recI (List.getD sc (Int.toNat i) ([] : List (Abs.Fd))) ((0 : Nat) + (1 : Nat))))) (qc (Eq.refl ((qr_20_x3 sc i))) (qc (Eq.refl ((recI (List.getD sc (Int.toNat i) ([] : List (Abs.Fd))) ((((0 : Nat) + (1 : Nat)) + (1 : Nat)) + (1 : Nat))))) (qc (Eq.refl ((recI (List.getD sc (Int.toNat i) ([] : List (Abs.Fd))) (((((0 : Nat) + (1 : Nat)) + (1 : Nat)) + (1 : Nat)) + (1 : Nat))))) (qc (Eq.refl ((recI (List.getD sc (Int.toNat i) ([] : List (Abs.Fd))) ((((((0 : Nat) + (1 : Nat)) + (1 : Nat)) + (1 : Nat)) + (1 : Nat)) + (1 : Nat))))) (qc (Eq.refl ((qr_20_x2 sc i))) (qc (Eq.refl ((1 : Int))) (qc (Eq.refl l) (qc (Eq.refl es) (qc h9 (qc h10 (qc h11 (qc h12 (qc h13 (qc h14 (qc (Eq.refl sc) (qc h15 (qc (Eq.refl ((1 : Int))) (qc (Eq.refl l) (qc h16 (qc (Eq.refl l) (qn)))))))))))))))))))))))))))))))))))))))⟩
abbrev qr_21_x1 (sc : List Rec) (l : List Int) (es : List (Rec × Ob)) (i : Int) := ((inM (1 : Int) l es (MsT.mk (recI (List.getD sc (Int.toNat i) ([] : List (Abs.Fd))) (0 : Nat)) (recI (List.getD sc (Int.toNat i) ([] : List (Abs.Fd))) ((0 : Nat) + (1 : Nat))) (recI (List.getD sc (Int.toNat i) ([] : List (Abs.Fd))) (((0 : Nat) + (1 : Nat)) + (1 : Nat))) (recI (List.getD sc (Int.toNat i) ([] : List (Abs.Fd))) ((((0 : Nat) + (1 : Nat)) + (1 : Nat)) + (1 : Nat))) (recI (List.getD sc (Int.toNat i) ([] : List (Abs.Fd))) (((((0 : Nat) + (1 : Nat)) + (1 : Nat)) + (1 : Nat)) + (1 : Nat))) (recI (List.getD sc (Int.toNat i) ([] : List (Abs.Fd))) ((((((0 : Nat) + (1 : Nat)) + (1 : Nat)) + (1 : Nat)) + (1 : Nat)) + (1 : Nat))) (recW (List.getD sc (Int.toNat i) ([] : List (Abs.Fd))) (((((((0 : Nat) + (1 : Nat)) + (1 : Nat)) + (1 : Nat)) + (1 : Nat)) + (1 : Nat)) + (1 : Nat))))))
abbrev qr_21_x2 (sc : List Rec) (i : Int) := (recW (List.getD sc (Int.toNat i) ([] : List (Abs.Fd))) (((((((0 : Nat) + (1 : Nat)) + (1 : Nat)) + (1 : Nat)) + (1 : Nat)) + (1 : Nat)) + (1 : Nat)))
abbrev qr_21_x3 (sc : List Rec) (i : Int) := (recI (List.getD sc (Int.toNat i) ([] : List (Abs.Fd))) ((((0 : Nat) + (1 : Nat)) + (1 : Nat)) + (1 : Nat)))
abbrev qr_21_x4 (sc : List Rec) (i : Int) := (recI (List.getD sc (Int.toNat i) ([] : List (Abs.Fd))) (((0 : Nat) + (1 : Nat)) + (1 : Nat)))
theorem qr_21 (sc : List Rec) (l : List Int) (es es' : List (Rec × Ob)) (i i' : Int)
 (h1 : ((decide (i < (((List.length sc) : Nat) : Int))) = true))
 (h2 : ((decide (i < (60 : Int))) = true))
 (h3 : ((0 : Int) ≤ i))
 (h4 : (i < (((List.length sc) : Nat) : Int)))
 (h5 : ((List.length (qr_21_x2 sc i)) ≤ (281474976710656 : Nat)))
 (h6 : (((recI (List.getD sc (Int.toNat i) ([] : List (Abs.Fd))) (0 : Nat)) == (2 : Int)) = true))
 (h7 : ((decide ((0 : Int) ≤ (idxF l (qr_21_x4 sc i)))) = true))
 (h8 : ((List.length l) ≤ (1000 : Nat)))
 (h9 : ((decide ((0 : Int) ≤ (idxF l (qr_21_x3 sc i)))) = false))
 (h10 : (HbOK (1 : Int) l))
 (h11 : (EsOK (30000 : Nat) es))
 (h12 : (InB (qr_21_x2 sc i)))
 (h13 : (((((List.length ((qr_21_x1 sc l es i).2).1) : Nat) : Int) != (0 : Int)) = false))
 (h14 : (((((List.length ((qr_21_x1 sc l es i).2).2) : Nat) : Int) != (0 : Int)) = false))
 (h15 : (InI64 (i + (1 : Int))))
 (h16 : ((i + (1 : Int)) = i'))
 (h17 : ((qr_21_x1 sc l es i).1 = es')) :
 ∃ ps, stepPs Try.prog DB gQu 100 (bodyN Try.f5 1) 100 (qrSn sc l es i).st [.is true, .is true, .is true, .is true, .is false, .is false, .is false] .normal (qrSn sc l es' i') = some ps ∧ AllQ ps := ⟨_, by kernel_rfl, qc h1 (qc h2 (qc h3 (qc h4 (qc (Eq.refl ((recI (List.getD sc (Int.toNat i) ([] : List (Abs.Fd))) (0 : Nat)))) (qc (Eq.refl ((recI (List.getD sc (Int.toNat i) ([] : List (Abs.Fd))) ((0 : Nat) + (1 : Nat))))) (qc (Eq.refl ((qr_21_x4 sc i))) (qc (Eq.refl ((qr_21_x3 sc i))) (qc (Eq.refl ((recI (List.getD sc (Int.toNat i) ([] : List (Abs.Fd))) (((((0 : Nat) + (1 : Nat)) + (1 : Nat)) + (1 : Nat)) + (1 : Nat))))) (qc (Eq.refl ((recI (List.getD sc (Int.toNat i) ([] : List (Abs.Fd))) ((((((0 : Nat) + (1 : Nat)) + (1 : Nat)) + (1 : Nat)) + (1 : Nat)) + (1 : Nat))))) (qc (Eq.refl ((qr_21_x2 sc i))) (qc h5 (qc h6 (qc h7 (qc (Eq.refl l) (qc (Eq.refl ((qr_21_x4 sc i))) (qc h8 (qc h9 (qc (Eq.refl l) (qc (Eq.refl ((qr_21_x3 sc i))) (qc h8 (qc (Eq.refl ((recI (List.getD sc (Int.toNat i) ([] : List (Abs.Fd))) (0 : Nat)))) (qc (Eq.refl ((recI (List.getD sc (Int.toNat i) ([] : List (Abs.Fd))) ((0 : Nat) + (1 : Nat))))) (qc (Eq.refl ((qr_21_x4 sc i))) (qc (Eq.refl ((qr_21_x3 sc i))) (qc (Eq.refl ((recI (List.getD sc (Int.toNat i) ([] : List (Abs.Fd))) (((((0 : Nat) + (1 : Nat)) + (1 : Nat)) + (1 : Nat)) + (1 : Nat))))) (qc (Eq.refl ((recI (List.getD sc (Int.toNat i) ([] : List (Abs.Fd))) ((((((0 : Nat) + (1 : Nat)) + (1 : Nat)) + (1 : Nat)) + (1 : Nat)) + (1 : Nat))))) (qc (Eq.refl ((qr_21_x2 sc i))) (qc (Eq.refl ((1 : Int))) (qc (Eq.refl l) (qc (Eq.refl es) (qc h10 (qc h11 (qc h12 (qc h13 (qc h14 (qc h15 (qc (Eq.refl sc) (qc h16 (qc (Eq.refl ((1 : Int))) (qc (Eq.refl l) (qc h17 (qc (Eq.refl l) (qn)))))))))))))))))))))))))))))))))))))))))))⟩
abbrev qr_22_x1 (sc : List Rec) (l : List Int) (es : List (Rec × Ob)) (i : Int) := ((inM (1 : Int) l es (MsT.mk (recI (List.getD sc (Int.toNat i) ([] : List (Abs.Fd))) (0 : Nat)) (recI (List.getD sc (Int.toNat i) ([] : List (Abs.Fd))) ((0 : Nat) + (1 : Nat))) (recI (List.getD sc (Int.toNat i) ([] : List (Abs.Fd))) (((0 : Nat) + (1 : Nat)) + (1 : Nat))) (recI (List.getD sc (Int.toNat i) ([] : List (Abs.Fd))) ((((0 : Nat) + (1 : Nat)) + (1 : Nat)) + (1 : Nat))) (recI (List.getD sc (Int.toNat i) ([] : List (Abs.Fd))) (((((0 : Nat) + (1 : Nat)) + (1 : Nat)) + (1 : Nat)) + (1 : Nat))) (recI (List.getD sc (Int.toNat i) ([] : List (Abs.Fd))) ((((((0 : Nat) + (1 : Nat)) + (1 : Nat)) + (1 : Nat)) + (1 : Nat)) + (1 : Nat))) (recW (List.getD sc (Int.toNat i) ([] : List (Abs.Fd))) (((((((0 : Nat) + (1 : Nat)) + (1 : Nat)) + (1 : Nat)) + (1 : Nat)) + (1 : Nat)) + (1 : Nat))))))
abbrev qr_22_x2  := (((((0 : Nat) + (1 : Nat)) + (1 : Nat)) + (1 : Nat)) + (1 : Nat))
abbrev qr_22_x3 (sc : List Rec) (i : Int) := (recI (List.getD sc (Int.toNat i) ([] : List (Abs.Fd))) ((((0 : Nat) + (1 : Nat)) + (1 : Nat)) + (1 : Nat)))
abbrev qr_22_x4 (sc : List Rec) (i : Int) := (recI (List.getD sc (Int.toNat i) ([] : List (Abs.Fd))) (((0 : Nat) + (1 : Nat)) + (1 : Nat)))
abbrev qr_22_x5 (sc : List Rec) (i : Int) := (recW (List.getD sc (Int.toNat i) ([] : List (Abs.Fd))) (((qr_22_x2 ) + (1 : Nat)) + (1 : Nat)))
theorem qr_22 (sc : List Rec) (l : List Int) (es es' : List (Rec × Ob)) (i i' : Int)
 (h1 : ((decide (i < (((List.length sc) : Nat) : Int))) = true))
 (h2 : ((decide (i < (60 : Int))) = true))
 (h3 : ((0 : Int) ≤ i))
 (h4 : (i < (((List.length sc) : Nat) : Int)))
 (h5 : ((List.length (qr_22_x5 sc i)) ≤ (281474976710656 : Nat)))
 (h6 : (((recI (List.getD sc (Int.toNat i) ([] : List (Abs.Fd))) (0 : Nat)) == (2 : Int)) = true))
 (h7 : ((decide ((0 : Int) ≤ (idxF l (qr_22_x4 sc i)))) = true))
 (h8 : ((List.length l) ≤ (1000 : Nat)))
 (h9 : ((decide ((0 : Int) ≤ (idxF l (qr_22_x3 sc i)))) = true))
 (h10 : ((decide ((recI (List.getD sc (Int.toNat i) ([] : List (Abs.Fd))) (qr_22_x2 )) ≥ (1 : Int))) = false))
 (h11 : (HbOK (1 : Int) l))
 (h12 : (EsOK (30000 : Nat) es))
 (h13 : (InB (qr_22_x5 sc i)))
 (h14 : (((((List.length ((qr_22_x1 sc l es i).2).1) : Nat) : Int) != (0 : Int)) = false))
 (h15 : (((((List.length ((qr_22_x1 sc l es i).2).2) : Nat) : Int) != (0 : Int)) = false))
 (h16 : (InI64 (i + (1 : Int))))
 (h17 : ((i + (1 : Int)) = i'))
 (h18 : ((qr_22_x1 sc l es i).1 = es')) :
 ∃ ps, stepPs Try.prog DB gQu 100 (bodyN Try.f5 1) 100 (qrSn sc l es i).st [.is true, .is true, .is true, .is true, .is true, .is false, .is false, .is false] .normal (qrSn sc l es' i') = some ps ∧ AllQ ps := ⟨_, by kernel_rfl, qc h1 (qc h2 (qc h3 (qc h4 (qc (Eq.refl ((recI (List.getD sc (Int.toNat i) ([] : List (Abs.Fd))) (0 : Nat)))) (qc (Eq.refl ((recI (List.getD sc (Int.toNat i) ([] : List (Abs.Fd))) ((0 : Nat) + (1 : Nat))))) (qc (Eq.refl ((qr_22_x4 sc i))) (qc (Eq.refl ((qr_22_x3 sc i))) (qc (Eq.refl ((recI (List.getD sc (Int.toNat i) ([] : List (Abs.Fd))) (qr_22_x2 )))) (qc (Eq.refl ((recI (List.getD sc (Int.toNat i) ([] : List (Abs.Fd))) ((qr_22_x2 ) + (1 : Nat))))) (qc (Eq.refl ((qr_22_x5 sc i))) (qc h5 (qc h6 (qc h7 (qc (Eq.refl l) (qc (Eq.refl ((qr_22_x4 sc i))) (qc h8 (qc h9 (qc (Eq.refl l) (qc (Eq.refl ((qr_22_x3 sc i))) (qc h8 (qc h10 (qc (Eq.refl ((recI (List.getD sc (Int.toNat i) ([] : List (Abs.Fd))) (0 : Nat)))) (qc (Eq.refl ((recI (List.getD sc (Int.toNat i) ([] : List (Abs.Fd))) ((0 : Nat) + (1 : Nat))))) (qc (Eq.refl ((qr_22_x4 sc i))) (qc (Eq.refl ((qr_22_x3 sc i))) (qc (Eq.refl ((recI (List.getD sc (Int.toNat i) ([] : List (Abs.Fd))) (qr_22_x2 )))) (qc (Eq.refl ((recI (List.getD sc (Int.toNat i) ([] : List (Abs.Fd))) ((qr_22_x2 ) + (1 : Nat))))) (qc (Eq.refl ((qr_22_x5 sc i))) (qc (Eq.refl ((1 : Int))) (qc (Eq.refl l) (qc (Eq.refl es) (qc h11 (qc h12 (qc h13 (qc h14 (qc h15 (qc h16 (qc (Eq.refl sc) (qc h17 (qc (Eq.refl ((1 : Int))) (qc (Eq.refl l) (qc h18 (qc (Eq.refl l) (qn))))))))))))))))))))))))))))))))))))))))))))⟩
abbrev qr_23_x1 (sc : List Rec) (l : List Int) (es : List (Rec × Ob)) (i : Int) := ((inM (1 : Int) l es (MsT.mk (recI (List.getD sc (Int.toNat i) ([] : List (Abs.Fd))) (0 : Nat)) (recI (List.getD sc (Int.toNat i) ([] : List (Abs.Fd))) ((0 : Nat) + (1 : Nat))) (recI (List.getD sc (Int.toNat i) ([] : List (Abs.Fd))) (((0 : Nat) + (1 : Nat)) + (1 : Nat))) (recI (List.getD sc (Int.toNat i) ([] : List (Abs.Fd))) ((((0 : Nat) + (1 : Nat)) + (1 : Nat)) + (1 : Nat))) (recI (List.getD sc (Int.toNat i) ([] : List (Abs.Fd))) (((((0 : Nat) + (1 : Nat)) + (1 : Nat)) + (1 : Nat)) + (1 : Nat))) (recI (List.getD sc (Int.toNat i) ([] : List (Abs.Fd))) ((((((0 : Nat) + (1 : Nat)) + (1 : Nat)) + (1 : Nat)) + (1 : Nat)) + (1 : Nat))) (recW (List.getD sc (Int.toNat i) ([] : List (Abs.Fd))) (((((((0 : Nat) + (1 : Nat)) + (1 : Nat)) + (1 : Nat)) + (1 : Nat)) + (1 : Nat)) + (1 : Nat))))))
abbrev qr_23_x2  := (((((0 : Nat) + (1 : Nat)) + (1 : Nat)) + (1 : Nat)) + (1 : Nat))
abbrev qr_23_x3 (sc : List Rec) (i : Int) := (recI (List.getD sc (Int.toNat i) ([] : List (Abs.Fd))) ((((0 : Nat) + (1 : Nat)) + (1 : Nat)) + (1 : Nat)))
abbrev qr_23_x4 (sc : List Rec) (i : Int) := (recI (List.getD sc (Int.toNat i) ([] : List (Abs.Fd))) (((0 : Nat) + (1 : Nat)) + (1 : Nat)))
abbrev qr_23_x5 (sc : List Rec) (i : Int) := (recW (List.getD sc (Int.toNat i) ([] : List (Abs.Fd))) (((qr_23_x2 ) + (1 : Nat)) + (1 : Nat)))
theorem qr_23 (sc : List Rec) (l : List Int) (es es' : List (Rec × Ob)) (i i' : Int)
 (h1 : ((decide (i < (((List.length sc) : Nat) : Int))) = true))
 (h2 : ((decide (i < (60 : Int))) = true))
 (h3 : ((0 : Int) ≤ i))
 (h4 : (i < (((List.length sc) : Nat) : Int)))
 (h5 : ((List.length (qr_23_x5 sc i)) ≤ (281474976710656 : Nat)))
 (h6 : (((recI (List.getD sc (Int.toNat i) ([] : List (Abs.Fd))) (0 : Nat)) == (2 : Int)) = true))
 (h7 : ((decide ((0 : Int) ≤ (idxF l (qr_23_x4 sc i)))) = true))
 (h8 : ((List.length l) ≤ (1000 : Nat)))
 (h9 : ((decide ((0 : Int) ≤ (idxF l (qr_23_x3 sc i)))) = true))
 (h10 : ((decide ((recI (List.getD sc (Int.toNat i) ([] : List (Abs.Fd))) (qr_23_x2 )) ≥ (1 : Int))) = true))
 (h11 : ((decide ((recI (List.getD sc (Int.toNat i) ([] : List (Abs.Fd))) (qr_23_x2 )) ≤ (3 : Int))) = false))
 (h12 : (HbOK (1 : Int) l))
 (h13 : (EsOK (30000 : Nat) es))
 (h14 : (InB (qr_23_x5 sc i)))
 (h15 : (((((List.length ((qr_23_x1 sc l es i).2).1) : Nat) : Int) != (0 : Int)) = false))
 (h16 : (((((List.length ((qr_23_x1 sc l es i).2).2) : Nat) : Int) != (0 : Int)) = false))
 (h17 : (InI64 (i + (1 : Int))))
 (h18 : ((i + (1 : Int)) = i'))
 (h19 : ((qr_23_x1 sc l es i).1 = es')) :
 ∃ ps, stepPs Try.prog DB gQu 100 (bodyN Try.f5 1) 100 (qrSn sc l es i).st [.is true, .is true, .is true, .is true, .is true, .is true, .is false, .is false, .is false] .normal (qrSn sc l es' i') = some ps ∧ AllQ ps := ⟨_, by kernel_rfl, qc h1 (qc h2 (qc h3 (qc h4 (qc (Eq.refl ((recI (List.getD sc (Int.toNat i) ([] : List (Abs.Fd))) (0 : Nat)))) (qc (Eq.refl ((recI (List.getD sc (Int.toNat i) ([] : List (Abs.Fd))) ((0 : Nat) + (1 : Nat))))) (qc (Eq.refl ((qr_23_x4 sc i))) (qc (Eq.refl ((qr_23_x3 sc i))) (qc (Eq.refl ((recI (List.getD sc (Int.toNat i) ([] : List (Abs.Fd))) (qr_23_x2 )))) (qc (Eq.refl ((recI (List.getD sc (Int.toNat i) ([] : List (Abs.Fd))) ((qr_23_x2 ) + (1 : Nat))))) (qc (Eq.refl ((qr_23_x5 sc i))) (qc h5 (qc h6 (qc h7 (qc (Eq.refl l) (qc (Eq.refl ((qr_23_x4 sc i))) (qc h8 (qc h9 (qc (Eq.refl l) (qc (Eq.refl ((qr_23_x3 sc i))) (qc h8 (qc h10 (qc h11 (qc (Eq.refl ((recI (List.getD sc (Int.toNat i) ([] : List (Abs.Fd))) (0 : Nat)))) (qc (Eq.refl ((recI (List.getD sc (Int.toNat i) ([] : List (Abs.Fd))) ((0 : Nat) + (1 : Nat))))) (qc (Eq.refl ((qr_23_x4 sc i))) (qc (Eq.refl ((qr_23_x3 sc i))) (qc (Eq.refl ((recI (List.getD sc (Int.toNat i) ([] : List (Abs.Fd))) (qr_23_x2 )))) (qc (Eq.refl ((recI (List.getD sc (Int.toNat i) ([] : List (Abs.Fd))) ((qr_23_x2 ) + (1 : Nat))))) (qc (Eq.refl ((qr_23_x5 sc i))) (qc (Eq.refl ((1 : Int))) (qc (Eq.refl l) (qc (Eq.refl es) (qc h12 (qc h13 (qc h14 (qc h15 (qc h16 (qc h17 (qc (Eq.refl sc) (qc h18 (qc (Eq.refl ((1 : Int))) (qc (Eq.refl l) (qc h19 (qc (Eq.refl l) (qn)))))))))))))))))))))))))))))))))))))))))))))⟩
abbrev qr_24_x1 (sc : List Rec) (l : List Int) (es : List (Rec × Ob)) (i : Int) := ((inM (1 : Int) l es (MsT.mk (recI (List.getD sc (Int.toNat i) ([] : List (Abs.Fd))) (0 : Nat)) (recI (List.getD sc (Int.toNat i) ([] : List (Abs.Fd))) ((0 : Nat) + (1 : Nat))) (recI (List.getD sc (Int.toNat i) ([] : List (Abs.Fd))) (((0 : Nat) + (1 : Nat)) + (1 : Nat))) (recI (List.getD sc (Int.toNat i) ([] : List (Abs.Fd))) ((((0 : Nat) + (1 : Nat)) + (1 : Nat)) + (1 : Nat))) (recI (List.getD sc (Int.toNat i) ([] : List (Abs.Fd))) (((((0 : Nat) + (1 : Nat)) + (1 : Nat)) + (1 : Nat)) + (1 : Nat))) (recI (List.getD sc (Int.toNat i) ([] : List (Abs.Fd))) ((((((0 : Nat) + (1 : Nat)) + (1 : Nat)) + (1 : Nat)) + (1 : Nat)) + (1 : Nat))) (recW (List.getD sc (Int.toNat i) ([] : List (Abs.Fd))) (((((((0 : Nat) + (1 : Nat)) + (1 : Nat)) + (1 : Nat)) + (1 : Nat)) + (1 : Nat)) + (1 : Nat))))))
abbrev qr_24_x2  := (((((0 : Nat) + (1 : Nat)) + (1 : Nat)) + (1 : Nat)) + (1 : Nat))
abbrev qr_24_x3 (sc : List Rec) (i : Int) := (recI (List.getD sc (Int.toNat i) ([] : List (Abs.Fd))) ((((0 : Nat) + (1 : Nat)) + (1 : Nat)) + (1 : Nat)))
abbrev qr_24_x4 (sc : List Rec) (i : Int) := (recW (List.getD sc (Int.toNat i) ([] : List (Abs.Fd))) (((qr_24_x2 ) + (1 : Nat)) + (1 : Nat)))
abbrev qr_24_x5 (sc : List Rec) (i : Int) := (recI (List.getD sc (Int.toNat i) ([] : List (Abs.Fd))) (((0 : Nat) + (1 : Nat)) + (1 : Nat)))
theorem qr_24 (sc : List Rec) (l : List Int) (es es' : List (Rec × Ob)) (i i' : Int)
 (h1 : ((decide (i < (((List.length sc) : Nat) : Int))) = true))
 (h2 : ((decide (i < (60 : Int))) = true))
 (h3 : ((0 : Int) ≤ i))
 (h4 : (i < (((List.length sc) : Nat) : Int)))
 (h5 : ((List.length (qr_24_x4 sc i)) ≤ (281474976710656 : Nat)))
 (h6 : (((recI (List.getD sc (Int.toNat i) ([] : List (Abs.Fd))) (0 : Nat)) == (2 : Int)) = true))
 (h7 : ((decide ((0 : Int) ≤ (idxF l (qr_24_x5 sc i)))) = true))
 (h8 : ((List.length l) ≤ (1000 : Nat)))
 (h9 : ((decide ((0 : Int) ≤ (idxF l (qr_24_x3 sc i)))) = true))
 (h10 : ((decide ((recI (List.getD sc (Int.toNat i) ([] : List (Abs.Fd))) (qr_24_x2 )) ≥ (1 : Int))) = true))
 (h11 : ((decide ((recI (List.getD sc (Int.toNat i) ([] : List (Abs.Fd))) (qr_24_x2 )) ≤ (3 : Int))) = true))
 (h12 : ((decide ((((List.length (qr_24_x4 sc i)) : Nat) : Int) ≤ (4096 : Int))) = false))
 (h13 : (HbOK (1 : Int) l))
 (h14 : (EsOK (30000 : Nat) es))
 (h15 : (InB (qr_24_x4 sc i)))
 (h16 : (((((List.length ((qr_24_x1 sc l es i).2).1) : Nat) : Int) != (0 : Int)) = false))
 (h17 : (((((List.length ((qr_24_x1 sc l es i).2).2) : Nat) : Int) != (0 : Int)) = false))
 (h18 : (InI64 (i + (1 : Int))))
 (h19 : ((i + (1 : Int)) = i'))
 (h20 : ((qr_24_x1 sc l es i).1 = es')) :
 ∃ ps, stepPs Try.prog DB gQu 100 (bodyN Try.f5 1) 100 (qrSn sc l es i).st [.is true, .is true, .is true, .is true, .is true, .is true, .is true, .is false, .is false, .is false] .normal (qrSn sc l es' i') = some ps ∧ AllQ ps := ⟨_, by kernel_rfl, qc h1 (qc h2 (qc h3 (qc h4 (qc (Eq.refl ((recI (List.getD sc (Int.toNat i) ([] : List (Abs.Fd))) (0 : Nat)))) (qc (Eq.refl ((recI (List.getD sc (Int.toNat i) ([] : List (Abs.Fd))) ((0 : Nat) + (1 : Nat))))) (qc (Eq.refl ((qr_24_x5 sc i))) (qc (Eq.refl ((qr_24_x3 sc i))) (qc (Eq.refl ((recI (List.getD sc (Int.toNat i) ([] : List (Abs.Fd))) (qr_24_x2 )))) (qc (Eq.refl ((recI (List.getD sc (Int.toNat i) ([] : List (Abs.Fd))) ((qr_24_x2 ) + (1 : Nat))))) (qc (Eq.refl ((qr_24_x4 sc i))) (qc h5 (qc h6 (qc h7 (qc (Eq.refl l) (qc (Eq.refl ((qr_24_x5 sc i))) (qc h8 (qc h9 (qc (Eq.refl l) (qc (Eq.refl ((qr_24_x3 sc i))) (qc h8 (qc h10 (qc h11 (qc h12 (qc (Eq.refl ((recI (List.getD sc (Int.toNat i) ([] : List (Abs.Fd))) (0 : Nat)))) (qc (Eq.refl ((recI (List.getD sc (Int.toNat i) ([] : List (Abs.Fd))) ((0 : Nat) + (1 : Nat))))) (qc (Eq.refl ((qr_24_x5 sc i))) (qc (Eq.refl ((qr_24_x3 sc i))) (qc (Eq.refl ((recI (List.getD sc (Int.toNat i) ([] : List (Abs.Fd))) (qr_24_x2 )))) (qc (Eq.refl ((recI (List.getD sc (Int.toNat i) ([] : List (Abs.Fd))) ((qr_24_x2 ) + (1 : Nat))))) (qc (Eq.refl ((qr_24_x4 sc i))) (qc (Eq.refl ((1 : Int))) (qc (Eq.refl l) (qc (Eq.refl es) (qc h13 (qc h14 (qc h15 (qc h16 (qc h17 (qc h18 (qc (Eq.refl sc) (qc h19 (qc (Eq.refl ((1 : Int))) (qc (Eq.refl l) (qc h20 (qc (Eq.refl l) (qn))))))))))))))))))))))))))))))))))))))))))))))⟩
abbrev qr_3s_x1  := (((((0 : Nat) + (1 : Nat)) + (1 : Nat)) + (1 : Nat)) + (1 : Nat))
abbrev qr_3s_x2 (sc : List Rec) (i : Int) := (recI (List.getD sc (Int.toNat i) ([] : List (Abs.Fd))) ((((0 : Nat) + (1 : Nat)) + (1 : Nat)) + (1 : Nat)))
theorem qr_3s (sc : List Rec) (l : List Int) (es es' : List (Rec × Ob)) (i i' : Int)
 (h1 : ((decide (i < (((List.length sc) : Nat) : Int))) = true))
 (h2 : ((decide (i < (60 : Int))) = true))
 (h3 : ((0 : Int) ≤ i))
 (h4 : (i < (((List.length sc) : Nat) : Int)))
 (h5 : ((List.length (recW (List.getD sc (Int.toNat i) ([] : List (Abs.Fd))) (((qr_3s_x1 ) + (1 : Nat)) + (1 : Nat)))) ≤ (281474976710656 : Nat)))
 (h6 : (((recI (List.getD sc (Int.toNat i) ([] : List (Abs.Fd))) (0 : Nat)) == (2 : Int)) = false))
 (h7 : (((recI (List.getD sc (Int.toNat i) ([] : List (Abs.Fd))) (0 : Nat)) == (3 : Int)) = true))
 (h8 : ((decide ((0 : Int) ≤ (idxF l (recI (List.getD sc (Int.toNat i) ([] : List (Abs.Fd))) (((0 : Nat) + (1 : Nat)) + (1 : Nat)))))) = true))
 (h9 : ((List.length l) ≤ (1000 : Nat)))
 (h10 : ((decide ((0 : Int) ≤ (idxF l (qr_3s_x2 sc i)))) = true))
 (h11 : ((decide ((recI (List.getD sc (Int.toNat i) ([] : List (Abs.Fd))) (qr_3s_x1 )) ≥ (1 : Int))) = true))
 (h12 : ((decide ((recI (List.getD sc (Int.toNat i) ([] : List (Abs.Fd))) (qr_3s_x1 )) ≤ (3 : Int))) = true))
 (h13 : ((decide ((((List.length (recW (List.getD sc (Int.toNat i) ([] : List (Abs.Fd))) (((qr_3s_x1 ) + (1 : Nat)) + (1 : Nat)))) : Nat) : Int) ≤ (4096 : Int))) = true))
 (h14 : (InI64 (i + (1 : Int))))
 (h15 : ((i + (1 : Int)) = i'))
 (h16 : (es = es')) :
 ∃ ps, stepPs Try.prog DB gQu 100 (bodyN Try.f5 1) 100 (qrSn sc l es i).st [.is true, .is true, .is false, .is true, .is true, .is true, .is true, .is true, .is true] .normal (qrSn sc l es' i') = some ps ∧ AllQ ps := ⟨_, by kernel_rfl, qc h1 (qc h2 (qc h3 (qc h4 (qc (Eq.refl ((recI (List.getD sc (Int.toNat i) ([] : List (Abs.Fd))) (0 : Nat)))) (qc (Eq.refl ((recI (List.getD sc (Int.toNat i) ([] : List (Abs.Fd))) ((0 : Nat) + (1 : Nat))))) (qc (Eq.refl ((recI (List.getD sc (Int.toNat i) ([] : List (Abs.Fd))) (((0 : Nat) + (1 : Nat)) + (1 : Nat))))) (qc (Eq.refl ((qr_3s_x2 sc i))) (qc (Eq.refl ((recI (List.getD sc (Int.toNat i) ([] : List (Abs.Fd))) (qr_3s_x1 )))) (qc (Eq.refl ((recI (List.getD sc (Int.toNat i) ([] : List (Abs.Fd))) ((qr_3s_x1 ) + (1 : Nat))))) (qc (Eq.refl ((recW (List.getD sc (Int.toNat i) ([] : List (Abs.Fd))) (((qr_3s_x1 ) + (1 : Nat)) + (1 : Nat))))) (qc h5 (qc h6 (qc h7 (qc h8 (qc (Eq.refl l) (qc (Eq.refl ((recI (List.getD sc (Int.toNat i) ([] : List (Abs.Fd))) (((0 : Nat) + (1 : Nat)) + (1 : Nat))))) (qc h9 (qc h10 (qc (Eq.refl l) (qc (Eq.refl ((qr_3s_x2 sc i))) (qc h9 (qc h11 (qc h12 (qc h13 (qc h14 (qc (Eq.refl sc) (qc h15 (qc (Eq.refl ((1 : Int))) (qc (Eq.refl l) (qc h16 (qc (Eq.refl l) (qn))))))))))))))))))))))))))))))))⟩
abbrev qr_30_x1 (sc : List Rec) (l : List Int) (es : List (Rec × Ob)) (i : Int) := ((inM (1 : Int) l es (MsT.mk (recI (List.getD sc (Int.toNat i) ([] : List (Abs.Fd))) (0 : Nat)) (recI (List.getD sc (Int.toNat i) ([] : List (Abs.Fd))) ((0 : Nat) + (1 : Nat))) (recI (List.getD sc (Int.toNat i) ([] : List (Abs.Fd))) (((0 : Nat) + (1 : Nat)) + (1 : Nat))) (recI (List.getD sc (Int.toNat i) ([] : List (Abs.Fd))) ((((0 : Nat) + (1 : Nat)) + (1 : Nat)) + (1 : Nat))) (recI (List.getD sc (Int.toNat i) ([] : List (Abs.Fd))) (((((0 : Nat) + (1 : Nat)) + (1 : Nat)) + (1 : Nat)) + (1 : Nat))) (recI (List.getD sc (Int.toNat i) ([] : List (Abs.Fd))) ((((((0 : Nat) + (1 : Nat)) + (1 : Nat)) + (1 : Nat)) + (1 : Nat)) + (1 : Nat))) (recW (List.getD sc (Int.toNat i) ([] : List (Abs.Fd))) (((((((0 : Nat) + (1 : Nat)) + (1 : Nat)) + (1 : Nat)) + (1 : Nat)) + (1 : Nat)) + (1 : Nat))))))
abbrev qr_30_x2 (sc : List Rec) (i : Int) := (recW (List.getD sc (Int.toNat i) ([] : List (Abs.Fd))) (((((((0 : Nat) + (1 : Nat)) + (1 : Nat)) + (1 : Nat)) + (1 : Nat)) + (1 : Nat)) + (1 : Nat)))
abbrev qr_30_x3 (sc : List Rec) (i : Int) := (recI (List.getD sc (Int.toNat i) ([] : List (Abs.Fd))) (((0 : Nat) + (1 : Nat)) + (1 : Nat)))
theorem qr_30 (sc : List Rec) (l : List Int) (es es' : List (Rec × Ob)) (i i' : Int)
 (h1 : ((decide (i < (((List.length sc) : Nat) : Int))) = true))
 (h2 : ((decide (i < (60 : Int))) = true))
 (h3 : ((0 : Int) ≤ i))
 (h4 : (i < (((List.length sc) : Nat) : Int)))
 (h5 : ((List.length (qr_30_x2 sc i)) ≤ (281474976710656 : Nat)))
 (h6 : (((recI (List.getD sc (Int.toNat i) ([] : List (Abs.Fd))) (0 : Nat)) == (2 : Int)) = false))
 (h7 : (((recI (List.getD sc (Int.toNat i) ([] : List (Abs.Fd))) (0 : Nat)) == (3 : Int)) = true))
 (h8 : ((decide ((0 : Int) ≤ (idxF l (qr_30_x3 sc i)))) = false))
 (h9 : ((List.length l) ≤ (1000 : Nat)))
 (h10 : (HbOK (1 : Int) l))
 (h11 : (EsOK (30000 : Nat) es))
 (h12 : (InB (qr_30_x2 sc i)))
 (h13 : (((((List.length ((qr_30_x1 sc l es i).2).1) : Nat) : Int) != (0 : Int)) = false))
 (h14 : (((((List.length ((qr_30_x1 sc l es i).2).2) : Nat) : Int) != (0 : Int)) = false))
 (h15 : (InI64 (i + (1 : Int))))
 (h16 : ((i + (1 : Int)) = i'))
 (h17 : ((qr_30_x1 sc l es i).1 = es')) :
 ∃ ps, stepPs Try.prog DB gQu 100 (bodyN Try.f5 1) 100 (qrSn sc l es i).st [.is true, .is true, .is false, .is true, .is false, .is false, .is false] .normal (qrSn sc l es' i') = some ps ∧ AllQ ps := ⟨_, by kernel_rfl, qc h1 (qc h2 (qc h3 (qc h4 (qc (Eq.refl ((recI (List.getD sc (Int.toNat i) ([] : List (Abs.Fd))) (0 : Nat)))) (qc (Eq.refl ((recI (List.getD sc (Int.toNat i) ([] : List (Abs.Fd))) ((0 : Nat) + (1 : Nat))))) (qc (Eq.refl ((qr_30_x3 sc i))) (qc (Eq.refl ((recI (List.getD sc (Int.toNat i) ([] : List (Abs.Fd))) ((((0 : Nat) + (1 : Nat)) + (1 : Nat)) + (1 : Nat))))) (qc (Eq.refl ((recI (List.getD sc (Int.toNat i) ([] : List (Abs.Fd))) (((((0 : Nat) + (1 : Nat)) + (1 : Nat)) + (1 : Nat)) + (1 : Nat))))) (qc (Eq.refl ((recI (List.getD sc (Int.toNat i) ([] : List (Abs.Fd))) ((((((0 : Nat) + (1 : Nat)) + (1 : Nat)) + (1 : Nat)) + (1 : Nat)) + (1 : Nat))))) (qc (Eq.refl ((qr_30_x2 sc i))) (qc h5 (qc h6 (qc h7 (qc h8 (qc (Eq.refl l) (qc (Eq.refl ((qr_30_x3 sc i))) (qc h9 (qc (Eq.refl ((recI (List.getD sc (Int.toNat i) ([] : List (Abs.Fd))) (0 : Nat)))) (qc (Eq.refl ((recI (List.getD sc (Int.toNat i) ([] : List (Abs.Fd))) ((0 : Nat) + (1 : Nat))))) (qc (Eq.refl ((qr_30_x3 sc i))) (qc (Eq.refl ((recI (List.getD sc (Int.toNat i) ([] : List (Abs.Fd))) ((((0 : Nat) + (1 : Nat)) + (1 : Nat)) + (1 : Nat))))) (qc (Eq.refl ((recI (List.getD sc (Int.toNat i) ([] : List (Abs.Fd))) (((((0 : Nat) + (1 : Nat)) + (1 : Nat)) + (1 : Nat)) + (1 : Nat))))) (qc (Eq.refl ((recI (List.getD sc (Int.toNat i) ([] : List (Abs.Fd))) ((((((0 : Nat) + (1 : Nat)) + (1 : Nat)) + (1 : Nat)) + (1 : Nat)) + (1 : Nat))))) (qc (Eq.refl ((qr_30_x2 sc i))) (qc (Eq.refl ((1 : Int))) (qc (Eq.refl l) (qc (Eq.refl es) (qc h10 (qc h11 (qc h12 (qc h13 (qc h14 (qc h15 (qc (Eq.refl sc) (qc h16 (qc (Eq.refl ((1 : Int))) (qc (Eq.refl l) (qc h17 (qc (Eq.refl l) (qn))))))))))))))))))))))))))))))))))))))))⟩
abbrev qr_31_x1 (sc : List Rec) (l : List Int) (es : List (Rec × Ob)) (i : Int) := ((inM (1 : Int) l es (MsT.mk (recI (List.getD sc (Int.toNat i) ([] : List (Abs.Fd))) (0 : Nat)) (recI (List.getD sc (Int.toNat i) ([] : List (Abs.Fd))) ((0 : Nat) + (1 : Nat))) (recI (List.getD sc (Int.toNat i) ([] : List (Abs.Fd))) (((0 : Nat) + (1 : Nat)) + (1 : Nat))) (recI (List.getD sc (Int.toNat i) ([] : List (Abs.Fd))) ((((0 : Nat) + (1 : Nat)) + (1 : Nat)) + (1 : Nat))) (recI (List.getD sc (Int.toNat i) ([] : List (Abs.Fd))) (((((0 : Nat) + (1 : Nat)) + (1 : Nat)) + (1 : Nat)) + (1 : Nat))) (recI (List.getD sc (Int.toNat i) ([] : List (Abs.Fd))) ((((((0 : Nat) + (1 : Nat)) + (1 : Nat)) + (1 : Nat)) + (1 : Nat)) + (1 : Nat))) (recW (List.getD sc (Int.toNat i) ([] : List (Abs.Fd))) (((((((0 : Nat) + (1 : Nat)) + (1 : Nat)) + (1 : Nat)) + (1 : Nat)) + (1 : Nat)) + (1 : Nat))))))
abbrev qr_31_x2 (sc : List Rec) (i : Int) := (recW (List.getD sc (Int.toNat i) ([] : List (Abs.Fd))) (((((((0 : Nat) + (1 : Nat)) + (1 : Nat)) + (1 : Nat)) + (1 : Nat)) + (1 : Nat)) + (1 : Nat)))
abbrev qr_31_x3 (sc : List Rec) (i : Int) := (recI (List.getD sc (Int.toNat i) ([] : List (Abs.Fd))) ((((0 : Nat) + (1 : Nat)) + (1 : Nat)) + (1 : Nat)))
abbrev qr_31_x4 (sc : List Rec) (i : Int) := (recI (List.getD sc (Int.toNat i) ([] : List (Abs.Fd))) (((0 : Nat) + (1 : Nat)) + (1 : Nat)))
theorem qr_31 (sc : List Rec) (l : List Int) (es es' : List (Rec × Ob)) (i i' : Int)
 (h1 : ((decide (i < (((List.length sc) : Nat) : Int))) = true))
 (h2 : ((decide (i < (60 : Int))) = true))
 (h3 : ((0 : Int) ≤ i))
 (h4 : (i < (((List.length sc) : Nat) : Int)))
 (h5 : ((List.length (qr_31_x2 sc i)) ≤ (281474976710656 : Nat)))
 (h6 : (((recI (List.getD sc (Int.toNat i) ([] : List (Abs.Fd))) (0 : Nat)) == (2 : Int)) = false))
 (h7 : (((recI (List.getD sc (Int.toNat i) ([] : List (Abs.Fd))) (0 : Nat)) == (3 : Int)) = true))
 (h8 : ((decide ((0 : Int) ≤ (idxF l (qr_31_x4 sc i)))) = true))
 (h9 : ((List.length l) ≤ (1000 : Nat)))
 (h10 : ((decide ((0 : Int) ≤ (idxF l (qr_31_x3 sc i)))) = false))
 (h11 : (HbOK (1 : Int) l))
 (h12 : (EsOK (30000 : Nat) es))
 (h13 : (InB (qr_31_x2 sc i)))
 (h14 : (((((List.length ((qr_31_x1 sc l es i).2).1) : Nat) : Int) != (0 : Int)) = false))
 (h15 : (((((List.length ((qr_31_x1 sc l es i).2).2) : Nat) : Int) != (0 : Int)) = false))
 (h16 : (InI64 (i + (1 : Int))))
 (h17 : ((i + (1 : Int)) = i'))
 (h18 : ((qr_31_x1 sc l es i).1 = es')) :
 ∃ ps, stepPs Try.prog DB gQu 100 (bodyN Try.f5 1) 100 (qrSn sc l es i).st [.is true, .is true, .is false, .is true, .is true, .is false, .is false, .is false] .normal (qrSn sc l es' i') = some ps ∧ AllQ ps := ⟨_, by kernel_rfl, qc h1 (qc h2 (qc h3 (qc h4 (qc (Eq.refl ((recI (List.getD sc (Int.toNat i) ([] : List (Abs.Fd))) (0 : Nat)))) (qc (Eq.refl ((recI (List.getD sc (Int.toNat i) ([] : List (Abs.Fd))) ((0 : Nat) + (1 : Nat))))) (qc (Eq.refl ((qr_31_x4 sc i))) (qc (Eq.refl ((qr_31_x3 sc i))) (qc (Eq.refl ((recI (List.getD sc (Int.toNat i) ([] : List (Abs.Fd))) (((((0 : Nat) + (1 : Nat)) + (1 : Nat)) + (1 : Nat)) + (1 : Nat))))) (qc (Eq.refl ((recI (List.getD sc (Int.toNat i) ([] : List (Abs.Fd))) ((((((0 : Nat) + (1 : Nat)) + (1 : Nat)) + (1 : Nat)) + (1 : Nat)) + (1 : Nat))))) (qc (Eq.refl ((qr_31_x2 sc i))) (qc h5 (qc h6 (qc h7 (qc h8 (qc (Eq.refl l) (qc (Eq.refl ((qr_31_x4 sc i))) (qc h9 (qc h10 (qc (Eq.refl l) (qc (Eq.refl ((qr_31_x3 sc i))) (qc h9 (qc (Eq.refl ((recI (List.getD sc (Int.toNat i) ([] : List (Abs.Fd))) (0 : Nat)))) (qc (Eq.refl ((recI (List.getD sc (Int.toNat i) ([] : List (Abs.Fd))) ((0 : Nat) + (1 : Nat))))) (qc (Eq.refl ((qr_31_x4 sc i))) (qc (Eq.refl ((qr_31_x3 sc i))) (qc (Eq.refl ((recI (List.getD sc (Int.toNat i) ([] : List (Abs.Fd))) (((((0 : Nat) + (1 : Nat)) + (1 : Nat)) + (1 : Nat)) + (1 : Nat))))) (qc (Eq.refl ((recI (List.getD sc (Int.toNat i) ([] : List (Abs.Fd))) ((((((0 : Nat) + (1 : Nat)) + (1 : Nat)) + (1 : Nat)) + (1 : Nat)) + (1 : Nat))))) (qc (Eq.refl ((qr_31_x2 sc i))) (qc (Eq.refl ((1 : Int))) (qc (Eq.refl l) (qc (Eq.refl es) (qc h11 (qc h12 (qc h13 (qc h14 (qc h15 (qc h16 (qc (Eq.refl sc) (qc h17 (qc (Eq.refl ((1 : Int))) (qc (Eq.refl l) (qc h18 (qc (Eq.refl l) (qn))))))))))))))))))))))))))))))))))))))))))))⟩
abbrev qr_32_x1 (sc : List Rec) (l : List Int) (es : List (Rec × Ob)) (i : Int) := ((inM (1 : Int) l es (MsT.mk (recI (List.getD sc (Int.toNat i) ([] : List (Abs.Fd))) (0 : Nat)) (recI (List.getD sc (Int.toNat i) ([] : List (Abs.Fd))) ((0 : Nat) + (1 : Nat))) (recI (List.getD sc (Int.toNat i) ([] : List (Abs.Fd))) (((0 : Nat) + (1 : Nat)) + (1 : Nat))) (recI (List.getD sc (Int.toNat i) ([] : List (Abs.Fd))) ((((0 : Nat) + (1 : Nat)) + (1 : Nat)) + (1 : Nat))) (recI (List.getD sc (Int.toNat i) ([] : List (Abs.Fd))) (((((0 : Nat) + (1 : Nat)) + (1 : Nat)) + (1 : Nat)) + (1 : Nat))) (recI (List.getD sc (Int.toNat i) ([] : List (Abs.Fd))) ((((((0 : Nat) + (1 : Nat)) + (1 : Nat)) + (1 : Nat)) + (1 : Nat)) + (1 : Nat))) (recW (List.getD sc (Int.toNat i) ([] : List (Abs.Fd))) (((((((0 : Nat) + (1 : Nat)) + (1 : Nat)) + (1 : Nat)) + (1 : Nat)) + (1 : Nat)) + (1 : Nat))))))
abbrev qr_32_x2  := (((((0 : Nat) + (1 : Nat)) + (1 : Nat)) + (1 : Nat)) + (1 : Nat))
abbrev qr_32_x3 (sc : List Rec) (i : Int) := (recI (List.getD sc (Int.toNat i) ([] : List (Abs.Fd))) ((((0 : Nat) + (1 : Nat)) + (1 : Nat)) + (1 : Nat)))
abbrev qr_32_x4 (sc : List Rec) (i : Int) := (recI (List.getD sc (Int.toNat i) ([] : List (Abs.Fd))) (((0 : Nat) + (1 : Nat)) + (1 : Nat)))
abbrev qr_32_x5 (sc : List Rec) (i : Int) := (recW (List.getD sc (Int.toNat i) ([] : List (Abs.Fd))) (((qr_32_x2 ) + (1 : Nat)) + (1 : Nat)))
theorem qr_32 (sc : List Rec) (l : List Int) (es es' : List (Rec × Ob)) (i i' : Int)
 (h1 : ((decide (i < (((List.length sc) : Nat) : Int))) = true))
 (h2 : ((decide (i < (60 : Int))) = true))
 (h3 : ((0 : Int) ≤ i))
 (h4 : (i < (((List.length sc) : Nat) : Int)))
 (h5 : ((List.length (qr_32_x5 sc i)) ≤ (281474976710656 : Nat)))
 (h6 : (((recI (List.getD sc (Int.toNat i) ([] : List (Abs.Fd))) (0 : Nat)) == (2 : Int)) = false))
 (h7 : (((recI (List.getD sc (Int.toNat i) ([] : List (Abs.Fd))) (0 : Nat)) == (3 : Int)) = true))
 (h8 : ((decide ((0 : Int) ≤ (idxF l (qr_32_x4 sc i)))) = true))
 (h9 : ((List.length l) ≤ (1000 : Nat)))
 (h10 : ((decide ((0 : Int) ≤ (idxF l (qr_32_x3 sc i)))) = true))
 (h11 : ((decide ((recI (List.getD sc (Int.toNat i) ([] : List (Abs.Fd))) (qr_32_x2 )) ≥ (1 : Int))) = false))
 (h12 : (HbOK (1 : Int) l))
 (h13 : (EsOK (30000 : Nat) es))
 (h14 : (InB (qr_32_x5 sc i)))
 (h15 : (((((List.length ((qr_32_x1 sc l es i).2).1) : Nat) : Int) != (0 : Int)) = false))
 (h16 : (((((List.length ((qr_32_x1 sc l es i).2).2) : Nat) : Int) != (0 : Int)) = false))
 (h17 : (InI64 (i + (1 : Int))))
 (h18 : ((i + (1 : Int)) = i'))
 (h19 : ((qr_32_x1 sc l es i).1 = es')) :
 ∃ ps, stepPs Try.prog DB gQu 100 (bodyN Try.f5 1) 100 (qrSn sc l es i).st [.is true, .is true, .is false, .is true, .is true, .is true, .is false, .is false, .is false] .normal (qrSn sc l es' i') = some ps ∧ AllQ ps := ⟨_, by kernel_rfl, qc h1 (qc h2 (qc h3 (qc h4 (qc (Eq.refl ((recI (List.getD sc (Int.toNat i) ([] : List (Abs.Fd))) (0 : Nat)))) (qc (Eq.refl ((recI (List.getD sc (Int.toNat i) ([] : List (Abs.Fd))) ((0 : Nat) + (1 : Nat))))) (qc (Eq.refl ((qr_32_x4 sc i))) (qc (Eq.refl ((qr_32_x3 sc i))) (qc (Eq.refl ((recI (List.getD sc (Int.toNat i) ([] : List (Abs.Fd))) (qr_32_x2 )))) (qc (Eq.refl ((recI (List.getD sc (Int.toNat i) ([] : List (Abs.Fd))) ((qr_32_x2 ) + (1 : Nat))))) (qc (Eq.refl ((qr_32_x5 sc i))) (qc h5 (qc h6 (qc h7 (qc h8 (qc (Eq.refl l) (qc (Eq.refl ((qr_32_x4 sc i))) (qc h9 (qc h10 (qc (Eq.refl l) (qc (Eq.refl ((qr_32_x3 sc i))) (qc h9 (qc h11 (qc (Eq.refl ((recI (List.getD sc (Int.toNat i) ([] : List (Abs.Fd))) (0 : Nat)))) (qc (Eq.refl ((recI (List.getD sc (Int.toNat i) ([] : List (Abs.Fd))) ((0 : Nat) + (1 : Nat))))) (qc (Eq.refl ((qr_32_x4 sc i))) (qc (Eq.refl ((qr_32_x3 sc i))) (qc (Eq.refl ((recI (List.getD sc (Int.toNat i) ([] : List (Abs.Fd))) (qr_32_x2 )))) (qc (Eq.refl ((recI (List.getD sc (Int.toNat i) ([] : List (Abs.Fd))) ((qr_32_x2 ) + (1 : Nat))))) (qc (Eq.refl ((qr_32_x5 sc i))) (qc (Eq.refl ((1 : Int))) (qc (Eq.refl l) (qc (Eq.refl es) (qc h12 (qc h13 (qc h14 (qc h15 (qc h16 (qc h17 (qc (Eq.refl sc) (qc h18 (qc (Eq.refl ((1 : Int))) (qc (Eq.refl l) (qc h19 (qc (Eq.refl l) (qn)))))))))))))))))))))))))))))))))))))))))))))⟩
abbrev qr_33_x1 (sc : List Rec) (l : List Int) (es : List (Rec × Ob)) (i : Int) := ((inM (1 : Int) l es (MsT.mk (recI (List.getD sc (Int.toNat i) ([] : List (Abs.Fd))) (0 : Nat)) (recI (List.getD sc (Int.toNat i) ([] : List (Abs.Fd))) ((0 : Nat) + (1 : Nat))) (recI (List.getD sc (Int.toNat i) ([] : List (Abs.Fd))) (((0 : Nat) + (1 : Nat)) + (1 : Nat))) (recI (List.getD sc (Int.toNat i) ([] : List (Abs.Fd))) ((((0 : Nat) + (1 : Nat)) + (1 : Nat)) + (1 : Nat))) (recI (List.getD sc (Int.toNat i) ([] : List (Abs.Fd))) (((((0 : Nat) + (1 : Nat)) + (1 : Nat)) + (1 : Nat)) + (1 : Nat))) (recI (List.getD sc (Int.toNat i) ([] : List (Abs.Fd))) ((((((0 : Nat) + (1 : Nat)) + (1 : Nat)) + (1 : Nat)) + (1 : Nat)) + (1 : Nat))) (recW (List.getD sc (Int.toNat i) ([] : List (Abs.Fd))) (((((((0 : Nat) + (1 : Nat)) + (1 : Nat)) + (1 : Nat)) + (1 : Nat)) + (1 : Nat)) + (1 : Nat))))))
abbrev qr_33_x2  := (((((0 : Nat) + (1 : Nat)) + (1 : Nat)) + (1 : Nat)) + (1 : Nat))
abbrev qr_33_x3 (sc : List Rec) (i : Int) := (recI (List.getD sc (Int.toNat i) ([] : List (Abs.Fd))) ((((0 : Nat) + (1 : Nat)) + (1 : Nat)) + (1 : Nat)))
abbrev qr_33_x4 (sc : List Rec) (i : Int) := (recI (List.getD sc (Int.toNat i) ([] : List (Abs.Fd))) (((0 : Nat) + (1 : Nat)) + (1 : Nat)))
abbrev qr_33_x5 (sc : List Rec) (i : Int) := (recW (List.getD sc (Int.toNat i) ([] : List (Abs.Fd))) (((qr_33_x2 ) + (1 : Nat)) + (1 : Nat)))
theorem qr_33 (sc : List Rec) (l : List Int) (es es' : List (Rec × Ob)) (i i' : Int)
 (h1 : ((decide (i < (((List.length sc) : Nat) : Int))) = true))
 (h2 : ((decide (i < (60 : Int))) = true))
 (h3 : ((0 : Int) ≤ i))
 (h4 : (i < (((List.length sc) : Nat) : Int)))
 (h5 : ((List.length (qr_33_x5 sc i)) ≤ (281474976710656 : Nat)))
 (h6 : (((recI (List.getD sc (Int.toNat i) ([] : List (Abs.Fd))) (0 : Nat)) == (2 : Int)) = false))
 (h7 : (((recI (List.getD sc (Int.toNat i) ([] : List (Abs.Fd))) (0 : Nat)) == (3 : Int)) = true))
 (h8 : ((decide ((0 : Int) ≤ (idxF l (qr_33_x4 sc i)))) = true))
 (h9 : ((List.length l) ≤ (1000 : Nat)))
 (h10 : ((decide ((0 : Int) ≤ (idxF l (qr_33_x3 sc i)))) = true))
 (h11 : ((decide ((recI (List.getD sc (Int.toNat i) ([] : List (Abs.Fd))) (qr_33_x2 )) ≥ (1 : Int))) = true))
 (h12 : ((decide ((recI (List.getD sc (Int.toNat i) ([] : List (Abs.Fd))) (qr_33_x2 )) ≤ (3 : Int))) = false))
 (h13 : (HbOK (1 : Int) l))
 (h14 : (EsOK (30000 : Nat) es))
 (h15 : (InB (qr_33_x5 sc i)))
 (h16 : (((((List.length ((qr_33_x1 sc l es i).2).1) : Nat) : Int) != (0 : Int)) = false))
 (h17 : (((((List.length ((qr_33_x1 sc l es i).2).2) : Nat) : Int) != (0 : Int)) = false))
 (h18 : (InI64 (i + (1 : Int))))
 (h19 : ((i + (1 : Int)) = i'))
 (h20 : ((qr_33_x1 sc l es i).1 = es')) :
 ∃ ps, stepPs Try.prog DB gQu 100 (bodyN Try.f5 1) 100 (qrSn sc l es i).st [.is true, .is true, .is false, .is true, .is true, .is true, .is true, .is false, .is false, .is false] .normal (qrSn sc l es' i') = some ps ∧ AllQ ps := ⟨_, by kernel_rfl, qc h1 (qc h2 (qc h3 (qc h4 (qc (Eq.refl ((recI (List.getD sc (Int.toNat i) ([] : List (Abs.Fd))) (0 : Nat)))) (qc (Eq.refl ((recI (List.getD sc (Int.toNat i) ([] : List (Abs.Fd))) ((0 : Nat) + (1 : Nat))))) (qc (Eq.refl ((qr_33_x4 sc i))) (qc (Eq.refl ((qr_33_x3 sc i))) (qc (Eq.refl ((recI (List.getD sc (Int.toNat i) ([] : List (Abs.Fd))) (qr_33_x2 )))) (qc (Eq.refl ((recI (List.getD sc (Int.toNat i) ([] : List (Abs.Fd))) ((qr_33_x2 ) + (1 : Nat))))) (qc (Eq.refl ((qr_33_x5 sc i))) (qc h5 (qc h6 (qc h7 (qc h8 (qc (Eq.refl l) (qc (Eq.refl ((qr_33_x4 sc i))) (qc h9 (qc h10 (qc (Eq.refl l) (qc (Eq.refl ((qr_33_x3 sc i))) (qc h9 (qc h11 (qc h12 (qc (Eq.refl ((recI (List.getD sc (Int.toNat i) ([] : List (Abs.Fd))) (0 : Nat)))) (qc (Eq.refl ((recI (List.getD sc (Int.toNat i) ([] : List (Abs.Fd))) ((0 : Nat) + (1 : Nat))))) (qc (Eq.refl ((qr_33_x4 sc i))) (qc (Eq.refl ((qr_33_x3 sc i))) (qc (Eq.refl ((recI (List.getD sc (Int.toNat i) ([] : List (Abs.Fd))) (qr_33_x2 )))) (qc (Eq.refl ((recI (List.getD sc (Int.toNat i) ([] : List (Abs.Fd))) ((qr_33_x2 ) + (1 : Nat))))) (qc (Eq.refl ((qr_33_x5 sc i))) (qc (Eq.refl ((1 : Int))) (qc (Eq.refl l) (qc (Eq.refl es) (qc h13 (qc h14 (qc h15 (qc h16 (qc h17 (qc h18 (qc (Eq.refl sc) (qc h19 (qc (Eq.refl ((1 : Int))) (qc (Eq.refl l) (qc h20 (qc (Eq.refl l) (qn))))))))))))))))))))))))))))))))))))))))))))))⟩
abbrev qr_34_x1 (sc : List Rec) (l : List Int) (es : List (Rec × Ob)) (i : Int) := ((inM (1 : Int) l es (MsT.mk (recI (List.getD sc (Int.toNat i) ([] : List (Abs.Fd))) (0 : Nat)) (recI (List.getD sc (Int.toNat i) ([] : List (Abs.Fd))) ((0 : Nat) + (1 : Nat))) (recI (List.getD sc (Int.toNat i) ([] : List (Abs.Fd))) (((0 : Nat) + (1 : Nat)) + (1 : Nat))) (recI (List.getD sc (Int.toNat i) ([] : List (Abs.Fd))) ((((0 : Nat) + (1 : Nat)) + (1 : Nat)) + (1 : Nat))) (recI (List.getD sc (Int.toNat i) ([] : List (Abs.Fd))) (((((0 : Nat) + (1 : Nat)) + (1 : Nat)) + (1 : Nat)) + (1 : Nat))) (recI (List.getD sc (Int.toNat i) ([] : List (Abs.Fd))) ((((((0 : Nat) + (1 : Nat)) + (1 : Nat)) + (1 : Nat)) + (1 : Nat)) + (1 : Nat))) (recW (List.getD sc (Int.toNat i) ([] : List (Abs.Fd))) (((((((0 : Nat) + (1 : Nat)) + (1 : Nat)) + (1 : Nat)) + (1 : Nat)) + (1 : Nat)) + (1 : Nat))))))
abbrev qr_34_x2  := (((((0 : Nat) + (1 : Nat)) + (1 : Nat)) + (1 : Nat)) + (1 : Nat))
abbrev qr_34_x3 (sc : List Rec) (i : Int) := (recI (List.getD sc (Int.toNat i) ([] : List (Abs.Fd))) ((((0 : Nat) + (1 : Nat)) + (1 : Nat)) + (1 : Nat)))
abbrev qr_34_x4 (sc : List Rec) (i : Int) := (recW (List.getD sc (Int.toNat i) ([] : List (Abs.Fd))) (((qr_34_x2 ) + (1 : Nat)) + (1 : Nat)))
abbrev qr_34_x5 (sc : List Rec) (i : Int) := (recI (List.getD sc (Int.toNat i) ([] : List (Abs.Fd))) (((0 : Nat) + (1 : Nat)) + (1 : Nat)))
theorem qr_34 (sc : List Rec) (l : List Int) (es es' : List (Rec × Ob)) (i i' : Int)
 (h1 : ((decide (i < (((List.length sc) : Nat) : Int))) = true))
 (h2 : ((decide (i < (60 : Int))) = true))
 (h3 : ((0 : Int) ≤ i))
 (h4 : (i < (((List.length sc) : Nat) : Int)))
 (h5 : ((List.length (qr_34_x4 sc i)) ≤ (281474976710656 : Nat)))
 (h6 : (((recI (List.getD sc (Int.toNat i) ([] : List (Abs.Fd))) (0 : Nat)) == (2 : Int)) = false))
 (h7 : (((recI (List.getD sc (Int.toNat i) ([] : List (Abs.Fd))) (0 : Nat)) == (3 : Int)) = true))
 (h8 : ((decide ((0 : Int) ≤ (idxF l (qr_34_x5 sc i)))) = true))
 (h9 : ((List.length l) ≤ (1000 : Nat)))
 (h10 : ((decide ((0 : Int) ≤ (idxF l (qr_34_x3 sc i)))) = true))
 (h11 : ((decide ((recI (List.getD sc (Int.toNat i) ([] : List (Abs.Fd))) (qr_34_x2 )) ≥ (1 : Int))) = true))
 (h12 : ((decide ((recI (List.getD sc (Int.toNat i) ([] : List (Abs.Fd))) (qr_34_x2 )) ≤ (3 : Int))) = true))
 (h13 : ((decide ((((List.length (qr_34_x4 sc i)) : Nat) : Int) ≤ (4096 : Int))) = false))
 (h14 : (HbOK (1 : Int) l))
 (h15 : (EsOK (30000 : Nat) es))
 (h16 : (InB (qr_34_x4 sc i)))
 (h17 : (((((List.length ((qr_34_x1 sc l es i).2).1) : Nat) : Int) != (0 : Int)) = false))
 (h18 : (((((List.length ((qr_34_x1 sc l es i).2).2) : Nat) : Int) != (0 : Int)) = false))
 (h19 : (InI64 (i + (1 : Int))))
 (h20 : ((i + (1 : Int)) = i'))
 (h21 : ((qr_34_x1 sc l es i).1 = es')) :
 ∃ ps, stepPs Try.prog DB gQu 100 (bodyN Try.f5 1) 100 (qrSn sc l es i).st [.is true, .is true, .is false, .is true, .is true, .is true, .is true, .is true, .is false, .is false, .is false] .normal (qrSn sc l es' i') = some ps ∧ AllQ ps := ⟨_, by kernel_rfl, qc h1 (qc h2 (qc h3 (qc h4 (qc (Eq.refl ((recI (List.getD sc (Int.toNat i) ([] : List (Abs.Fd))) (0 : Nat)))) (qc (Eq.refl ((recI (List.getD sc (Int.toNat i) ([] : List (Abs.Fd))) ((0 : Nat) + (1 : Nat))))) (qc (Eq.refl ((qr_34_x5 sc i))) (qc (Eq.refl ((qr_34_x3 sc i))) (qc (Eq.refl ((recI (List.getD sc (Int.toNat i) ([] : List (Abs.Fd))) (qr_34_x2 )))) (qc (Eq.refl ((recI (List.getD sc (Int.toNat i) ([] : List (Abs.Fd))) ((qr_34_x2 ) + (1 : Nat))))) (qc (Eq.refl ((qr_34_x4 sc i))) (qc h5 (qc h6 (qc h7 (qc h8 (qc (Eq.refl l) (qc (Eq.refl ((qr_34_x5 sc i))) (qc h9 (qc h10 (qc (Eq.refl l) (qc (Eq.refl ((qr_34_x3 sc i))) (qc h9 (qc h11 (qc h12 (qc h13 (qc (Eq.refl ((recI (List.getD sc (Int.toNat i) ([] : List (Abs.Fd))) (0 : Nat)))) (qc (Eq.refl ((recI (List.getD sc (Int.toNat i) ([] : List (Abs.Fd))) ((0 : Nat) + (1 : Nat))))) (qc (Eq.refl ((qr_34_x5 sc i))) (qc (Eq.refl ((qr_34_x3 sc i))) (qc (Eq.refl ((recI (List.getD sc (Int.toNat i) ([] : List (Abs.Fd))) (qr_34_x2 )))) (qc (Eq.refl ((recI (List.getD sc (Int.toNat i) ([] : List (Abs.Fd))) ((qr_34_x2 ) + (1 : Nat))))) (qc (Eq.refl ((qr_34_x4 sc i))) (qc (Eq.refl ((1 : Int))) (qc (Eq.refl l) (qc (Eq.refl es) (qc h14 (qc h15 (qc h16 (qc h17 (qc h18 (qc h19 (qc (Eq.refl sc) (qc h20 (qc (Eq.refl ((1 : Int))) (qc (Eq.refl l) (qc h21 (qc (Eq.refl l) (qn)))))))))))))))))))))))))))))))))))))))))))))))⟩
abbrev qr_1s_x1 (sc : List Rec) (i : Int) := (recI (List.getD sc (Int.toNat i) ([] : List (Abs.Fd))) ((((0 : Nat) + (1 : Nat)) + (1 : Nat)) + (1 : Nat)))
abbrev qr_1s_x2  := (((((0 : Nat) + (1 : Nat)) + (1 : Nat)) + (1 : Nat)) + (1 : Nat))
abbrev qr_1s_x3 (sc : List Rec) (i : Int) := (recI (List.getD sc (Int.toNat i) ([] : List (Abs.Fd))) (((0 : Nat) + (1 : Nat)) + (1 : Nat)))
theorem qr_1s (sc : List Rec) (l : List Int) (es es' : List (Rec × Ob)) (i i' : Int)
 (h1 : ((decide (i < (((List.length sc) : Nat) : Int))) = true))
 (h2 : ((decide (i < (60 : Int))) = true))
 (h3 : ((0 : Int) ≤ i))
 (h4 : (i < (((List.length sc) : Nat) : Int)))
 (h5 : ((List.length (recW (List.getD sc (Int.toNat i) ([] : List (Abs.Fd))) (((qr_1s_x2 ) + (1 : Nat)) + (1 : Nat)))) ≤ (281474976710656 : Nat)))
 (h6 : (((recI (List.getD sc (Int.toNat i) ([] : List (Abs.Fd))) (0 : Nat)) == (2 : Int)) = false))
 (h7 : (((recI (List.getD sc (Int.toNat i) ([] : List (Abs.Fd))) (0 : Nat)) == (3 : Int)) = false))
 (h8 : (((recI (List.getD sc (Int.toNat i) ([] : List (Abs.Fd))) (0 : Nat)) == (1 : Int)) = true))
 (h9 : (((qr_1s_x3 sc i) == (qr_1s_x1 sc i)) = true))
 (h10 : ((decide ((0 : Int) ≤ (idxF l (qr_1s_x3 sc i)))) = true))
 (h11 : ((List.length l) ≤ (1000 : Nat)))
 (h12 : ((decide ((0 : Int) ≤ (idxF l (qr_1s_x1 sc i)))) = true))
 (h13 : ((decide ((recI (List.getD sc (Int.toNat i) ([] : List (Abs.Fd))) (qr_1s_x2 )) ≥ (1 : Int))) = true))
 (h14 : ((decide ((recI (List.getD sc (Int.toNat i) ([] : List (Abs.Fd))) (qr_1s_x2 )) ≤ (3 : Int))) = true))
 (h15 : ((decide ((((List.length (recW (List.getD sc (Int.toNat i) ([] : List (Abs.Fd))) (((qr_1s_x2 ) + (1 : Nat)) + (1 : Nat)))) : Nat) : Int) ≤ (4096 : Int))) = true))
 (h16 : (InI64 (i + (1 : Int))))
 (h17 : ((i + (1 : Int)) = i'))
 (h18 : (es = es')) :
 ∃ ps, stepPs Try.prog DB gQu 100 (bodyN Try.f5 1) 100 (qrSn sc l es i).st [.is true, .is true, .is false, .is false, .is true, .is true, .is true, .is true, .is true, .is true, .is true] .normal (qrSn sc l es' i') = some ps ∧ AllQ ps := ⟨_, by kernel_rfl, qc h1 (qc h2 (qc h3 (qc h4 (qc (Eq.refl ((recI (List.getD sc (Int.toNat i) ([] : List (Abs.Fd))) (0 : Nat)))) (qc (Eq.refl ((recI (List.getD sc (Int.toNat i) ([] : List (Abs.Fd))) ((0 : Nat) + (1 : Nat))))) (qc (Eq.refl ((qr_1s_x3 sc i))) (qc (Eq.refl ((qr_1s_x1 sc i))) (qc (Eq.refl ((recI (List.getD sc (Int.toNat i) ([] : List (Abs.Fd))) (qr_1s_x2 )))) (qc (Eq.refl ((recI (List.getD sc (Int.toNat i) ([] : List (Abs.Fd))) ((qr_1s_x2 ) + (1 : Nat))))) (qc (Eq.refl ((recW (List.getD sc (Int.toNat i) ([] : List (Abs.Fd))) (((qr_1s_x2 ) + (1 : Nat)) + (1 : Nat))))) (qc h5 (qc h6 (qc h7 (qc h8 (qc h9 (qc h10 (qc (Eq.refl l) (qc (Eq.refl ((qr_1s_x3 sc i))) (qc h11 (qc h12 (qc (Eq.refl l) (qc (Eq.refl ((qr_1s_x1 sc i))) (qc h11 (qc h13 (qc h14 (qc h15 (qc h16 (qc (Eq.refl sc) (qc h17 (qc (Eq.refl ((1 : Int))) (qc (Eq.refl l) (qc h18 (qc (Eq.refl l) (qn))))))))))))))))))))))))))))))))))⟩
abbrev qr_10_x1 (sc : List Rec) (l : List Int) (es : List (Rec × Ob)) (i : Int) := ((inM (1 : Int) l es (MsT.mk (recI (List.getD sc (Int.toNat i) ([] : List (Abs.Fd))) (0 : Nat)) (recI (List.getD sc (Int.toNat i) ([] : List (Abs.Fd))) ((0 : Nat) + (1 : Nat))) (recI (List.getD sc (Int.toNat i) ([] : List (Abs.Fd))) (((0 : Nat) + (1 : Nat)) + (1 : Nat))) (recI (List.getD sc (Int.toNat i) ([] : List (Abs.Fd))) ((((0 : Nat) + (1 : Nat)) + (1 : Nat)) + (1 : Nat))) (recI (List.getD sc (Int.toNat i) ([] : List (Abs.Fd))) (((((0 : Nat) + (1 : Nat)) + (1 : Nat)) + (1 : Nat)) + (1 : Nat))) (recI (List.getD sc (Int.toNat i) ([] : List (Abs.Fd))) ((((((0 : Nat) + (1 : Nat)) + (1 : Nat)) + (1 : Nat)) + (1 : Nat)) + (1 : Nat))) (recW (List.getD sc (Int.toNat i) ([] : List (Abs.Fd))) (((((((0 : Nat) + (1 : Nat)) + (1 : Nat)) + (1 : Nat)) + (1 : Nat)) + (1 : Nat)) + (1 : Nat))))))
abbrev qr_10_x2 (sc : List Rec) (i : Int) := (recW (List.getD sc (Int.toNat i) ([] : List (Abs.Fd))) (((((((0 : Nat) + (1 : Nat)) + (1 : Nat)) + (1 : Nat)) + (1 : Nat)) + (1 : Nat)) + (1 : Nat)))
abbrev qr_10_x3 (sc : List Rec) (i : Int) := (recI (List.getD sc (Int.toNat i) ([] : List (Abs.Fd))) (((0 : Nat) + (1 : Nat)) + (1 : Nat)))
abbrev qr_10_x4 (sc : List Rec) (i : Int) := (recI (List.getD sc (Int.toNat i) ([] : List (Abs.Fd))) ((((0 : Nat) + (1 : Nat)) + (1 : Nat)) + (1 : Nat)))
theorem qr_10 (sc : List Rec) (l : List Int) (es es' : List (Rec × Ob)) (i i' : Int)
 (h1 : ((decide (i < (((List.length sc) : Nat) : Int))) = true))
 (h2 : ((decide (i < (60 : Int))) = true))
 (h3 : ((0 : Int) ≤ i))
 (h4 : (i < (((List.length sc) : Nat) : Int)))
 (h5 : ((List.length (qr_10_x2 sc i)) ≤ (281474976710656 : Nat)))
 (h6 : (((recI (List.getD sc (Int.toNat i) ([] : List (Abs.Fd))) (0 : Nat)) == (2 : Int)) = false))
 (h7 : (((recI (List.getD sc (Int.toNat i) ([] : List (Abs.Fd))) (0 : Nat)) == (3 : Int)) = false))
 (h8 : (((recI (List.getD sc (Int.toNat i) ([] : List (Abs.Fd))) (0 : Nat)) == (1 : Int)) = true))
 (h9 : (((qr_10_x3 sc i) == (qr_10_x4 sc i)) = true))
 (h10 : ((decide ((0 : Int) ≤ (idxF l (qr_10_x3 sc i)))) = false))
 (h11 : ((List.length l) ≤ (1000 : Nat)))
 (h12 : (HbOK (1 : Int) l))
 (h13 : (EsOK (30000 : Nat) es))
 (h14 : (InB (qr_10_x2 sc i)))
 (h15 : (((((List.length ((qr_10_x1 sc l es i).2).1) : Nat) : Int) != (0 : Int)) = false))
 (h16 : (((((List.length ((qr_10_x1 sc l es i).2).2) : Nat) : Int) != (0 : Int)) = false))
 (h17 : (InI64 (i + (1 : Int))))
 (h18 : ((i + (1 : Int)) = i'))
 (h19 : ((qr_10_x1 sc l es i).1 = es')) :
 ∃ ps, stepPs Try.prog DB gQu 100 (bodyN Try.f5 1) 100 (qrSn sc l es i).st [.is true, .is true, .is false, .is false, .is true, .is true, .is false, .is false, .is false] .normal (qrSn sc l es' i') = some ps ∧ AllQ ps := ⟨_, by kernel_rfl, qc h1 (qc h2 (qc h3 (qc h4 (qc (Eq.refl ((recI (List.getD sc (Int.toNat i) ([] : List (Abs.Fd))) (0 : Nat)))) (qc (Eq.refl ((recI (List.getD sc (Int.toNat i) ([] : List (Abs.Fd))) ((0 : Nat) + (1 : Nat))))) (qc (Eq.refl ((qr_10_x3 sc i))) (qc (Eq.refl ((qr_10_x4 sc i))) (qc (Eq.refl ((recI (List.getD sc (Int.toNat i) ([] : List (Abs.Fd))) (((((0 : Nat) + (1 : Nat)) + (1 : Nat)) + (1 : Nat)) + (1 : Nat))))) (qc (Eq.refl ((recI (List.getD sc (Int.toNat i) ([] : List (Abs.Fd))) ((((((0 : Nat) + (1 : Nat)) + (1 : Nat)) + (1 : Nat)) + (1 : Nat)) + (1 : Nat))))) (qc (Eq.refl ((qr_10_x2 sc i))) (qc h5 (qc h6 (qc h7 (qc h8 (qc h9 (qc h10 (qc (Eq.refl l) (qc (Eq.refl ((qr_10_x3 sc i))) (qc h11 (qc (Eq.refl ((recI (List.getD sc (Int.toNat i) ([] : List (Abs.Fd))) (0 : Nat)))) (qc (Eq.refl ((recI (List.getD sc (Int.toNat i) ([] : List (Abs.Fd))) ((0 : Nat) + (1 : Nat))))) (qc (Eq.refl ((qr_10_x3 sc i))) (qc (Eq.refl ((qr_10_x4 sc i))) (qc (Eq.refl ((recI (List.getD sc (Int.toNat i) ([] : List (Abs.Fd))) (((((0 : Nat) + (1 : Nat)) + (1 : Nat)) + (1 : Nat)) + (1 : Nat))))) (qc (Eq.refl ((recI (List.getD sc (Int.toNat i) ([] : List (Abs.Fd))) ((((((0 : Nat) + (1 : Nat)) + (1 : Nat)) + (1 : Nat)) + (1 : Nat)) + (1 : Nat))))) (qc (Eq.refl ((qr_10_x2 sc i))) (qc (Eq.refl ((1 : Int))) (qc (Eq.refl l) (qc (Eq.refl es) (qc h12 (qc h13 (qc h14 (qc h15 (qc h16 (qc h17 (qc (Eq.refl sc) (qc h18 (qc (Eq.refl ((1 : Int))) (qc (Eq.refl l) (qc h19 (qc (Eq.refl l) (qn))))))))))))))))))))))))))))))))))))))))))⟩
abbrev qr_11_x1 (sc : List Rec) (l : List Int) (es : List (Rec × Ob)) (i : Int) := ((inM (1 : Int) l es (MsT.mk (recI (List.getD sc (Int.toNat i) ([] : List (Abs.Fd))) (0 : Nat)) (recI (List.getD sc (Int.toNat i) ([] : List (Abs.Fd))) ((0 : Nat) + (1 : Nat))) (recI (List.getD sc (Int.toNat i) ([] : List (Abs.Fd))) (((0 : Nat) + (1 : Nat)) + (1 : Nat))) (recI (List.getD sc (Int.toNat i) ([] : List (Abs.Fd))) ((((0 : Nat) + (1 : Nat)) + (1 : Nat)) + (1 : Nat))) (recI (List.getD sc (Int.toNat i) ([] : List (Abs.Fd))) (((((0 : Nat) + (1 : Nat)) + (1 : Nat)) + (1 : Nat)) + (1 : Nat))) (recI (List.getD sc (Int.toNat i) ([] : List (Abs.Fd))) ((((((0 : Nat) + (1 : Nat)) + (1 : Nat)) + (1 : Nat)) + (1 : Nat)) + (1 : Nat))) (recW (List.getD sc (Int.toNat i) ([] : List (Abs.Fd))) (((((((0 : Nat) + (1 : Nat)) + (1 : Nat)) + (1 : Nat)) + (1 : Nat)) + (1 : Nat)) + (1 : Nat))))))
abbrev qr_11_x2 (sc : List Rec) (i : Int) := (recW (List.getD sc (Int.toNat i) ([] : List (Abs.Fd))) (((((((0 : Nat) + (1 : Nat)) + (1 : Nat)) + (1 : Nat)) + (1 : Nat)) + (1 : Nat)) + (1 : Nat)))
abbrev qr_11_x3 (sc : List Rec) (i : Int) := (recI (List.getD sc (Int.toNat i) ([] : List (Abs.Fd))) ((((0 : Nat) + (1 : Nat)) + (1 : Nat)) + (1 : Nat)))
abbrev qr_11_x4 (sc : List Rec) (i : Int) := (recI (List.getD sc (Int.toNat i) ([] : List (Abs.Fd))) (((0 : Nat) + (1 : Nat)) + (1 : Nat)))
theorem qr_11 (sc : List Rec) (l : List Int) (es es' : List (Rec × Ob)) (i i' : Int)
 (h1 : ((decide (i < (((List.length sc) : Nat) : Int))) = true))
 (h2 : ((decide (i < (60 : Int))) = true))
 (h3 : ((0 : Int) ≤ i))
 (h4 : (i < (((List.length sc) : Nat) : Int)))
 (h5 : ((List.length (qr_11_x2 sc i)) ≤ (281474976710656 : Nat)))
 (h6 : (((recI (List.getD sc (Int.toNat i) ([] : List (Abs.Fd))) (0 : Nat)) == (2 : Int)) = false))
 (h7 : (((recI (List.getD sc (Int.toNat i) ([] : List (Abs.Fd))) (0 : Nat)) == (3 : Int)) = false))
 (h8 : (((recI (List.getD sc (Int.toNat i) ([] : List (Abs.Fd))) (0 : Nat)) == (1 : Int)) = true))
 (h9 : (((qr_11_x4 sc i) == (qr_11_x3 sc i)) = true))
 (h10 : ((decide ((0 : Int) ≤ (idxF l (qr_11_x4 sc i)))) = true))
 (h11 : ((List.length l) ≤ (1000 : Nat)))
 (h12 : ((decide ((0 : Int) ≤ (idxF l (qr_11_x3 sc i)))) = false))
 (h13 : (HbOK (1 : Int) l))
 (h14 : (EsOK (30000 : Nat) es))
 (h15 : (InB (qr_11_x2 sc i)))
 (h16 : (((((List.length ((qr_11_x1 sc l es i).2).1) : Nat) : Int) != (0 : Int)) = false))
 (h17 : (((((List.length ((qr_11_x1 sc l es i).2).2) : Nat) : Int) != (0 : Int)) = false))
 (h18 : (InI64 (i + (1 : Int))))
 (h19 : ((i + (1 : Int)) = i'))
 (h20 : ((qr_11_x1 sc l es i).1 = es')) :
 ∃ ps, stepPs Try.prog DB gQu 100 (bodyN Try.f5 1) 100 (qrSn sc l es i).st [.is true, .is true, .is false, .is false, .is true, .is true, .is true, .is false, .is false, .is false] .normal (qrSn sc l es' i') = some ps ∧ AllQ ps := ⟨_, by kernel_rfl, qc h1 (qc h2 (qc h3 (qc h4 (qc (Eq.refl ((recI (List.getD sc (Int.toNat i) ([] : List (Abs.Fd))) (0 : Nat)))) (qc (Eq.refl ((recI (List.getD sc (Int.toNat i) ([] : List (Abs.Fd))) ((0 : Nat) + (1 : Nat))))) (qc (Eq.refl ((qr_11_x4 sc i))) (qc (Eq.refl ((qr_11_x3 sc i))) (qc (Eq.refl ((recI (List.getD sc (Int.toNat i) ([] : List (Abs.Fd))) (((((0 : Nat) + (1 : Nat)) + (1 : Nat)) + (1 : Nat)) + (1 : Nat))))) (qc (Eq.refl ((recI (List.getD sc (Int.toNat i) ([] : List (Abs.Fd))) ((((((0 : Nat) + (1 : Nat)) + (1 : Nat)) + (1 : Nat)) + (1 : Nat)) + (1 : Nat))))) (qc (Eq.refl ((qr_11_x2 sc i))) (qc h5 (qc h6 (qc h7 (qc h8 (qc h9 (qc h10 (qc (Eq.refl l) (qc (Eq.refl ((qr_11_x4 sc i))) (qc h11 (qc h12 (qc (Eq.refl l) (qc (Eq.refl ((qr_11_x3 sc i))) (qc h11 (qc (Eq.refl ((recI (List.getD sc (Int.toNat i) ([] : List (Abs.Fd))) (0 : Nat)))) (qc (Eq.refl ((recI (List.getD sc (Int.toNat i) ([] : List (Abs.Fd))) ((0 : Nat) + (1 : Nat))))) (qc (Eq.refl ((qr_11_x4 sc i))) (qc (Eq.refl ((qr_11_x3 sc i))) (qc (Eq.refl ((recI (List.getD sc (Int.toNat i) ([] : List (Abs.Fd))) (((((0 : Nat) + (1 : Nat)) + (1 : Nat)) + (1 : Nat)) + (1 : Nat))))) (qc (Eq.refl ((recI (List.getD sc (Int.toNat i) ([] : List (Abs.Fd))) ((((((0 : Nat) + (1 : Nat)) + (1 : Nat)) + (1 : Nat)) + (1 : Nat)) + (1 : Nat))))) (qc (Eq.refl ((qr_11_x2 sc i))) (qc (Eq.refl ((1 : Int))) (qc (Eq.refl l) (qc (Eq.refl es) (qc h13 (qc h14 (qc h15 (qc h16 (qc h17 (qc h18 (qc (Eq.refl sc) (qc h19 (qc (Eq.refl ((1 : Int))) (qc (Eq.refl l) (qc h20 (qc (Eq.refl l) (qn))))))))))))))))))))))))))))))))))))))))))))))⟩
abbrev qr_12_x1 (sc : List Rec) (l : List Int) (es : List (Rec × Ob)) (i : Int) := ((inM (1 : Int) l es (MsT.mk (recI (List.getD sc (Int.toNat i) ([] : List (Abs.Fd))) (0 : Nat)) (recI (List.getD sc (Int.toNat i) ([] : List (Abs.Fd))) ((0 : Nat) + (1 : Nat))) (recI (List.getD sc (Int.toNat i) ([] : List (Abs.Fd))) (((0 : Nat) + (1 : Nat)) + (1 : Nat))) (recI (List.getD sc (Int.toNat i) ([] : List (Abs.Fd))) ((((0 : Nat) + (1 : Nat)) + (1 : Nat)) + (1 : Nat))) (recI (List.getD sc (Int.toNat i) ([] : List (Abs.Fd))) (((((0 : Nat) + (1 : Nat)) + (1 : Nat)) + (1 : Nat)) + (1 : Nat))) (recI (List.getD sc (Int.toNat i) ([] : List (Abs.Fd))) ((((((0 : Nat) + (1 : Nat)) + (1 : Nat)) + (1 : Nat)) + (1 : Nat)) + (1 : Nat))) (recW (List.getD sc (Int.toNat i) ([] : List (Abs.Fd))) (((((((0 : Nat) + (1 : Nat)) + (1 : Nat)) + (1 : Nat)) + (1 : Nat)) + (1 : Nat)) + (1 : Nat))))))
abbrev qr_12_x2  := (((((0 : Nat) + (1 : Nat)) + (1 : Nat)) + (1 : Nat)) + (1 : Nat))
abbrev qr_12_x3 (sc : List Rec) (i : Int) := (recI (List.getD sc (Int.toNat i) ([] : List (Abs.Fd))) ((((0 : Nat) + (1 : Nat)) + (1 : Nat)) + (1 : Nat)))
abbrev qr_12_x4 (sc : List Rec) (i : Int) := (recI (List.getD sc (Int.toNat i) ([] : List (Abs.Fd))) (((0 : Nat) + (1 : Nat)) + (1 : Nat)))
abbrev qr_12_x5 (sc : List Rec) (i : Int) := (recW (List.getD sc (Int.toNat i) ([] : List (Abs.Fd))) (((qr_12_x2 ) + (1 : Nat)) + (1 : Nat)))
theorem qr_12 (sc : List Rec) (l : List Int) (es es' : List (Rec × Ob)) (i i' : Int)
 (h1 : ((decide (i < (((List.length sc) : Nat) : Int))) = true))
 (h2 : ((decide (i < (60 : Int))) = true))
 (h3 : ((0 : Int) ≤ i))
 (h4 : (i < (((List.length sc) : Nat) : Int)))
 (h5 : ((List.length (qr_12_x5 sc i)) ≤ (281474976710656 : Nat)))
 (h6 : (((recI (List.getD sc (Int.toNat i) ([] : List (Abs.Fd))) (0 : Nat)) == (2 : Int)) = false))
 (h7 : (((recI (List.getD sc (Int.toNat i) ([] : List (Abs.Fd))) (0 : Nat)) == (3 : Int)) = false))
 (h8 : (((recI (List.getD sc (Int.toNat i) ([] : List (Abs.Fd))) (0 : Nat)) == (1 : Int)) = true))
 (h9 : (((qr_12_x4 sc i) == (qr_12_x3 sc i)) = true))
 (h10 : ((decide ((0 : Int) ≤ (idxF l (qr_12_x4 sc i)))) = true))
 (h11 : ((List.length l) ≤ (1000 : Nat)))
 (h12 : ((decide ((0 : Int) ≤ (idxF l (qr_12_x3 sc i)))) = true))
 (h13 : ((decide ((recI (List.getD sc (Int.toNat i) ([] : List (Abs.Fd))) (qr_12_x2 )) ≥ (1 : Int))) = false))
 (h14 : (HbOK (1 : Int) l))
 (h15 : (EsOK (30000 : Nat) es))
 (h16 : (InB (qr_12_x5 sc i)))
 (h17 : (((((List.length ((qr_12_x1 sc l es i).2).1) : Nat) : Int) != (0 : Int)) = false))
 (h18 : (((((List.length ((qr_12_x1 sc l es i).2).2) : Nat) : Int) != (0 : Int)) = false))
 (h19 : (InI64 (i + (1 : Int))))
 (h20 : ((i + (1 : Int)) = i'))
 (h21 : ((qr_12_x1 sc l es i).1 = es')) :
 ∃ ps, stepPs Try.prog DB gQu 100 (bodyN Try.f5 1) 100 (qrSn sc l es i).st [.is true, .is true, .is false, .is false, .is true, .is true, .is true, .is true, .is false, .is false, .is false] .normal (qrSn sc l es' i') = some ps ∧ AllQ ps := ⟨_, by kernel_rfl, qc h1 (qc h2 (qc h3 (qc h4 (qc (Eq.refl ((recI (List.getD sc (Int.toNat i) ([] : List (Abs.Fd))) (0 : Nat)))) (qc (Eq.refl ((recI (List.getD sc (Int.toNat i) ([] : List (Abs.Fd))) ((0 : Nat) + (1 : Nat))))) (qc (Eq.refl ((qr_12_x4 sc i))) (qc (Eq.refl ((qr_12_x3 sc i))) (qc (Eq.refl ((recI (List.getD sc (Int.toNat i) ([] : List (Abs.Fd))) (qr_12_x2 )))) (qc (Eq.refl ((recI (List.getD sc (Int.toNat i) ([] : List (Abs.Fd))) ((qr_12_x2 ) + (1 : Nat))))) (qc (Eq.refl ((qr_12_x5 sc i))) (qc h5 (qc h6 (qc h7 (qc h8 (qc h9 (qc h10 (qc (Eq.refl l) (qc (Eq.refl ((qr_12_x4 sc i))) (qc h11 (qc h12 (qc (Eq.refl l) (qc (Eq.refl ((qr_12_x3 sc i))) (qc h11 (qc h13 (qc (Eq.refl ((recI (List.getD sc (Int.toNat i) ([] : List (Abs.Fd))) (0 : Nat)))) (qc (Eq.refl ((recI (List.getD sc (Int.toNat i) ([] : List (Abs.Fd))) ((0 : Nat) + (1 : Nat))))) (qc (Eq.refl ((qr_12_x4 sc i))) (qc (Eq.refl ((qr_12_x3 sc i))) (qc (Eq.refl ((recI (List.getD sc (Int.toNat i) ([] : List (Abs.Fd))) (qr_12_x2 )))) (qc (Eq.refl ((recI (List.getD sc (Int.toNat i) ([] : List (Abs.Fd))) ((qr_12_x2 ) + (1 : Nat))))) (qc (Eq.refl ((qr_12_x5 sc i))) (qc (Eq.refl ((1 : Int))) (qc (Eq.refl l) (qc (Eq.refl es) (qc h14 (qc h15 (qc h16 (qc h17 (qc h18 (qc h19 (qc (Eq.refl sc) (qc h20 (qc (Eq.refl ((1 : Int))) (qc (Eq.refl l) (qc h21 (qc (Eq.refl l) (qn)))))))))))))))))))))))))))))))))))))))))))))))⟩
abbrev qr_13_x1 (sc : List Rec) (l : List Int) (es : List (Rec × Ob)) (i : Int) := ((inM (1 : Int) l es (MsT.mk (recI (List.getD sc (Int.toNat i) ([] : List (Abs.Fd))) (0 : Nat)) (recI (List.getD sc (Int.toNat i) ([] : List (Abs.Fd))) ((0 : Nat) + (1 : Nat))) (recI (List.getD sc (Int.toNat i) ([] : List (Abs.Fd))) (((0 : Nat) + (1 : Nat)) + (1 : Nat))) (recI (List.getD sc (Int.toNat i) ([] : List (Abs.Fd))) ((((0 : Nat) + (1 : Nat)) + (1 : Nat)) + (1 : Nat))) (recI (List.getD sc (Int.toNat i) ([] : List (Abs.Fd))) (((((0 : Nat) + (1 : Nat)) + (1 : Nat)) + (1 : Nat)) + (1 : Nat))) (recI (List.getD sc (Int.toNat i) ([] : List (Abs.Fd))) ((((((0 : Nat) + (1 : Nat)) + (1 : Nat)) + (1 : Nat)) + (1 : Nat)) + (1 : Nat))) (recW (List.getD sc (Int.toNat i) ([] : List (Abs.Fd))) (((((((0 : Nat) + (1 : Nat)) + (1 : Nat)) + (1 : Nat)) + (1 : Nat)) + (1 : Nat)) + (1 : Nat))))))
abbrev qr_13_x2  := (((((0 : Nat) + (1 : Nat)) + (1 : Nat)) + (1 : Nat)) + (1 : Nat))
abbrev qr_13_x3 (sc : List Rec) (i : Int) := (recI (List.getD sc (Int.toNat i) ([] : List (Abs.Fd))) ((((0 : Nat) + (1 : Nat)) + (1 : Nat)) + (1 : Nat)))
abbrev qr_13_x4 (sc : List Rec) (i : Int) := (recI (List.getD sc (Int.toNat i) ([] : List (Abs.Fd))) (((0 : Nat) + (1 : Nat)) + (1 : Nat)))
abbrev qr_13_x5 (sc : List Rec) (i : Int) := (recW (List.getD sc (Int.toNat i) ([] : List (Abs.Fd))) (((qr_13_x2 ) + (1 : Nat)) + (1 : Nat)))
theorem qr_13 (sc : List Rec) (l : List Int) (es es' : List (Rec × Ob)) (i i' : Int)
 (h1 : ((decide (i < (((List.length sc) : Nat) : Int))) = true))
 (h2 : ((decide (i < (60 : Int))) = true))
 (h3 : ((0 : Int) ≤ i))
 (h4 : (i < (((List.length sc) : Nat) : Int)))
 (h5 : ((List.length (qr_13_x5 sc i)) ≤ (281474976710656 : Nat)))
 (h6 : (((recI (List.getD sc (Int.toNat i) ([] : List (Abs.Fd))) (0 : Nat)) == (2 : Int)) = false))
 (h7 : (((recI (List.getD sc (Int.toNat i) ([] : List (Abs.Fd))) (0 : Nat)) == (3 : Int)) = false))
 (h8 : (((recI (List.getD sc (Int.toNat i) ([] : List (Abs.Fd))) (0 : Nat)) == (1 : Int)) = true))
 (h9 : (((qr_13_x4 sc i) == (qr_13_x3 sc i)) = true))
 (h10 : ((decide ((0 : Int) ≤ (idxF l (qr_13_x4 sc i)))) = true))
 (h11 : ((List.length l) ≤ (1000 : Nat)))
 (h12 : ((decide ((0 : Int) ≤ (idxF l (qr_13_x3 sc i)))) = true))
 (h13 : ((decide ((recI (List.getD sc (Int.toNat i) ([] : List (Abs.Fd))) (qr_13_x2 )) ≥ (1 : Int))) = true))
 (h14 : ((decide ((recI (List.getD sc (Int.toNat i) ([] : List (Abs.Fd))) (qr_13_x2 )) ≤ (3 : Int))) = false))
 (h15 : (HbOK (1 : Int) l))
 (h16 : (EsOK (30000 : Nat) es))
 (h17 : (InB (qr_13_x5 sc i)))
 (h18 : (((((List.length ((qr_13_x1 sc l es i).2).1) : Nat) : Int) != (0 : Int)) = false))
 (h19 : (((((List.length ((qr_13_x1 sc l es i).2).2) : Nat) : Int) != (0 : Int)) = false))
 (h20 : (InI64 (i + (1 : Int))))
 (h21 : ((i + (1 : Int)) = i'))
 (h22 : ((qr_13_x1 sc l es i).1 = es')) :
 ∃ ps, stepPs Try.prog DB gQu 100 (bodyN Try.f5 1) 100 (qrSn sc l es i).st [.is true, .is true, .is false, .is false, .is true, .is true, .is true, .is true, .is true, .is false, .is false, .is false] .normal (qrSn sc l es' i') = some ps ∧ AllQ ps := ⟨_, by kernel_rfl, qc h1 (qc h2 (qc h3 (qc h4 (qc (Eq.refl ((recI (List.getD sc (Int.toNat i) ([] : List (Abs.Fd))) (0 : Nat)))) (qc (Eq.refl ((recI (List.getD sc (Int.toNat i) ([] : List (Abs.Fd))) ((0 : Nat) + (1 : Nat))))) (qc (Eq.refl ((qr_13_x4 sc i))) (qc (Eq.refl ((qr_13_x3 sc i))) (qc (Eq.refl ((recI (List.getD sc (Int.toNat i) ([] : List (Abs.Fd))) (qr_13_x2 )))) (qc (Eq.refl ((recI (List.getD sc (Int.toNat i) ([] : List (Abs.Fd))) ((qr_13_x2 ) + (1 : Nat))))) (qc (Eq.refl ((qr_13_x5 sc i))) (qc h5 (qc h6 (qc h7 (qc h8 (qc h9 (qc h10 (qc (Eq.refl l) (qc (Eq.refl ((qr_13_x4 sc i))) (qc h11 (qc h12 (qc (Eq.refl l) (qc (Eq.refl ((qr_13_x3 sc i))) (qc h11 (qc h13 (qc h14 (qc (Eq.refl ((recI (List.getD sc (Int.toNat i) ([] : List (Abs.Fd))) (0 : Nat)))) (qc (Eq.refl ((recI (List.getD sc (Int.toNat i) ([] : List (Abs.Fd))) ((0 : Nat) + (1 : Nat))))) (qc (Eq.refl ((qr_13_x4 sc i))) (qc (Eq.refl ((qr_13_x3 sc i))) (qc (Eq.refl ((recI (List.getD sc (Int.toNat i) ([] : List (Abs.Fd))) (qr_13_x2 )))) (qc (Eq.refl ((recI (List.getD sc (Int.toNat i) ([] : List (Abs.Fd))) ((qr_13_x2 ) + (1 : Nat))))) (qc (Eq.refl ((qr_13_x5 sc i))) (qc (Eq.refl ((1 : Int))) (qc (Eq.refl l) (qc (Eq.refl es) (qc h15 (qc h16 (qc h17 (qc h18 (qc h19 (qc h20 (qc (Eq.refl sc) (qc h21 (qc (Eq.refl ((1 : Int))) (qc (Eq.refl l) (qc h22 (qc (Eq.refl l) (qn))))))))))))))))))))))))))))))))))))))))))))))))⟩
abbrev qr_14_x1 (sc : List Rec) (l : List Int) (es : List (Rec × Ob)) (i : Int) := ((inM (1 : Int) l es (MsT.mk (recI (List.getD sc (Int.toNat i) ([] : List (Abs.Fd))) (0 : Nat)) (recI (List.getD sc (Int.toNat i) ([] : List (Abs.Fd))) ((0 : Nat) + (1 : Nat))) (recI (List.getD sc (Int.toNat i) ([] : List (Abs.Fd))) (((0 : Nat) + (1 : Nat)) + (1 : Nat))) (recI (List.getD sc (Int.toNat i) ([] : List (Abs.Fd))) ((((0 : Nat) + (1 : Nat)) + (1 : Nat)) + (1 : Nat))) (recI (List.getD sc (Int.toNat i) ([] : List (Abs.Fd))) (((((0 : Nat) + (1 : Nat)) + (1 : Nat)) + (1 : Nat)) + (1 : Nat))) (recI (List.getD sc (Int.toNat i) ([] : List (Abs.Fd))) ((((((0 : Nat) + (1 : Nat)) + (1 : Nat)) + (1 : Nat)) + (1 : Nat)) + (1 : Nat))) (recW (List.getD sc (Int.toNat i) ([] : List (Abs.Fd))) (((((((0 : Nat) + (1 : Nat)) + (1 : Nat)) + (1 : Nat)) + (1 : Nat)) + (1 : Nat)) + (1 : Nat))))))
abbrev qr_14_x2  := (((((0 : Nat) + (1 : Nat)) + (1 : Nat)) + (1 : Nat)) + (1 : Nat))
abbrev qr_14_x3 (sc : List Rec) (i : Int) := (recI (List.getD sc (Int.toNat i) ([] : List (Abs.Fd))) ((((0 : Nat) + (1 : Nat)) + (1 : Nat)) + (1 : Nat)))
abbrev qr_14_x4 (sc : List Rec) (i : Int) := (recI (List.getD sc (Int.toNat i) ([] : List (Abs.Fd))) (((0 : Nat) + (1 : Nat)) + (1 : Nat)))
abbrev qr_14_x5 (sc : List Rec) (i : Int) := (recW (List.getD sc (Int.toNat i) ([] : List (Abs.Fd))) (((qr_14_x2 ) + (1 : Nat)) + (1 : Nat)))
theorem qr_14 (sc : List Rec) (l : List Int) (es es' : List (Rec × Ob)) (i i' : Int)
 (h1 : ((decide (i < (((List.length sc) : Nat) : Int))) = true))
 (h2 : ((decide (i < (60 : Int))) = true))
 (h3 : ((0 : Int) ≤ i))
 (h4 : (i < (((List.length sc) : Nat) : Int)))
 (h5 : ((List.length (qr_14_x5 sc i)) ≤ (281474976710656 : Nat)))
 (h6 : (((recI (List.getD sc (Int.toNat i) ([] : List (Abs.Fd))) (0 : Nat)) == (2 : Int)) = false))
 (h7 : (((recI (List.getD sc (Int.toNat i) ([] : List (Abs.Fd))) (0 : Nat)) == (3 : Int)) = false))
 (h8 : (((recI (List.getD sc (Int.toNat i) ([] : List (Abs.Fd))) (0 : Nat)) == (1 : Int)) = true))
 (h9 : (((qr_14_x4 sc i) == (qr_14_x3 sc i)) = true))
 (h10 : ((decide ((0 : Int) ≤ (idxF l (qr_14_x4 sc i)))) = true))
 (h11 : ((List.length l) ≤ (1000 : Nat)))
 (h12 : ((decide ((0 : Int) ≤ (idxF l (qr_14_x3 sc i)))) = true))
 (h13 : ((decide ((recI (List.getD sc (Int.toNat i) ([] : List (Abs.Fd))) (qr_14_x2 )) ≥ (1 : Int))) = true))
 (h14 : ((decide ((recI (List.getD sc (Int.toNat i) ([] : List (Abs.Fd))) (qr_14_x2 )) ≤ (3 : Int))) = true))
 (h15 : ((decide ((((List.length (qr_14_x5 sc i)) : Nat) : Int) ≤ (4096 : Int))) = false))
 (h16 : (HbOK (1 : Int) l))
 (h17 : (EsOK (30000 : Nat) es))
 (h18 : (InB (qr_14_x5 sc i)))
 (h19 : (((((List.length ((qr_14_x1 sc l es i).2).1) : Nat) : Int) != (0 : Int)) = false))
 (h20 : (((((List.length ((qr_14_x1 sc l es i).2).2) : Nat) : Int) != (0 : Int)) = false))
 (h21 : (InI64 (i + (1 : Int))))
 (h22 : ((i + (1 : Int)) = i'))
 (h23 : ((qr_14_x1 sc l es i).1 = es')) :
 ∃ ps, stepPs Try.prog DB gQu 100 (bodyN Try.f5 1) 100 (qrSn sc l es i).st [.is true, .is true, .is false, .is false, .is true, .is true, .is true, .is true, .is true, .is true, .is false, .is false, .is false] .normal (qrSn sc l es' i') = some ps ∧ AllQ ps := ⟨_, by kernel_rfl, qc h1 (qc h2 (qc h3 (qc h4 (qc (Eq.refl ((recI (List.getD sc (Int.toNat i) ([] : List (Abs.Fd))) (0 : Nat)))) (qc (Eq.refl ((recI (List.getD sc (Int.toNat i) ([] : List (Abs.Fd))) ((0 : Nat) + (1 : Nat))))) (qc (Eq.refl ((qr_14_x4 sc i))) (qc (Eq.refl ((qr_14_x3 sc i))) (qc (Eq.refl ((recI (List.getD sc (Int.toNat i) ([] : List (Abs.Fd))) (qr_14_x2 )))) (qc (Eq.refl ((recI (List.getD sc (Int.toNat i) ([] : List (Abs.Fd))) ((qr_14_x2 ) + (1 : Nat))))) (qc (Eq.refl ((qr_14_x5 sc i))) (qc h5 (qc h6 (qc h7 (qc h8 (qc h9 (qc h10 (qc (Eq.refl l) (qc (Eq.refl ((qr_14_x4 sc i))) (qc h11 (qc h12 (qc (Eq.refl l) (qc (Eq.refl ((qr_14_x3 sc i))) (qc h11 (qc h13 (qc h14 (qc h15 (qc (Eq.refl ((recI (List.getD sc (Int.toNat i) ([] : List (Abs.Fd))) (0 : Nat)))) (qc (Eq.refl ((recI (List.getD sc (Int.toNat i) ([] : List (Abs.Fd))) ((0 : Nat) + (1 : Nat))))) (qc (Eq.refl ((qr_14_x4 sc i))) (qc (Eq.refl ((qr_14_x3 sc i))) (qc (Eq.refl ((recI (List.getD sc (Int.toNat i) ([] : List (Abs.Fd))) (qr_14_x2 )))) (qc (Eq.refl ((recI (List.getD sc (Int.toNat i) ([] : List (Abs.Fd))) ((qr_14_x2 ) + (1 : Nat))))) (qc (Eq.refl ((qr_14_x5 sc i))) (qc (Eq.refl ((1 : Int))) (qc (Eq.refl l) (qc (Eq.refl es) (qc h16 (qc h17 (qc h18 (qc h19 (qc h20 (qc h21 (qc (Eq.refl sc) (qc h22 (qc (Eq.refl ((1 : Int))) (qc (Eq.refl l) (qc h23 (qc (Eq.refl l) (qn)))))))))))))))))))))))))))))))))))))))))))))))))⟩
abbrev qr_d_x1 (sc : List Rec) (l : List Int) (es : List (Rec × Ob)) (i : Int) := ((inM (1 : Int) l es (MsT.mk (recI (List.getD sc (Int.toNat i) ([] : List (Abs.Fd))) (0 : Nat)) (recI (List.getD sc (Int.toNat i) ([] : List (Abs.Fd))) ((0 : Nat) + (1 : Nat))) (recI (List.getD sc (Int.toNat i) ([] : List (Abs.Fd))) (((0 : Nat) + (1 : Nat)) + (1 : Nat))) (recI (List.getD sc (Int.toNat i) ([] : List (Abs.Fd))) ((((0 : Nat) + (1 : Nat)) + (1 : Nat)) + (1 : Nat))) (recI (List.getD sc (Int.toNat i) ([] : List (Abs.Fd))) (((((0 : Nat) + (1 : Nat)) + (1 : Nat)) + (1 : Nat)) + (1 : Nat))) (recI (List.getD sc (Int.toNat i) ([] : List (Abs.Fd))) ((((((0 : Nat) + (1 : Nat)) + (1 : Nat)) + (1 : Nat)) + (1 : Nat)) + (1 : Nat))) (recW (List.getD sc (Int.toNat i) ([] : List (Abs.Fd))) (((((((0 : Nat) + (1 : Nat)) + (1 : Nat)) + (1 : Nat)) + (1 : Nat)) + (1 : Nat)) + (1 : Nat))))))
abbrev qr_d_x2  := (((((0 : Nat) + (1 : Nat)) + (1 : Nat)) + (1 : Nat)) + (1 : Nat))
abbrev qr_d_x3 (sc : List Rec) (i : Int) := (recW (List.getD sc (Int.toNat i) ([] : List (Abs.Fd))) (((qr_d_x2 ) + (1 : Nat)) + (1 : Nat)))
abbrev qr_d_x4 (sc : List Rec) (i : Int) := (recI (List.getD sc (Int.toNat i) ([] : List (Abs.Fd))) ((((0 : Nat) + (1 : Nat)) + (1 : Nat)) + (1 : Nat)))
theorem qr_d (sc : List Rec) (l : List Int) (es es' : List (Rec × Ob)) (i i' : Int)
 (h1 : ((decide (i < (((List.length sc) : Nat) : Int))) = true))
 (h2 : ((decide (i < (60 : Int))) = true))
 (h3 : ((0 : Int) ≤ i))
 (h4 : (i < (((List.length sc) : Nat) : Int)))
 (h5 : ((List.length (qr_d_x3 sc i)) ≤ (281474976710656 : Nat)))
 (h6 : (((recI (List.getD sc (Int.toNat i) ([] : List (Abs.Fd))) (0 : Nat)) == (2 : Int)) = false))
 (h7 : (((recI (List.getD sc (Int.toNat i) ([] : List (Abs.Fd))) (0 : Nat)) == (3 : Int)) = false))
 (h8 : (((recI (List.getD sc (Int.toNat i) ([] : List (Abs.Fd))) (0 : Nat)) == (1 : Int)) = true))
 (h9 : (((recI (List.getD sc (Int.toNat i) ([] : List (Abs.Fd))) (((0 : Nat) + (1 : Nat)) + (1 : Nat))) == (qr_d_x4 sc i)) = false))
 (h10 : (HbOK (1 : Int) l))
 (h11 : (EsOK (30000 : Nat) es))
 (h12 : (InB (qr_d_x3 sc i)))
 (h13 : (((((List.length ((qr_d_x1 sc l es i).2).1) : Nat) : Int) != (0 : Int)) = false))
 (h14 : (((((List.length ((qr_d_x1 sc l es i).2).2) : Nat) : Int) != (0 : Int)) = false))
 (h15 : (InI64 (i + (1 : Int))))
 (h16 : ((i + (1 : Int)) = i'))
 (h17 : ((qr_d_x1 sc l es i).1 = es')) :
 ∃ ps, stepPs Try.prog DB gQu 100 (bodyN Try.f5 1) 100 (qrSn sc l es i).st [.is true, .is true, .is false, .is false, .is true, .is false, .is false, .is false] .normal (qrSn sc l es' i') = some ps ∧ AllQ ps := ⟨_, by kernel_rfl, qc h1 (qc h2 (qc h3 (qc h4 (qc (Eq.refl ((recI (List.getD sc (Int.toNat i) ([] : List (Abs.Fd))) (0 : Nat)))) (qc (Eq.refl ((recI (List.getD sc (Int.toNat i) ([] : List (Abs.Fd))) ((0 : Nat) + (1 : Nat))))) (qc (Eq.refl ((recI (List.getD sc (Int.toNat i) ([] : List (Abs.Fd))) (((0 : Nat) + (1 : Nat)) + (1 : Nat))))) (qc (Eq.refl ((qr_d_x4 sc i))) (qc (Eq.refl ((recI (List.getD sc (Int.toNat i) ([] : List (Abs.Fd))) (qr_d_x2 )))) (qc (Eq.refl ((recI (List.getD sc (Int.toNat i) ([] : List (Abs.Fd))) ((qr_d_x2 ) + (1 : Nat))))) (qc (Eq.refl ((qr_d_x3 sc i))) (qc h5 (qc h6 (qc h7 (qc h8 (qc h9 (qc (Eq.refl ((recI (List.getD sc (Int.toNat i) ([] : List (Abs.Fd))) (0 : Nat)))) (qc (Eq.refl ((recI (List.getD sc (Int.toNat i) ([] : List (Abs.Fd))) ((0 : Nat) + (1 : Nat))))) (qc (Eq.refl ((recI (List.getD sc (Int.toNat i) ([] : List (Abs.Fd))) (((0 : Nat) + (1 : Nat)) + (1 : Nat))))) (qc (Eq.refl ((qr_d_x4 sc i))) (qc (Eq.refl ((recI (List.getD sc (Int.toNat i) ([] : List (Abs.Fd))) (qr_d_x2 )))) (qc (Eq.refl ((recI (List.getD sc (Int.toNat i) ([] : List (Abs.Fd))) ((qr_d_x2 ) + (1 : Nat))))) (qc (Eq.refl ((qr_d_x3 sc i))) (qc (Eq.refl ((1 : Int))) (qc (Eq.refl l) (qc (Eq.refl es) (qc h10 (qc h11 (qc h12 (qc h13 (qc h14 (qc h15 (qc (Eq.refl sc) (qc h16 (qc (Eq.refl ((1 : Int))) (qc (Eq.refl l) (qc h17 (qc (Eq.refl l) (qn))))))))))))))))))))))))))))))))))))))⟩
abbrev qr_o_x1 (sc : List Rec) (l : List Int) (es : List (Rec × Ob)) (i : Int) := ((inM (1 : Int) l es (MsT.mk (recI (List.getD sc (Int.toNat i) ([] : List (Abs.Fd))) (0 : Nat)) (recI (List.getD sc (Int.toNat i) ([] : List (Abs.Fd))) ((0 : Nat) + (1 : Nat))) (recI (List.getD sc (Int.toNat i) ([] : List (Abs.Fd))) (((0 : Nat) + (1 : Nat)) + (1 : Nat))) (recI (List.getD sc (Int.toNat i) ([] : List (Abs.Fd))) ((((0 : Nat) + (1 : Nat)) + (1 : Nat)) + (1 : Nat))) (recI (List.getD sc (Int.toNat i) ([] : List (Abs.Fd))) (((((0 : Nat) + (1 : Nat)) + (1 : Nat)) + (1 : Nat)) + (1 : Nat))) (recI (List.getD sc (Int.toNat i) ([] : List (Abs.Fd))) ((((((0 : Nat) + (1 : Nat)) + (1 : Nat)) + (1 : Nat)) + (1 : Nat)) + (1 : Nat))) (recW (List.getD sc (Int.toNat i) ([] : List (Abs.Fd))) (((((((0 : Nat) + (1 : Nat)) + (1 : Nat)) + (1 : Nat)) + (1 : Nat)) + (1 : Nat)) + (1 : Nat))))))
abbrev qr_o_x2  := (((((0 : Nat) + (1 : Nat)) + (1 : Nat)) + (1 : Nat)) + (1 : Nat))
abbrev qr_o_x3 (sc : List Rec) (i : Int) := (recW (List.getD sc (Int.toNat i) ([] : List (Abs.Fd))) (((qr_o_x2 ) + (1 : Nat)) + (1 : Nat)))
theorem qr_o (sc : List Rec) (l : List Int) (es es' : List (Rec × Ob)) (i i' : Int)
 (h1 : ((decide (i < (((List.length sc) : Nat) : Int))) = true))
 (h2 : ((decide (i < (60 : Int))) = true))
 (h3 : ((0 : Int) ≤ i))
 (h4 : (i < (((List.length sc) : Nat) : Int)))
 (h5 : ((List.length (qr_o_x3 sc i)) ≤ (281474976710656 : Nat)))
 (h6 : (((recI (List.getD sc (Int.toNat i) ([] : List (Abs.Fd))) (0 : Nat)) == (2 : Int)) = false))
 (h7 : (((recI (List.getD sc (Int.toNat i) ([] : List (Abs.Fd))) (0 : Nat)) == (3 : Int)) = false))
 (h8 : (((recI (List.getD sc (Int.toNat i) ([] : List (Abs.Fd))) (0 : Nat)) == (1 : Int)) = false))
 (h9 : (HbOK (1 : Int) l))
 (h10 : (EsOK (30000 : Nat) es))
 (h11 : (InB (qr_o_x3 sc i)))
 (h12 : (((((List.length ((qr_o_x1 sc l es i).2).1) : Nat) : Int) != (0 : Int)) = false))
 (h13 : (((((List.length ((qr_o_x1 sc l es i).2).2) : Nat) : Int) != (0 : Int)) = false))
 (h14 : (InI64 (i + (1 : Int))))
 (h15 : ((i + (1 : Int)) = i'))
 (h16 : ((qr_o_x1 sc l es i).1 = es')) :
 ∃ ps, stepPs Try.prog DB gQu 100 (bodyN Try.f5 1) 100 (qrSn sc l es i).st [.is true, .is true, .is false, .is false, .is false, .is false, .is false] .normal (qrSn sc l es' i') = some ps ∧ AllQ ps := ⟨_, by kernel_rfl, qc h1 (qc h2 (qc h3 (qc h4 (qc (Eq.refl ((recI (List.getD sc (Int.toNat i) ([] : List (Abs.Fd))) (0 : Nat)))) (qc (Eq.refl ((recI (List.getD sc (Int.toNat i) ([] : List (Abs.Fd))) ((0 : Nat) + (1 : Nat))))) (qc (Eq.refl ((recI (List.getD sc (Int.toNat i) ([] : List (Abs.Fd))) (((0 : Nat) + (1 : Nat)) + (1 : Nat))))) (qc (Eq.refl ((recI (List.getD sc (Int.toNat i) ([] : List (Abs.Fd))) ((((0 : Nat) + (1 : Nat)) + (1 : Nat)) + (1 : Nat))))) (qc (Eq.refl ((recI (List.getD sc (Int.toNat i) ([] : List (Abs.Fd))) (qr_o_x2 )))) (qc (Eq.refl ((recI (List.getD sc (Int.toNat i) ([] : List (Abs.Fd))) ((qr_o_x2 ) + (1 : Nat))))) (qc (Eq.refl ((qr_o_x3 sc i))) (qc h5 (qc h6 (qc h7 (qc h8 (qc (Eq.refl ((recI (List.getD sc (Int.toNat i) ([] : List (Abs.Fd))) (0 : Nat)))) (qc (Eq.refl ((recI (List.getD sc (Int.toNat i) ([] : List (Abs.Fd))) ((0 : Nat) + (1 : Nat))))) (qc (Eq.refl ((recI (List.getD sc (Int.toNat i) ([] : List (Abs.Fd))) (((0 : Nat) + (1 : Nat)) + (1 : Nat))))) (qc (Eq.refl ((recI (List.getD sc (Int.toNat i) ([] : List (Abs.Fd))) ((((0 : Nat) + (1 : Nat)) + (1 : Nat)) + (1 : Nat))))) (qc (Eq.refl ((recI (List.getD sc (Int.toNat i) ([] : List (Abs.Fd))) (qr_o_x2 )))) (qc (Eq.refl ((recI (List.getD sc (Int.toNat i) ([] : List (Abs.Fd))) ((qr_o_x2 ) + (1 : Nat))))) (qc (Eq.refl ((qr_o_x3 sc i))) (qc (Eq.refl ((1 : Int))) (qc (Eq.refl l) (qc (Eq.refl es) (qc h9 (qc h10 (qc h11 (qc h12 (qc h13 (qc h14 (qc (Eq.refl sc) (qc h15 (qc (Eq.refl ((1 : Int))) (qc (Eq.refl l) (qc h16 (qc (Eq.refl l) (qn)))))))))))))))))))))))))))))))))))))⟩
theorem qr_e1 (sc : List Rec) (l : List Int) (es : List (Rec × Ob)) (i : Int)
 (h1 : ((decide (i < (((List.length sc) : Nat) : Int))) = false)) :
 ∃ ps, stepPs Try.prog DB gQu 100 (bodyN Try.f5 1) 100 (qrSn sc l es i).st [.is false] (.exit 2) (qrEd l es) = some ps ∧ AllQ ps := ⟨_, by kernel_rfl, qc h1 (qc (Eq.refl ((1 : Int))) (qc (Eq.refl l) (qc (Eq.refl es) (qn))))⟩
theorem qr_e2 (sc : List Rec) (l : List Int) (es : List (Rec × Ob)) (i : Int)
 (h1 : ((decide (i < (((List.length sc) : Nat) : Int))) = true))
 (h2 : ((decide (i < (60 : Int))) = false)) :
 ∃ ps, stepPs Try.prog DB gQu 100 (bodyN Try.f5 1) 100 (qrSn sc l es i).st [.is true, .is false] (.exit 2) (qrEd l es) = some ps ∧ AllQ ps := ⟨_, by kernel_rfl, qc h1 (qc h2 (qc (Eq.refl ((1 : Int))) (qc (Eq.refl l) (qc (Eq.refl es) (qn)))))⟩
theorem qr_run (n n2 : Int) (sc : List Rec) (l : List Int) (es : List (Rec × Ob))
 (h1 : (InI64 ((2 : Int) + (Int.tmod (bitsOf Go.BinOp.and Go.IntKind.i64 n (1023 : Int)) (5 : Int)))))
 (h2 : SumOK Try.prog DB (bodyN Try.f5 0) (loopL DB (qmSn n2 sc [] 1) (.exit 0) (qmEd sc l)))
 (h3 : (((2 : Int) + (Int.tmod (bitsOf Go.BinOp.and Go.IntKind.i64 n (1023 : Int)) (5 : Int))) = n2))
 (h4 : (MbOK l))
 (h5 : (List.Mem (1 : Int) l))
 (h6 : SumOK Try.prog DB (bodyN Try.f5 1) (loopL DB (qrSn sc l [] (0 : Nat)) (.exit 2) (qrEd l es)))
 (h7 : (HbOK (1 : Int) l))
 (h8 : (EsOK (30000 : Nat) es))
 (h9 : (InB ([(5 : Int)] : List Int)))
 (h10 : ((decide ((((List.length (((sayHM (1 : Int) l es (2 : Int) ([(5 : Int)] : List Int))).2).1) : Nat) : Int) ≥ (2 : Int))) = true))
 (h11 : ((0 : Int) < (((List.length (((sayHM (1 : Int) l es (2 : Int) ([(5 : Int)] : List Int))).2).1) : Nat) : Int)))
 (h12 : ((0 : Nat) < (List.length (((sayHM (1 : Int) l es (2 : Int) ([(5 : Int)] : List Int))).2).1)))
 (h13 : (((recI (List.getD (((sayHM (1 : Int) l es (2 : Int) ([(5 : Int)] : List Int))).2).1 (0 : Nat) ([] : List (Abs.Fd))) (0 : Nat)) == (1 : Int)) = true))
 (h14 : ((1 : Int) < (((List.length (((sayHM (1 : Int) l es (2 : Int) ([(5 : Int)] : List Int))).2).1) : Nat) : Int)))
 (h15 : ((1 : Nat) < (List.length (((sayHM (1 : Int) l es (2 : Int) ([(5 : Int)] : List Int))).2).1)))
 (h16 : (((recI (List.getD (((sayHM (1 : Int) l es (2 : Int) ([(5 : Int)] : List Int))).2).1 (1 : Nat) ([] : List (Abs.Fd))) (0 : Nat)) == (2 : Int)) = true))
 (h17 : (((((List.length (((sayHM (1 : Int) l es (2 : Int) ([(5 : Int)] : List Int))).2).2) : Nat) : Int) == (0 : Int)) = true))
 (h18 : (((recI (List.getD (((sayHM (1 : Int) l es (2 : Int) ([(5 : Int)] : List Int))).2).1 (0 : Nat) ([] : List (Abs.Fd))) (((0 : Nat) + (1 : Nat)) + (1 : Nat))) == (1 : Int)) = true)) :
 ∃ ps, runF Try.prog DB gQu 100 Try.f5 [.one (.int .i64 false n), .one (.prs mSh sc)] [.loop (loopL DB (qmSn n2 sc [] 1) (.exit 0) (qmEd sc l)), .loop (loopL DB (qrSn sc l [] (0 : Nat)) (.exit 2) (qrEd l es)), .is true, .is true, .is true, .is true, .is true] = some ((AV.v (A0.one (Part.bool true true))), ps) ∧ AllQ ps := ⟨_, by kernel_rfl, qc h1 (qc h2 (qc h3 (qc (Eq.refl sc) (qc (Eq.refl ((1 : Int))) (qc (Eq.refl (([] : List (Int)))) (qc (Eq.refl ((1 : Int))) (qc (Eq.refl l) (qc h4 (qc h5 (qc h6 (qc (Eq.refl sc) (qc (show ((0 : Int) = (((0 : Nat) : Nat) : Int)) from by decide) (qc (Eq.refl ((1 : Int))) (qc (Eq.refl l) (qc (Eq.refl (([] : List (Rec × Ob)))) (qc (Eq.refl l) (qc (Eq.refl ((2 : Int))) (qc (Eq.refl (([(5 : Int)] : List Int))) (qc (Eq.refl ((1 : Int))) (qc (Eq.refl l) (qc (Eq.refl es) (qc h7 (qc h8 (qc h9 (qc (show ((((1 : Int) ≤ (2 : Int)) ∧ ((2 : Int) ≤ (3 : Int))) ∧ ((1 : Nat) ≤ (4096 : Nat))) from by decide) (qc h10 (qc (show ((0 : Int) ≤ (0 : Int)) from by decide) (qc h11 (qc h12 (qc h13 (qc (show ((0 : Int) ≤ (1 : Int)) from by decide) (qc h14 (qc h15 (qc h16 (qc h17 (qc (show ((0 : Int) ≤ (0 : Int)) from by decide) (qc h11 (qc h12 (qc h18 (qn))))))))))))))))))))))))))))))))))))))))⟩
end Go.Num
namespace Go.Num
open Go.Abs Go.Proofs Go.Shelf Go.RowKit
theorem copy16_ok : OpOK Try.prog DB 13 (withNew copy16R) := by
  refine opOK_mkR mixed Try.func13 (enters_of Try.func13 (by kernel_rfl) rfl) (fun bs xs t h => by
    split at h
    · rfl
    · cases h) ?_
  rintro m r' ns ps h hps
  simp only [Option.some.injEq, Prod.mk.injEq] at h
  obtain ⟨rfl, rfl, rfl⟩ := h
  exact ⟨_, _, _, gCy_ok, cy_run m m (hps (m.bd.length ≤ 281474976710656) (by simp)) rfl rfl rfl rfl rfl rfl rfl⟩
theorem in7_ok : OpOK Try.prog DB 14 (withNew in7R) := by
  refine opOK_mkR mixed Try.func14 (enters_of Try.func14 (by kernel_rfl) rfl) (fun bs xs t h => by
    split at h
    · rfl
    · cases h) ?_
  rintro ⟨l, x⟩ r' ns ps h hps
  simp only [Option.some.injEq, Prod.mk.injEq] at h
  obtain ⟨rfl, rfl, rfl⟩ := h
  have hl : l.length ≤ 1000 := hps (l.length ≤ 1000) (by simp)
  have hst : ∀ k : Nat, k < l.length → l.getD k 0 ≠ x → ∃ fuel nid ds ps, stepPs Try.prog DB [] fuel (bodyN Try.f14 0) nid (in7Sn l x k).st ds .normal (in7Sn l x ((k + 1 : Nat) : Int)) = some ps ∧ AllQ ps := fun k hk hn =>
    ⟨_, _, _, in7_step l x k _ (decide_eq_true (by omega)) (by omega) (by omega) (by rw [Int.toNat_natCast]; exact beq_eq_false_iff_ne.2 hn) ⟨by omega, by omega⟩ rfl⟩
  rcases idx_cases l x with ⟨n, h1, h2, h3, h4⟩ | ⟨h1, h2⟩
  · have hm : x ∈ l := by rw [← idx_mem]; omega
    exact ⟨_, _, _, gam_nil, in7_yes l x _ (sum_loop gam_nil mixed (c := bodyN Try.f14 0) (fun k => in7Sn l x k) n (e := .ret) (s := in7Hit) rfl (fun k hk => hst k (by omega) (h3 k hk))
      ⟨_, _, _, in7_hit l x n (decide_eq_true (by omega)) (by omega) (by omega) (by rw [Int.toNat_natCast]; exact beq_iff_eq.2 h2)⟩) (ix1 hm).symm⟩
  · have hm : ¬ x ∈ l := by rw [← idx_mem]; omega
    exact ⟨_, _, _, gam_nil, in7_no l x _ (sum_loop gam_nil mixed (c := bodyN Try.f14 0) (fun k => in7Sn l x k) l.length (e := .exit 0) (s := in7End) rfl (fun k hk => hst k hk (h1 k hk))
      ⟨_, _, _, in7_exit l x _ (decide_eq_false (by omega))⟩) (ix0 hm).symm⟩
theorem es_nil : EsOK 30000 [] := fun key => ⟨⟨Nat.zero_le _, fun e h => by cases h⟩, ⟨Nat.zero_le _, fun e h => by cases h⟩⟩
theorem mb_3 : MbOK [3] := ⟨by decide, fun k hk => by
  have : k = 0 := by simp at hk; exact hk
  subst this
  decide⟩
theorem mb_4 : MbOK [1, 2, 3, 4] := ⟨by decide, fun k hk => by
  have : k = 0 ∨ k = 1 ∨ k = 2 ∨ k = 3 := by simp at hk; omega
  rcases this with rfl | rfl | rfl | rfl <;> decide⟩
theorem headB_ok : FnOK Try.prog DB 6 headBD := by
  refine fnOK_of gHd_ok mixed Try.func6 (enters_of Try.func6 (by kernel_rfl) rfl) ?_
  intro xs r ps h hps
  unfold headBD at h
  split at h
  · simp only [Option.some.injEq, Prod.mk.injEq] at h
    obtain ⟨rfl, rfl⟩ := h
    obtain ⟨ps, p1, p2⟩ := hd_run mb_3 (List.mem_cons_self ..) ⟨by decide, by decide, List.mem_cons_self ..⟩ es_nil (fun a ha => by simp at ha; subst ha; decide) (by kernel_rfl) (by decide) (by decide) (by kernel_rfl) (by decide) (by decide) (by kernel_rfl) (by kernel_rfl) (by decide) (by decide) (by kernel_rfl) (by decide) mb_4 (List.mem_cons_self ..) (by decide)
    exact ⟨[], 100, _, _, _, fun w vs h => h, p1, p2, fun E v hv => hv⟩
  · cases h
theorem gQu_ok : GamOK Try.prog DB gQu := gam_cons headB_ok (gam_op newH_ok (gam_op sayH_ok (gam_op in_ok (gam_rd copy16_ok (gam_rd in7_ok gam_nil)))))
theorem tkOf_ob (key : Rec) (t : TkT) (h : t.key = key) : tkOf key t.ob = t := by
  subst h
  rfl
theorem ofT_esOf {es : List (Rec × Ob)} {m : MsT} {s : S7} (hs : s.t.key = m.key) (key : Rec) : ofT (esOf es m s) key = if key = m.key then s.t else ofT es key := by
  unfold esOf
  unfold ofT
  rw [hasE_set, obE_set]
  by_cases hk : key = m.key
  · rw [if_pos hk, if_pos (by simp [hk]), if_pos hk]
    exact tkOf_ob key s.t (hs.trans hk.symm)
  · rw [if_neg hk, if_neg hk, decide_eq_false hk, Bool.false_or]
    cases hh : hasE es m.key
    · have e : ofE es m.key = setE es m.key (tkOb false false false [] []) := by unfold ofE; rw [hh]; rfl
      rw [e, hasE_set, obE_set, if_neg hk, decide_eq_false hk, Bool.false_or]
    · have e : ofE es m.key = es := by unfold ofE; rw [hh]; rfl
      rw [e]
def blankT (key : Rec) : TkT := ⟨key, false, false, false, [], []⟩
def Blank (es : List (Rec × Ob)) : Prop := ∀ key, ofT es key = blankT key
theorem Blank.es {es : List (Rec × Ob)} (h : Blank es) : EsOK 30000 es := fun key => by
  rw [h key]
  exact ⟨⟨Nat.zero_le _, fun e h => by cases h⟩, ⟨Nat.zero_le _, fun e h => by cases h⟩⟩
theorem blank_nil : Blank [] := fun key => rfl
def minded (l : List Int) (m : MsT) : Prop := cntP l m ∧ (m.k = 1 → m.fr = m.wh)
theorem fF_pos {mb : List Int} (h : mb ≠ []) : 0 ≤ fF mb := by rw [fF_nat h]; omega
theorem half_nat {mb : List Int} (h0 : mb ≠ []) : halfF mb = (((mb.length + (mb.length - 1) / 3) / 2 : Nat) : Int) := by
  unfold halfF
  rw [fF_nat h0, show (2 : Int) = ((2 : Nat) : Int) from rfl, ← Int.natCast_add, ← Int.ofNat_tdiv]
theorem con1_still {me : Int} {mb : List Int} {m : MsT} {s : S7} (h0 : mb ≠ []) (hr : cntF s.t.rr m.bd = 0) (he : cntF s.t.ee m.bd ≤ halfF mb) : con1M me mb m s = (s, false, false) := by
  have hf := fF_pos h0
  rw [con1_no (fun h => by rcases h.2 with h1 | h1 <;> omega), con2_no (fun h => by have := h.2; omega)]
theorem in_quiet {l : List Int} {es : List (Rec × Ob)} {m : MsT} (hh : HbOK 1 l) (hb : Blank es) (hq : ¬ minded l m) : (inM 1 l es m).2.1 = [] ∧ (inM 1 l es m).2.2 = [] ∧ Blank (inM 1 l es m).1 := by
  by_cases hc : cntP l m
  · have hk : m.k = 1 := by
      rcases Decidable.em (m.k = 1) with h | h
      · exact h
      · exact (hq ⟨hc, fun h' => (h h').elim⟩).elim
    have hne : m.fr ≠ m.wh := fun h => hq ⟨hc, fun _ => h⟩
    have hs : s0Of es m [] [] = ⟨blankT m.key, [], []⟩ := by unfold s0Of; rw [hb]
    have h2 : hear2M 1 l m (s0Of es m [] []) = (⟨blankT m.key, [], []⟩, false, false) := by
      rw [hs]
      unfold hear2M
      rw [if_pos hk, if_neg (fun h => hne h.1)]
      exact con1_still hh.1 rfl (by rw [half_nat hh.1]; show (0 : Int) ≤ _; omega)
    rw [inM_yes hc, h2]
    refine ⟨rfl, rfl, fun key => ?_⟩
    rw [ofT_esOf rfl]
    by_cases hkey : key = m.key
    · rw [if_pos hkey, hkey]
    · rw [if_neg hkey]
      exact hb key
  · rw [inM_no hc]
    exact ⟨rfl, rfl, hb⟩
theorem say_first {l : List Int} {es : List (Rec × Ob)} (hh : HbOK 1 l) (hl : 2 ≤ l.length) (hb : Blank es) : (sayHM 1 l es 2 [5]).2 = ([(initM 1 2 [5]).r, (sayM 1 2 (initM 1 2 [5])).r], []) := by
  have hs : s0Of es (initM 1 2 [5]) [(initM 1 2 [5]).r] [] = ⟨blankT (initM 1 2 [5]).key, [(initM 1 2 [5]).r], []⟩ := by unfold s0Of; rw [hb]
  have hhalf := half_nat hh.1
  have h1 : say1M 1 l (initM 1 2 [5]) ⟨{ blankT (initM 1 2 [5]).key with b := true }, [(initM 1 2 [5]).r], []⟩ = (⟨⟨(initM 1 2 [5]).key, true, false, false, [([.i 1], noteOb [5])], []⟩, [(initM 1 2 [5]).r, (sayM 1 2 (initM 1 2 [5])).r], []⟩, false, false) := by
    show hear1M 1 l (sayM 1 2 (initM 1 2 [5])) ⟨{ blankT (initM 1 2 [5]).key with b := true }, [(initM 1 2 [5]).r, (sayM 1 2 (initM 1 2 [5])).r], []⟩ = _
    rw [hear1_new rfl]
    exact con1_still hh.1 rfl (by rw [hhalf]; show (1 : Int) + 0 ≤ _; omega)
  have h2 : hear2M 1 l (initM 1 2 [5]) (s0Of es (initM 1 2 [5]) [(initM 1 2 [5]).r] []) = (⟨⟨(initM 1 2 [5]).key, true, false, false, [([.i 1], noteOb [5])], []⟩, [(initM 1 2 [5]).r, (sayM 1 2 (initM 1 2 [5])).r], []⟩, true, false) := by
    rw [hs]
    unfold hear2M
    rw [if_pos (show (initM 1 2 [5]).k = 1 from rfl), if_pos (show (initM 1 2 [5]).fr = (initM 1 2 [5]).wh ∧ (S7.mk (blankT (initM 1 2 [5]).key) [(initM 1 2 [5]).r] []).t.b = false from ⟨rfl, rfl⟩)]
    rw [show (S7.mk { (S7.mk (blankT (initM 1 2 [5]).key) [(initM 1 2 [5]).r] []).t with b := true } (S7.mk (blankT (initM 1 2 [5]).key) [(initM 1 2 [5]).r] []).ms (S7.mk (blankT (initM 1 2 [5]).key) [(initM 1 2 [5]).r] []).ts) = ⟨{ blankT (initM 1 2 [5]).key with b := true }, [(initM 1 2 [5]).r], []⟩ from rfl, h1]
    simp only
    rw [con1_still hh.1 rfl (by rw [hhalf]; show (1 : Int) + 0 ≤ _; omega)]
    rfl
  unfold sayHM
  rw [h2]
def mbN (n : Nat) : List Int := (List.range n).map fun (i : Nat) => (i : Int) + 1
theorem mbN_len (n : Nat) : (mbN n).length = n := by unfold mbN; rw [List.length_map, List.length_range]
theorem mbN_snoc (n : Nat) : mbN (n + 1) = mbN n ++ [(n : Int) + 1] := by unfold mbN; rw [List.range_succ, List.map_append]; rfl
theorem mbN_get {n k : Nat} (h : k < n) : (mbN n).getD k 0 = (k : Int) + 1 := by
  unfold mbN
  rw [List.getD_eq_getElem?_getD, List.getElem?_map, List.getElem?_range h]
  rfl
theorem mbN_mem {n : Nat} {x : Int} : x ∈ mbN n ↔ 1 ≤ x ∧ x ≤ n := by
  unfold mbN
  rw [List.mem_map]
  constructor
  · rintro ⟨a, ha, rfl⟩
    have := List.mem_range.1 ha
    omega
  · rintro ⟨h1, h2⟩
    exact ⟨(x - 1).toNat, List.mem_range.2 (by omega), by omega⟩
theorem mbN_ok {n : Nat} (h : n ≤ 9) : MbOK (mbN n) := by
  refine ⟨by rw [mbN_len]; exact h, fun k hk => ?_⟩
  rw [mbN_len] at hk
  rw [mbN_get hk]
  by_cases h0 : k = 0
  · rw [if_pos h0]; omega
  · rw [if_neg h0, mbN_get (by omega)]; omega
theorem mbN_hb {n : Nat} {me : Int} (h : n ≤ 9) (h1 : 1 ≤ me ∧ me ≤ n) : HbOK me (mbN n) := ⟨fun e => by have := mbN_len n; rw [e] at this; simp at this; omega, by rw [mbN_len]; omega, mbN_mem.2 h1⟩
theorem qm_loop (n : Nat) (hn : n ≤ 9) (sc : List Rec) : SumOK Try.prog DB (bodyN Try.f5 0) (loopL DB (qmSn n sc [] 1) (.exit 0) (qmEd sc (mbN n))) := by
  have := sum_loop gQu_ok mixed (c := bodyN Try.f5 0) (fun k => qmSn n sc (mbN k) ((k : Int) + 1)) n (e := .exit 0) (s := qmEd sc (mbN n)) rfl (fun k hk => ?_) ?_
  · exact this
  · have hl := mbN_len k
    exact ⟨_, _, _, qm_step n sc (mbN k) _ ((k : Int) + 1) _ (decide_eq_true (by omega)) (by omega) (by omega) ⟨by omega, by omega⟩ (by omega) (mbN_snoc k).symm⟩
  · exact ⟨_, _, _, qm_exit n sc (mbN n) ((n : Int) + 1) (decide_eq_false (by omega))⟩
def msOf (r : Rec) : MsT := ⟨recI r 0, recI r 1, recI r 2, recI r 3, recI r 4, recI r 5, recW r 6⟩
structure MsIn (r : Rec) : Prop where
  bd : InB (recW r 6)
  bl : (recW r 6).length ≤ 140737488355328
instance (l : List Int) (m : MsT) : Decidable (minded l m) := by unfold minded; infer_instance
def qN (l : List Int) (sc : List Rec) : Nat → List (Rec × Ob)
  | 0 => []
  | k + 1 => if minded l (msOf (sc.getD k [])) then qN l sc k else (inM 1 l (qN l sc k) (msOf (sc.getD k []))).1
theorem q_step {l : List Int} {sc : List Rec} (hh : HbOK 1 l) {es : List (Rec × Ob)} (hb : Blank es) {i : Nat} (hi : i < sc.length) (h60 : i < 60) (hm : MsIn (sc.getD i [])) :
    ∃ fuel nid ds ps, stepPs Try.prog DB gQu fuel (bodyN Try.f5 1) nid (qrSn sc l es (i : Nat)).st ds .normal (qrSn sc l (if minded l (msOf (sc.getD i [])) then es else (inM 1 l es (msOf (sc.getD i []))).1) ((i + 1 : Nat) : Int)) = some ps ∧ AllQ ps := by
  obtain ⟨hbd, hbl⟩ := hm
  have d1 : decide ((i : Int) < (sc.length : Int)) = true := decide_eq_true (by omega)
  have d2 : decide ((i : Int) < 60) = true := decide_eq_true (by omega)
  have hq := in_quiet (m := msOf (sc.getD i [])) hh hb
  have hl := hh.2.1
  have hes := hb.es
  have i1 : InI64 ((i : Int) + 1) := ⟨by omega, by omega⟩
  have zero : ∀ x : List Rec, x = [] → ((x.length : Int) != 0) = false := fun x hx => by rw [hx]; rfl
  have hb5 : (recW (sc.getD (Int.toNat (i : Int)) []) 6).length ≤ 281474976710656 := Nat.le_trans hbl (by decide)
  by_cases c2 : (msOf (sc.getD i [])).k = 2
  · have k2 : (recI (sc.getD (Int.toNat (i : Int)) []) 0 == 2) = true := beq_iff_eq.2 c2
    have hk : (msOf (sc.getD i [])).k = 1 ∨ (msOf (sc.getD i [])).k = 2 ∨ (msOf (sc.getD i [])).k = 3 := Or.inr (Or.inl c2)
    have hw : (msOf (sc.getD i [])).k = 1 → (msOf (sc.getD i [])).fr = (msOf (sc.getD i [])).wh := fun h => by omega
    by_cases f1 : ¬ ((msOf (sc.getD i [])).fr ∈ l)
    · have hmi : ¬ minded l (msOf (sc.getD i [])) := fun h => f1 h.1.2.2.2.2.1
      rw [if_neg hmi]
      obtain ⟨o1, o2, _⟩ := hq hmi
      exact ⟨_, _, _, qr_20 sc l es _ i _ d1 d2 (by omega) (by omega) hb5 k2 (ix0 f1) hl hh hes hbd (zero _ o1) (zero _ o2) i1 rfl rfl⟩
    have f1 := Decidable.not_not.1 f1
    by_cases f2 : ¬ ((msOf (sc.getD i [])).wh ∈ l)
    · have hmi : ¬ minded l (msOf (sc.getD i [])) := fun h => f2 h.1.2.2.2.2.2
      rw [if_neg hmi]
      obtain ⟨o1, o2, _⟩ := hq hmi
      exact ⟨_, _, _, qr_21 sc l es _ i _ d1 d2 (by omega) (by omega) hb5 k2 (ix1 f1) hl (ix0 f2) hh hes hbd (zero _ o1) (zero _ o2) i1 rfl rfl⟩
    have f2 := Decidable.not_not.1 f2
    by_cases f3 : ¬ (1 ≤ (msOf (sc.getD i [])).tp)
    · have hmi : ¬ minded l (msOf (sc.getD i [])) := fun h => f3 h.1.2.1
      rw [if_neg hmi]
      obtain ⟨o1, o2, _⟩ := hq hmi
      exact ⟨_, _, _, qr_22 sc l es _ i _ d1 d2 (by omega) (by omega) hb5 k2 (ix1 f1) hl (ix1 f2) (decide_eq_false f3) hh hes hbd (zero _ o1) (zero _ o2) i1 rfl rfl⟩
    have f3 := Decidable.not_not.1 f3
    by_cases f4 : ¬ ((msOf (sc.getD i [])).tp ≤ 3)
    · have hmi : ¬ minded l (msOf (sc.getD i [])) := fun h => f4 h.1.2.2.1
      rw [if_neg hmi]
      obtain ⟨o1, o2, _⟩ := hq hmi
      exact ⟨_, _, _, qr_23 sc l es _ i _ d1 d2 (by omega) (by omega) hb5 k2 (ix1 f1) hl (ix1 f2) (decide_eq_true f3) (decide_eq_false f4) hh hes hbd (zero _ o1) (zero _ o2) i1 rfl rfl⟩
    have f4 := Decidable.not_not.1 f4
    by_cases f5 : ¬ ((msOf (sc.getD i [])).bd.length ≤ 4096)
    · have hmi : ¬ minded l (msOf (sc.getD i [])) := fun h => f5 h.1.2.2.2.1
      rw [if_neg hmi]
      obtain ⟨o1, o2, _⟩ := hq hmi
      exact ⟨_, _, _, qr_24 sc l es _ i _ d1 d2 (by omega) (by omega) hb5 k2 (ix1 f1) hl (ix1 f2) (decide_eq_true f3) (decide_eq_true f4) (decide_eq_false (fun h => f5 (Int.ofNat_le.1 h))) hh hes hbd (zero _ o1) (zero _ o2) i1 rfl rfl⟩
    have f5 := Decidable.not_not.1 f5
    have hmi : minded l (msOf (sc.getD i [])) := ⟨⟨hk, f3, f4, f5, f1, f2⟩, hw⟩
    rw [if_pos hmi]
    exact ⟨_, _, _, qr_2s sc l es _ i _ d1 d2 (by omega) (by omega) hb5 k2 (ix1 f1) hl (ix1 f2) (decide_eq_true f3) (decide_eq_true f4) (decide_eq_true (Int.ofNat_le.2 f5)) i1 rfl rfl⟩
  have k2 : (recI (sc.getD (Int.toNat (i : Int)) []) 0 == 2) = false := beq_eq_false_iff_ne.2 c2
  by_cases c3 : (msOf (sc.getD i [])).k = 3
  · have k3 : (recI (sc.getD (Int.toNat (i : Int)) []) 0 == 3) = true := beq_iff_eq.2 c3
    have hk : (msOf (sc.getD i [])).k = 1 ∨ (msOf (sc.getD i [])).k = 2 ∨ (msOf (sc.getD i [])).k = 3 := Or.inr (Or.inr c3)
    have hw : (msOf (sc.getD i [])).k = 1 → (msOf (sc.getD i [])).fr = (msOf (sc.getD i [])).wh := fun h => by omega
    by_cases f1 : ¬ ((msOf (sc.getD i [])).fr ∈ l)
    · have hmi : ¬ minded l (msOf (sc.getD i [])) := fun h => f1 h.1.2.2.2.2.1
      rw [if_neg hmi]
      obtain ⟨o1, o2, _⟩ := hq hmi
      exact ⟨_, _, _, qr_30 sc l es _ i _ d1 d2 (by omega) (by omega) hb5 k2 k3 (ix0 f1) hl hh hes hbd (zero _ o1) (zero _ o2) i1 rfl rfl⟩
    have f1 := Decidable.not_not.1 f1
    by_cases f2 : ¬ ((msOf (sc.getD i [])).wh ∈ l)
    · have hmi : ¬ minded l (msOf (sc.getD i [])) := fun h => f2 h.1.2.2.2.2.2
      rw [if_neg hmi]
      obtain ⟨o1, o2, _⟩ := hq hmi
      exact ⟨_, _, _, qr_31 sc l es _ i _ d1 d2 (by omega) (by omega) hb5 k2 k3 (ix1 f1) hl (ix0 f2) hh hes hbd (zero _ o1) (zero _ o2) i1 rfl rfl⟩
    have f2 := Decidable.not_not.1 f2
    by_cases f3 : ¬ (1 ≤ (msOf (sc.getD i [])).tp)
    · have hmi : ¬ minded l (msOf (sc.getD i [])) := fun h => f3 h.1.2.1
      rw [if_neg hmi]
      obtain ⟨o1, o2, _⟩ := hq hmi
      exact ⟨_, _, _, qr_32 sc l es _ i _ d1 d2 (by omega) (by omega) hb5 k2 k3 (ix1 f1) hl (ix1 f2) (decide_eq_false f3) hh hes hbd (zero _ o1) (zero _ o2) i1 rfl rfl⟩
    have f3 := Decidable.not_not.1 f3
    by_cases f4 : ¬ ((msOf (sc.getD i [])).tp ≤ 3)
    · have hmi : ¬ minded l (msOf (sc.getD i [])) := fun h => f4 h.1.2.2.1
      rw [if_neg hmi]
      obtain ⟨o1, o2, _⟩ := hq hmi
      exact ⟨_, _, _, qr_33 sc l es _ i _ d1 d2 (by omega) (by omega) hb5 k2 k3 (ix1 f1) hl (ix1 f2) (decide_eq_true f3) (decide_eq_false f4) hh hes hbd (zero _ o1) (zero _ o2) i1 rfl rfl⟩
    have f4 := Decidable.not_not.1 f4
    by_cases f5 : ¬ ((msOf (sc.getD i [])).bd.length ≤ 4096)
    · have hmi : ¬ minded l (msOf (sc.getD i [])) := fun h => f5 h.1.2.2.2.1
      rw [if_neg hmi]
      obtain ⟨o1, o2, _⟩ := hq hmi
      exact ⟨_, _, _, qr_34 sc l es _ i _ d1 d2 (by omega) (by omega) hb5 k2 k3 (ix1 f1) hl (ix1 f2) (decide_eq_true f3) (decide_eq_true f4) (decide_eq_false (fun h => f5 (Int.ofNat_le.1 h))) hh hes hbd (zero _ o1) (zero _ o2) i1 rfl rfl⟩
    have f5 := Decidable.not_not.1 f5
    have hmi : minded l (msOf (sc.getD i [])) := ⟨⟨hk, f3, f4, f5, f1, f2⟩, hw⟩
    rw [if_pos hmi]
    exact ⟨_, _, _, qr_3s sc l es _ i _ d1 d2 (by omega) (by omega) hb5 k2 k3 (ix1 f1) hl (ix1 f2) (decide_eq_true f3) (decide_eq_true f4) (decide_eq_true (Int.ofNat_le.2 f5)) i1 rfl rfl⟩
  have k3 : (recI (sc.getD (Int.toNat (i : Int)) []) 0 == 3) = false := beq_eq_false_iff_ne.2 c3
  by_cases c1 : (msOf (sc.getD i [])).k = 1
  · have k1 : (recI (sc.getD (Int.toNat (i : Int)) []) 0 == 1) = true := beq_iff_eq.2 c1
    by_cases cw : (msOf (sc.getD i [])).fr = (msOf (sc.getD i [])).wh
    · have kw : (recI (sc.getD (Int.toNat (i : Int)) []) 2 == recI (sc.getD (Int.toNat (i : Int)) []) 3) = true := beq_iff_eq.2 cw
      have hk : (msOf (sc.getD i [])).k = 1 ∨ (msOf (sc.getD i [])).k = 2 ∨ (msOf (sc.getD i [])).k = 3 := Or.inl c1
      have hw : (msOf (sc.getD i [])).k = 1 → (msOf (sc.getD i [])).fr = (msOf (sc.getD i [])).wh := fun _ => cw
      by_cases f1 : ¬ ((msOf (sc.getD i [])).fr ∈ l)
      · have hmi : ¬ minded l (msOf (sc.getD i [])) := fun h => f1 h.1.2.2.2.2.1
        rw [if_neg hmi]
        obtain ⟨o1, o2, _⟩ := hq hmi
        exact ⟨_, _, _, qr_10 sc l es _ i _ d1 d2 (by omega) (by omega) hb5 k2 k3 k1 kw (ix0 f1) hl hh hes hbd (zero _ o1) (zero _ o2) i1 rfl rfl⟩
      have f1 := Decidable.not_not.1 f1
      by_cases f2 : ¬ ((msOf (sc.getD i [])).wh ∈ l)
      · have hmi : ¬ minded l (msOf (sc.getD i [])) := fun h => f2 h.1.2.2.2.2.2
        rw [if_neg hmi]
        obtain ⟨o1, o2, _⟩ := hq hmi
        exact ⟨_, _, _, qr_11 sc l es _ i _ d1 d2 (by omega) (by omega) hb5 k2 k3 k1 kw (ix1 f1) hl (ix0 f2) hh hes hbd (zero _ o1) (zero _ o2) i1 rfl rfl⟩
      have f2 := Decidable.not_not.1 f2
      by_cases f3 : ¬ (1 ≤ (msOf (sc.getD i [])).tp)
      · have hmi : ¬ minded l (msOf (sc.getD i [])) := fun h => f3 h.1.2.1
        rw [if_neg hmi]
        obtain ⟨o1, o2, _⟩ := hq hmi
        exact ⟨_, _, _, qr_12 sc l es _ i _ d1 d2 (by omega) (by omega) hb5 k2 k3 k1 kw (ix1 f1) hl (ix1 f2) (decide_eq_false f3) hh hes hbd (zero _ o1) (zero _ o2) i1 rfl rfl⟩
      have f3 := Decidable.not_not.1 f3
      by_cases f4 : ¬ ((msOf (sc.getD i [])).tp ≤ 3)
      · have hmi : ¬ minded l (msOf (sc.getD i [])) := fun h => f4 h.1.2.2.1
        rw [if_neg hmi]
        obtain ⟨o1, o2, _⟩ := hq hmi
        exact ⟨_, _, _, qr_13 sc l es _ i _ d1 d2 (by omega) (by omega) hb5 k2 k3 k1 kw (ix1 f1) hl (ix1 f2) (decide_eq_true f3) (decide_eq_false f4) hh hes hbd (zero _ o1) (zero _ o2) i1 rfl rfl⟩
      have f4 := Decidable.not_not.1 f4
      by_cases f5 : ¬ ((msOf (sc.getD i [])).bd.length ≤ 4096)
      · have hmi : ¬ minded l (msOf (sc.getD i [])) := fun h => f5 h.1.2.2.2.1
        rw [if_neg hmi]
        obtain ⟨o1, o2, _⟩ := hq hmi
        exact ⟨_, _, _, qr_14 sc l es _ i _ d1 d2 (by omega) (by omega) hb5 k2 k3 k1 kw (ix1 f1) hl (ix1 f2) (decide_eq_true f3) (decide_eq_true f4) (decide_eq_false (fun h => f5 (Int.ofNat_le.1 h))) hh hes hbd (zero _ o1) (zero _ o2) i1 rfl rfl⟩
      have f5 := Decidable.not_not.1 f5
      have hmi : minded l (msOf (sc.getD i [])) := ⟨⟨hk, f3, f4, f5, f1, f2⟩, hw⟩
      rw [if_pos hmi]
      exact ⟨_, _, _, qr_1s sc l es _ i _ d1 d2 (by omega) (by omega) hb5 k2 k3 k1 kw (ix1 f1) hl (ix1 f2) (decide_eq_true f3) (decide_eq_true f4) (decide_eq_true (Int.ofNat_le.2 f5)) i1 rfl rfl⟩
    · have kw : (recI (sc.getD (Int.toNat (i : Int)) []) 2 == recI (sc.getD (Int.toNat (i : Int)) []) 3) = false := beq_eq_false_iff_ne.2 cw
      have hmi : ¬ minded l (msOf (sc.getD i [])) := fun h => cw (h.2 c1)
      rw [if_neg hmi]
      obtain ⟨o1, o2, _⟩ := hq hmi
      exact ⟨_, _, _, qr_d sc l es _ i _ d1 d2 (by omega) (by omega) hb5 k2 k3 k1 kw hh hes hbd (zero _ o1) (zero _ o2) i1 rfl rfl⟩
  · have k1 : (recI (sc.getD (Int.toNat (i : Int)) []) 0 == 1) = false := beq_eq_false_iff_ne.2 c1
    have hmi : ¬ minded l (msOf (sc.getD i [])) := fun h => by rcases h.1.1 with h | h | h <;> contradiction
    rw [if_neg hmi]
    obtain ⟨o1, o2, _⟩ := hq hmi
    exact ⟨_, _, _, qr_o sc l es _ i _ d1 d2 (by omega) (by omega) hb5 k2 k3 k1 hh hes hbd (zero _ o1) (zero _ o2) i1 rfl rfl⟩
theorem bits_1023 (n : Int) : 0 ≤ bitsOf .and .i64 n 1023 ∧ bitsOf .and .i64 n 1023 ≤ 1023 := by
  have h1 : (BitVec.ofInt 64 n &&& BitVec.ofInt 64 1023).toNat ≤ 1023 := by
    rw [BitVec.toNat_and]
    exact Nat.le_trans Nat.and_le_right (by decide)
  have h2 : bitsOf .and .i64 n 1023 = (((BitVec.ofInt 64 n &&& BitVec.ofInt 64 1023).toNat : Nat) : Int) := by
    show IntKind.i64.wrap (((BitVec.ofInt 64 n &&& BitVec.ofInt 64 1023).toNat : Nat) : Int) = _
    rw [IntKind.wrap_i64]
    omega
  rw [h2]
  omega
theorem law_quiet {n : Int} {sc : List Rec} (_ : InI64 n) (hsc : sc.length ≤ 4611686018427387904 ∧ ∀ r ∈ sc, MsIn r) :
    ∃ Γ, GamOK Try.prog DB Γ ∧ ∃ ds ps, runF Try.prog DB Γ 100 Try.f5 [.one (.int .i64 false n), .one (.prs mSh sc)] ds = some (.v (.one (.bool true true)), ps) ∧ AllQ ps := by
  obtain ⟨b1, b2⟩ := bits_1023 n
  obtain ⟨k, hk⟩ : ∃ k : Nat, (k : Int) = 2 + (bitsOf .and .i64 n 1023).tmod 5 := ⟨(2 + (bitsOf .and .i64 n 1023).tmod 5).toNat, by have := Int.tmod_nonneg 5 b1; omega⟩
  have hk2 : 2 ≤ k ∧ k ≤ 6 := by
    have h1 := Int.tmod_nonneg 5 b1
    have h2 := Int.tmod_lt_of_pos (bitsOf .and .i64 n 1023) (show (0 : Int) < 5 by decide)
    omega
  have hh : HbOK 1 (mbN k) := mbN_hb (by omega) ⟨by decide, by omega⟩
  have hat : ∀ i, i < sc.length → MsIn (sc.getD i []) := fun i hi => by
    rw [List.getD_eq_getElem?_getD, List.getElem?_eq_getElem hi]
    exact hsc.2 _ (List.getElem_mem hi)
  have hN : min sc.length 60 ≤ sc.length := Nat.min_le_left ..
  have hI : ∀ i, i ≤ min sc.length 60 → Blank (qN (mbN k) sc i) := by
    intro i
    induction i with
    | zero => exact fun _ => blank_nil
    | succ i ih =>
      intro hi
      have h1 := ih (by omega)
      unfold qN
      split
      · exact h1
      · rename_i hmi
        exact (in_quiet hh h1 hmi).2.2
  have hloop : SumOK Try.prog DB (bodyN Try.f5 1) (loopL DB (qrSn sc (mbN k) [] (0 : Nat)) (.exit 2) (qrEd (mbN k) (qN (mbN k) sc (min sc.length 60)))) := by
    refine sum_loop gQu_ok mixed (c := bodyN Try.f5 1) (fun i => qrSn sc (mbN k) (qN (mbN k) sc i) (i : Nat)) (min sc.length 60) (e := .exit 2) (s := qrEd (mbN k) (qN (mbN k) sc (min sc.length 60))) rfl (fun i hi => ?_) ?_
    · exact q_step hh (hI i (by omega)) (by omega) (by omega) (hat i (by omega))
    · by_cases c : 60 < sc.length
      · exact ⟨_, _, _, qr_e2 sc _ _ _ (decide_eq_true (by omega)) (decide_eq_false (by omega))⟩
      · exact ⟨_, _, _, qr_e1 sc _ _ _ (decide_eq_false (by omega))⟩
  have hbl := hI _ (Nat.le_refl _)
  have hsay := say_first hh (by rw [mbN_len]; omega) hbl
  have e1 := congrArg Prod.fst hsay
  have e2 := congrArg Prod.snd hsay
  simp only at e1 e2
  obtain ⟨ps, p1, p2⟩ := qr_run n k sc (mbN k) (qN (mbN k) sc (min sc.length 60)) ⟨by omega, by omega⟩ (qm_loop k (by omega) sc) hk.symm (mbN_ok (by omega)) hh.2.2 hloop hh hbl.es (fun a ha => by simp at ha; subst ha; decide)
    (by rw [e1]; rfl) (by rw [e1]; decide) (by rw [e1]; decide) (by rw [e1]; rfl) (by rw [e1]; decide) (by rw [e1]; decide) (by rw [e1]; rfl) (by rw [e2]; rfl) (by rw [e1]; rfl)
  exact ⟨_, gQu_ok, _, ps, p1, p2⟩
end Go.Num
