/- Several texts put together: B6 B7. -/
import Derived.Test.YtgfinnhfpiadiaaMrg8
namespace Go.Num
open Go.Abs Go.Proofs Go.Shelf Go.RowKit
def seRd (bs : List (BoxSt DB.τ)) : List (A0 DB.τ) → Option ((Int × List Int × List (Rec × Ob)) × S7 × MsT)
  | [h, .one (.int .i64 _ _), x, a] => heRd bs [h, x, a]
  | _ => none
def sePre (kd : Int) (t : (Int × List Int × List (Rec × Ob)) × S7 × MsT) : List (BoxSt DB.τ) × List (A0 DB.τ) := (heX t.1.1 t.1.2.1 t.1.2.2 t.2.1.t t.2.1.ms t.2.1.ts, [.one (.ref 0 0), .one (.int .i64 false kd), t.2.2.a, .one (.ref 1 0)])
noncomputable def say0Q (q : Bool) := mkF DB Try.f28.ntmps seRd (sePre 3) (fun t => some (.tup [], heOut true q t.1 (say0M t.1.1 t.1.2.1 t.2.2 t.2.1).1, [Base7 80000 t.1.2.1 t.2.2 t.2.1, t.2.1.t.r = true ∧ t.2.1.t.key = t.2.2.key, cntP t.1.2.1 t.2.2 ∧ t.1.1 ∈ t.1.2.1, (say0M t.1.1 t.1.2.1 t.2.2 t.2.1).2 = q]))
theorem Base7.say {n : Nat} {mb : List Int} {m : MsT} {s : S7} (h : Base7 n mb m s) (me k : Int) : Base7 (n + 1) mb (sayM me k m) ⟨s.t, s.ms ++ [(sayM me k m).r], s.ts⟩ :=
  ⟨h.mb0, h.mb1, ⟨Nat.le_succ_of_le h.ee.1, h.ee.2⟩, ⟨Nat.le_succ_of_le h.rr.1, h.rr.2⟩, h.bd, h.bl, by show (s.ms ++ [_]).length ≤ n + 1; rw [List.length_append]; exact Nat.succ_le_succ h.ms, Nat.le_succ_of_le h.ts⟩
theorem cnt_say {mb : List Int} {m : MsT} {me k : Int} (h : cntP mb m) (hm : me ∈ mb) (hk : k = 2 ∨ k = 3) : cntP mb (sayM me k m) := ⟨Or.inr hk, h.2.1, h.2.2.1, h.2.2.2.1, hm, h.2.2.2.2.2⟩
theorem say0_ok (q : Bool) : OpOK Try.prog DB 28 (say0Q q) := by
  refine opOK_mkG mixed Try.func28 (enters_of Try.func28 (by kernel_rfl) rfl) ?_
  rintro ⟨⟨me, mb, es⟩, ⟨t, ms, ts⟩, ⟨k, ep, fr, wh, tp, rd, bd⟩⟩ r' bs' ps h hps
  simp only [Option.some.injEq, Prod.mk.injEq] at h
  obtain ⟨rfl, rfl, rfl⟩ := h
  have hb : Base7 80000 mb ⟨k, ep, fr, wh, tp, rd, bd⟩ ⟨t, ms, ts⟩ := hps (Base7 80000 mb ⟨k, ep, fr, wh, tp, rd, bd⟩ ⟨t, ms, ts⟩) (by simp)
  have hk : t.r = true ∧ t.key = [.i tp, .i wh] := hps (t.r = true ∧ t.key = [.i tp, .i wh]) (by simp [MsT.key])
  obtain ⟨hc, hme⟩ : cntP mb ⟨k, ep, fr, wh, tp, rd, bd⟩ ∧ me ∈ mb := hps (cntP mb ⟨k, ep, fr, wh, tp, rd, bd⟩ ∧ me ∈ mb) (by simp)
  have hq : (say0M me mb ⟨k, ep, fr, wh, tp, rd, bd⟩ ⟨t, ms, ts⟩).2 = q := hps ((say0M me mb ⟨k, ep, fr, wh, tp, rd, bd⟩ ⟨t, ms, ts⟩).2 = q) (by simp)
  have hbl := hb.bl
  have hms := hb.ms
  simp only at hbl hms
  have hb1 := (hb.say me 3).mono (show 80000 + 1 ≤ 90000 by decide)
  have hc1 := cnt_say hc hme (Or.inr rfl : (3 : Int) = 2 ∨ (3 : Int) = 3)
  show ∃ Γ fuel ds, GamOK Try.prog DB Γ ∧ ∃ qs, runO Try.prog DB Γ fuel Try.f28 (heX me mb es t ms ts, [.one (.ref 0 0), .one (.int .i64 false 3), (MsT.mk k ep fr wh tp rd bd).a, .one (.ref 1 0)]) ds (.tup []) (heOut true q (me, mb, es) (say0M me mb ⟨k, ep, fr, wh, tp, rd, bd⟩ ⟨t, ms, ts⟩).1) = some qs ∧ AllQ qs
  cases q
  · exact ⟨_, _, _, gS0_ok false, s0_F me mb es t _ k ep fr wh tp rd bd ms ts _ _ (by omega) (by omega) (by omega) hb1 hk ⟨hc1, rfl⟩ hq rfl rfl rfl rfl rfl rfl rfl rfl⟩
  · exact ⟨_, _, _, gS0_ok true, s0_T me mb es t _ k ep fr wh tp rd bd ms ts _ _ (by omega) (by omega) (by omega) hb1 hk ⟨hc1, rfl⟩ hq rfl rfl rfl rfl rfl rfl rfl rfl⟩
noncomputable def gC1 (q : Bool) : Gam DB := [(17, .op [true] mostQ), (31, .rd [true, false] countR), (24, .fz clB7), (28, .op [true, false, false, true] (say0Q q))]
theorem gC1_ok (q : Bool) : GamOK Try.prog DB (gC1 q) := gam_op most_ok (gam_rd count_ok (gam_fz clB7_ok (gam_op (say0_ok q) gam_nil)))
abbrev c1_eT_x1 (me : Int) (mb : List Int) (t : TkT) (k ep fr wh tp rd : Int) (bd : List Int) (ms ts : List Rec) := ((say0M me mb (MsT.mk k ep fr wh tp rd bd) (S7.mk (TkT.mk (t).1 (t).2 true (t).4 (t).5 (t).6) ms ts)))
theorem c1_eT (me : Int) (mb : List Int) (es : List (Rec × Ob)) (t t' : TkT) (k ep fr wh tp rd : Int) (bd : List Int) (ms ts ms' ts' : List Rec)
 (h1 : ((mb ≠ ([] : List (Int))) ∧ ((List.length mb) ≤ (1000 : Nat))))
 (h2 : (InI64 ((((List.length mb) : Nat) : Int) + (fF mb))))
 (h3 : ((t).3 = false))
 (h4 : (NotesOK (t).5))
 (h5 : (InB bd))
 (h6 : ((decide ((cntF (t).5 bd) > (Go.IntKind.wrap Go.IntKind.i64 (Int.tdiv ((((List.length mb) : Nat) : Int) + (fF mb)) (2 : Int))))) = true))
 (h7 : (Base7 (80000 : Nat) mb (MsT.mk k ep fr wh tp rd bd) (S7.mk (TkT.mk (t).1 (t).2 true (t).4 (t).5 (t).6) ms ts)))
 (h8 : ((true = true) ∧ ((t).1 = [(Fd.i tp), (Fd.i wh)])))
 (h9 : ((cntP mb (MsT.mk k ep fr wh tp rd bd)) ∧ (List.Mem me mb)))
 (h10 : ((c1_eT_x1 me mb t k ep fr wh tp rd bd ms ts).2 = true))
 (h11 : ((((c1_eT_x1 me mb t k ep fr wh tp rd bd ms ts).1).1).4 = true))
 (h12 : ((((c1_eT_x1 me mb t k ep fr wh tp rd bd ms ts).1).1).2 = (t').2))
 (h13 : ((((c1_eT_x1 me mb t k ep fr wh tp rd bd ms ts).1).1).3 = (t').3))
 (h14 : ((((c1_eT_x1 me mb t k ep fr wh tp rd bd ms ts).1).1).4 = (t').4))
 (h15 : ((((c1_eT_x1 me mb t k ep fr wh tp rd bd ms ts).1).1).1 = (t').1))
 (h16 : ((((c1_eT_x1 me mb t k ep fr wh tp rd bd ms ts).1).1).5 = (t').5))
 (h17 : ((((c1_eT_x1 me mb t k ep fr wh tp rd bd ms ts).1).1).6 = (t').6))
 (h18 : (((c1_eT_x1 me mb t k ep fr wh tp rd bd ms ts).1).2 = ms'))
 (h19 : (((c1_eT_x1 me mb t k ep fr wh tp rd bd ms ts).1).3 = ts')) :
 ∃ ps, runO Try.prog DB (gC1 true) 100 Try.f30 (cnX me mb es t ms ts, [.one (.ref 0 0), .one (.ref 1 0), (MsT.mk k ep fr wh tp rd bd).a, .one (.ref 2 0)]) [.is false, .is true, .is true] (.tup []) (cnR true true me mb es t' ms' ts') = some ps ∧ AllQ ps := ⟨_, by kernel_rfl, qc (er me) (qc (er mb) (qc (er ((t).1)) (qc (er es) (qc (er ((t).2)) (qc (er ((t).3)) (qc (er ((t).4)) (qc (er ((t).5)) (qc (er ((t).6)) (qc h1 (qc h2 (qc (show ((2 : Int) ≠ (0 : Int)) from by decide) (qc h3 (qc h4 (qc h5 (qc h6 (qc (er ((3 : Int))) (qc (er k) (qc (er ep) (qc (er fr) (qc (er wh) (qc (er tp) (qc (er rd) (qc (er bd) (qc (er me) (qc (er mb) (qc (er ((t).1)) (qc (er es) (qc (er ms) (qc (er ts) (qc (er ((t).2)) (qc (er true) (qc (er ((t).4)) (qc (er ((t).5)) (qc (er ((t).6)) (qc h7 (qc h8 (qc h9 (qc h10 (qc h11 (qc (er me) (qc (er mb) (qc h12 (qc h13 (qc h14 (qc h15 (qc (er es) (qc h16 (qc h17 (qc h18 (qc h19 (qn)))))))))))))))))))))))))))))))))))))))))))))))))))⟩
abbrev c1_eFt_x1 (me : Int) (mb : List Int) (t : TkT) (k ep fr wh tp rd : Int) (bd : List Int) (ms ts : List Rec) := ((say0M me mb (MsT.mk k ep fr wh tp rd bd) (S7.mk (TkT.mk (t).1 (t).2 true (t).4 (t).5 (t).6) ms ts)))
theorem c1_eFt (me : Int) (mb : List Int) (es : List (Rec × Ob)) (t t' : TkT) (k ep fr wh tp rd : Int) (bd : List Int) (ms ts ms' ts' : List Rec)
 (h1 : ((mb ≠ ([] : List (Int))) ∧ ((List.length mb) ≤ (1000 : Nat))))
 (h2 : (InI64 ((((List.length mb) : Nat) : Int) + (fF mb))))
 (h3 : ((t).3 = false))
 (h4 : (NotesOK (t).5))
 (h5 : (InB bd))
 (h6 : ((decide ((cntF (t).5 bd) > (Go.IntKind.wrap Go.IntKind.i64 (Int.tdiv ((((List.length mb) : Nat) : Int) + (fF mb)) (2 : Int))))) = true))
 (h7 : (Base7 (80000 : Nat) mb (MsT.mk k ep fr wh tp rd bd) (S7.mk (TkT.mk (t).1 (t).2 true (t).4 (t).5 (t).6) ms ts)))
 (h8 : ((true = true) ∧ ((t).1 = [(Fd.i tp), (Fd.i wh)])))
 (h9 : ((cntP mb (MsT.mk k ep fr wh tp rd bd)) ∧ (List.Mem me mb)))
 (h10 : ((c1_eFt_x1 me mb t k ep fr wh tp rd bd ms ts).2 = false))
 (h11 : ((((c1_eFt_x1 me mb t k ep fr wh tp rd bd ms ts).1).1).4 = true))
 (h12 : ((((c1_eFt_x1 me mb t k ep fr wh tp rd bd ms ts).1).1).2 = (t').2))
 (h13 : ((((c1_eFt_x1 me mb t k ep fr wh tp rd bd ms ts).1).1).3 = (t').3))
 (h14 : ((((c1_eFt_x1 me mb t k ep fr wh tp rd bd ms ts).1).1).4 = (t').4))
 (h15 : ((((c1_eFt_x1 me mb t k ep fr wh tp rd bd ms ts).1).1).1 = (t').1))
 (h16 : ((((c1_eFt_x1 me mb t k ep fr wh tp rd bd ms ts).1).1).5 = (t').5))
 (h17 : ((((c1_eFt_x1 me mb t k ep fr wh tp rd bd ms ts).1).1).6 = (t').6))
 (h18 : (((c1_eFt_x1 me mb t k ep fr wh tp rd bd ms ts).1).3 = ts'))
 (h19 : (((c1_eFt_x1 me mb t k ep fr wh tp rd bd ms ts).1).2 = ms')) :
 ∃ ps, runO Try.prog DB (gC1 false) 100 Try.f30 (cnX me mb es t ms ts, [.one (.ref 0 0), .one (.ref 1 0), (MsT.mk k ep fr wh tp rd bd).a, .one (.ref 2 0)]) [.is false, .is true, .is true] (.tup []) (cnR true false me mb es t' ms' ts') = some ps ∧ AllQ ps := ⟨_, by kernel_rfl, qc (er me) (qc (er mb) (qc (er ((t).1)) (qc (er es) (qc (er ((t).2)) (qc (er ((t).3)) (qc (er ((t).4)) (qc (er ((t).5)) (qc (er ((t).6)) (qc h1 (qc h2 (qc (show ((2 : Int) ≠ (0 : Int)) from by decide) (qc h3 (qc h4 (qc h5 (qc h6 (qc (er ((3 : Int))) (qc (er k) (qc (er ep) (qc (er fr) (qc (er wh) (qc (er tp) (qc (er rd) (qc (er bd) (qc (er me) (qc (er mb) (qc (er ((t).1)) (qc (er es) (qc (er ms) (qc (er ts) (qc (er ((t).2)) (qc (er true) (qc (er ((t).4)) (qc (er ((t).5)) (qc (er ((t).6)) (qc h7 (qc h8 (qc h9 (qc h10 (qc h11 (qc (er me) (qc (er mb) (qc h12 (qc h13 (qc h14 (qc h15 (qc (er es) (qc h16 (qc h17 (qc h18 (qc h19 (qn)))))))))))))))))))))))))))))))))))))))))))))))))))⟩
abbrev c1_eFn_x1 (me : Int) (mb : List Int) (t : TkT) (k ep fr wh tp rd : Int) (bd : List Int) (ms ts : List Rec) := ((say0M me mb (MsT.mk k ep fr wh tp rd bd) (S7.mk (TkT.mk (t).1 (t).2 true (t).4 (t).5 (t).6) ms ts)))
theorem c1_eFn (me : Int) (mb : List Int) (es : List (Rec × Ob)) (t t' : TkT) (k ep fr wh tp rd : Int) (bd : List Int) (ms ts ms' ts' : List Rec)
 (h1 : ((mb ≠ ([] : List (Int))) ∧ ((List.length mb) ≤ (1000 : Nat))))
 (h2 : (InI64 ((((List.length mb) : Nat) : Int) + (fF mb))))
 (h3 : ((t).3 = false))
 (h4 : (NotesOK (t).5))
 (h5 : (InB bd))
 (h6 : ((decide ((cntF (t).5 bd) > (Go.IntKind.wrap Go.IntKind.i64 (Int.tdiv ((((List.length mb) : Nat) : Int) + (fF mb)) (2 : Int))))) = true))
 (h7 : (Base7 (80000 : Nat) mb (MsT.mk k ep fr wh tp rd bd) (S7.mk (TkT.mk (t).1 (t).2 true (t).4 (t).5 (t).6) ms ts)))
 (h8 : ((true = true) ∧ ((t).1 = [(Fd.i tp), (Fd.i wh)])))
 (h9 : ((cntP mb (MsT.mk k ep fr wh tp rd bd)) ∧ (List.Mem me mb)))
 (h10 : ((c1_eFn_x1 me mb t k ep fr wh tp rd bd ms ts).2 = false))
 (h11 : ((((c1_eFn_x1 me mb t k ep fr wh tp rd bd ms ts).1).1).4 = false))
 (h12 : (NotesOK (((c1_eFn_x1 me mb t k ep fr wh tp rd bd ms ts).1).1).6))
 (h13 : (InI64 ((2 : Int) * (fF mb))))
 (h14 : ((decide ((cntF (((c1_eFn_x1 me mb t k ep fr wh tp rd bd ms ts).1).1).6 bd) > ((2 : Int) * (fF mb)))) = false))
 (h15 : ((((c1_eFn_x1 me mb t k ep fr wh tp rd bd ms ts).1).1).2 = (t').2))
 (h16 : ((((c1_eFn_x1 me mb t k ep fr wh tp rd bd ms ts).1).1).3 = (t').3))
 (h17 : ((((c1_eFn_x1 me mb t k ep fr wh tp rd bd ms ts).1).1).4 = (t').4))
 (h18 : ((((c1_eFn_x1 me mb t k ep fr wh tp rd bd ms ts).1).1).1 = (t').1))
 (h19 : ((((c1_eFn_x1 me mb t k ep fr wh tp rd bd ms ts).1).1).5 = (t').5))
 (h20 : ((((c1_eFn_x1 me mb t k ep fr wh tp rd bd ms ts).1).1).6 = (t').6))
 (h21 : (((c1_eFn_x1 me mb t k ep fr wh tp rd bd ms ts).1).3 = ts'))
 (h22 : (((c1_eFn_x1 me mb t k ep fr wh tp rd bd ms ts).1).2 = ms')) :
 ∃ ps, runO Try.prog DB (gC1 false) 100 Try.f30 (cnX me mb es t ms ts, [.one (.ref 0 0), .one (.ref 1 0), (MsT.mk k ep fr wh tp rd bd).a, .one (.ref 2 0)]) [.is false, .is true, .is false, .is false] (.tup []) (cnR true false me mb es t' ms' ts') = some ps ∧ AllQ ps := ⟨_, by kernel_rfl, qc (er me) (qc (er mb) (qc (er ((t).1)) (qc (er es) (qc (er ((t).2)) (qc (er ((t).3)) (qc (er ((t).4)) (qc (er ((t).5)) (qc (er ((t).6)) (qc h1 (qc h2 (qc (show ((2 : Int) ≠ (0 : Int)) from by decide) (qc h3 (qc h4 (qc h5 (qc h6 (qc (er ((3 : Int))) (qc (er k) (qc (er ep) (qc (er fr) (qc (er wh) (qc (er tp) (qc (er rd) (qc (er bd) (qc (er me) (qc (er mb) (qc (er ((t).1)) (qc (er es) (qc (er ms) (qc (er ts) (qc (er ((t).2)) (qc (er true) (qc (er ((t).4)) (qc (er ((t).5)) (qc (er ((t).6)) (qc h7 (qc h8 (qc h9 (qc h10 (qc h11 (qc h12 (qc h5 (qc h13 (qc h14 (qc (er me) (qc (er mb) (qc h15 (qc h16 (qc h17 (qc h18 (qc (er es) (qc h19 (qc h20 (qc h21 (qc h22 (qn)))))))))))))))))))))))))))))))))))))))))))))))))))))))⟩
abbrev c1_eFy_x1 (me : Int) (mb : List Int) (t : TkT) (k ep fr wh tp rd : Int) (bd : List Int) (ms ts : List Rec) := ((say0M me mb (MsT.mk k ep fr wh tp rd bd) (S7.mk (TkT.mk (t).1 (t).2 true (t).4 (t).5 (t).6) ms ts)))
theorem c1_eFy (me : Int) (mb : List Int) (es : List (Rec × Ob)) (t t' : TkT) (k ep fr wh tp rd : Int) (bd : List Int) (ms ts ms' ts' : List Rec)
 (h1 : ((mb ≠ ([] : List (Int))) ∧ ((List.length mb) ≤ (1000 : Nat))))
 (h2 : (InI64 ((((List.length mb) : Nat) : Int) + (fF mb))))
 (h3 : ((t).3 = false))
 (h4 : (NotesOK (t).5))
 (h5 : (InB bd))
 (h6 : ((decide ((cntF (t).5 bd) > (Go.IntKind.wrap Go.IntKind.i64 (Int.tdiv ((((List.length mb) : Nat) : Int) + (fF mb)) (2 : Int))))) = true))
 (h7 : (Base7 (80000 : Nat) mb (MsT.mk k ep fr wh tp rd bd) (S7.mk (TkT.mk (t).1 (t).2 true (t).4 (t).5 (t).6) ms ts)))
 (h8 : ((true = true) ∧ ((t).1 = [(Fd.i tp), (Fd.i wh)])))
 (h9 : ((cntP mb (MsT.mk k ep fr wh tp rd bd)) ∧ (List.Mem me mb)))
 (h10 : ((c1_eFy_x1 me mb t k ep fr wh tp rd bd ms ts).2 = false))
 (h11 : ((((c1_eFy_x1 me mb t k ep fr wh tp rd bd ms ts).1).1).4 = false))
 (h12 : (NotesOK (((c1_eFy_x1 me mb t k ep fr wh tp rd bd ms ts).1).1).6))
 (h13 : (InI64 ((2 : Int) * (fF mb))))
 (h14 : ((decide ((cntF (((c1_eFy_x1 me mb t k ep fr wh tp rd bd ms ts).1).1).6 bd) > ((2 : Int) * (fF mb)))) = true))
 (h15 : ((List.length bd) ≤ (140737488355328 : Nat)))
 (h16 : ((((List.length ((c1_eFy_x1 me mb t k ep fr wh tp rd bd ms ts).1).3) + (1 : Nat)) * (40 : Nat)) ≤ (140737488355328 : Nat)))
 (h17 : (((List.length ((c1_eFy_x1 me mb t k ep fr wh tp rd bd ms ts).1).3) + (1 : Nat)) ≤ (9223372036854775807 : Nat)))
 (h18 : ((((c1_eFy_x1 me mb t k ep fr wh tp rd bd ms ts).1).1).2 = (t').2))
 (h19 : ((((c1_eFy_x1 me mb t k ep fr wh tp rd bd ms ts).1).1).3 = (t').3))
 (h20 : (true = (t').4))
 (h21 : ((((c1_eFy_x1 me mb t k ep fr wh tp rd bd ms ts).1).1).1 = (t').1))
 (h22 : ((((c1_eFy_x1 me mb t k ep fr wh tp rd bd ms ts).1).1).5 = (t').5))
 (h23 : ((((c1_eFy_x1 me mb t k ep fr wh tp rd bd ms ts).1).1).6 = (t').6))
 (h24 : (((c1_eFy_x1 me mb t k ep fr wh tp rd bd ms ts).1).2 = ms'))
 (h25 : ((((c1_eFy_x1 me mb t k ep fr wh tp rd bd ms ts).1).3 ++ [[(Fd.i tp), (Fd.i wh), (Fd.w bd)]]) = ts')) :
 ∃ ps, runO Try.prog DB (gC1 false) 100 Try.f30 (cnX me mb es t ms ts, [.one (.ref 0 0), .one (.ref 1 0), (MsT.mk k ep fr wh tp rd bd).a, .one (.ref 2 0)]) [.is false, .is true, .is false, .is true] (.tup []) (cnR true true me mb es t' ms' ts') = some ps ∧ AllQ ps := ⟨_, by kernel_rfl, qc (er me) (qc (er mb) (qc (er ((t).1)) (qc (er es) (qc (er ((t).2)) (qc (er ((t).3)) (qc (er ((t).4)) (qc (er ((t).5)) (qc (er ((t).6)) (qc h1 (qc h2 (qc (show ((2 : Int) ≠ (0 : Int)) from by decide) (qc h3 (qc h4 (qc h5 (qc h6 (qc (er ((3 : Int))) (qc (er k) (qc (er ep) (qc (er fr) (qc (er wh) (qc (er tp) (qc (er rd) (qc (er bd) (qc (er me) (qc (er mb) (qc (er ((t).1)) (qc (er es) (qc (er ms) (qc (er ts) (qc (er ((t).2)) (qc (er true) (qc (er ((t).4)) (qc (er ((t).5)) (qc (er ((t).6)) (qc h7 (qc h8 (qc h9 (qc h10 (qc h11 (qc h12 (qc h5 (qc h13 (qc h14 (qc h15 (qc h16 (qc h17 (qc (er me) (qc (er mb) (qc h18 (qc h19 (qc h20 (qc h21 (qc (er es) (qc h22 (qc h23 (qc h24 (qc h25 (qn))))))))))))))))))))))))))))))))))))))))))))))))))))))))))⟩
abbrev c1_rT_x1 (me : Int) (mb : List Int) (t : TkT) (k ep fr wh tp rd : Int) (bd : List Int) (ms ts : List Rec) := ((say0M me mb (MsT.mk k ep fr wh tp rd bd) (S7.mk (TkT.mk (t).1 (t).2 true (t).4 (t).5 (t).6) ms ts)))
theorem c1_rT (me : Int) (mb : List Int) (es : List (Rec × Ob)) (t t' : TkT) (k ep fr wh tp rd : Int) (bd : List Int) (ms ts ms' ts' : List Rec)
 (h1 : ((mb ≠ ([] : List (Int))) ∧ ((List.length mb) ≤ (1000 : Nat))))
 (h2 : (InI64 ((((List.length mb) : Nat) : Int) + (fF mb))))
 (h3 : ((t).3 = false))
 (h4 : (NotesOK (t).5))
 (h5 : (InB bd))
 (h6 : ((decide ((cntF (t).5 bd) > (Go.IntKind.wrap Go.IntKind.i64 (Int.tdiv ((((List.length mb) : Nat) : Int) + (fF mb)) (2 : Int))))) = false))
 (h7 : (NotesOK (t).6))
 (h8 : ((decide ((cntF (t).6 bd) > (fF mb))) = true))
 (h9 : (Base7 (80000 : Nat) mb (MsT.mk k ep fr wh tp rd bd) (S7.mk (TkT.mk (t).1 (t).2 true (t).4 (t).5 (t).6) ms ts)))
 (h10 : ((true = true) ∧ ((t).1 = [(Fd.i tp), (Fd.i wh)])))
 (h11 : ((cntP mb (MsT.mk k ep fr wh tp rd bd)) ∧ (List.Mem me mb)))
 (h12 : ((c1_rT_x1 me mb t k ep fr wh tp rd bd ms ts).2 = true))
 (h13 : ((((c1_rT_x1 me mb t k ep fr wh tp rd bd ms ts).1).1).4 = true))
 (h14 : ((((c1_rT_x1 me mb t k ep fr wh tp rd bd ms ts).1).1).2 = (t').2))
 (h15 : ((((c1_rT_x1 me mb t k ep fr wh tp rd bd ms ts).1).1).3 = (t').3))
 (h16 : ((((c1_rT_x1 me mb t k ep fr wh tp rd bd ms ts).1).1).4 = (t').4))
 (h17 : ((((c1_rT_x1 me mb t k ep fr wh tp rd bd ms ts).1).1).1 = (t').1))
 (h18 : ((((c1_rT_x1 me mb t k ep fr wh tp rd bd ms ts).1).1).5 = (t').5))
 (h19 : ((((c1_rT_x1 me mb t k ep fr wh tp rd bd ms ts).1).1).6 = (t').6))
 (h20 : (((c1_rT_x1 me mb t k ep fr wh tp rd bd ms ts).1).2 = ms'))
 (h21 : (((c1_rT_x1 me mb t k ep fr wh tp rd bd ms ts).1).3 = ts')) :
 ∃ ps, runO Try.prog DB (gC1 true) 100 Try.f30 (cnX me mb es t ms ts, [.one (.ref 0 0), .one (.ref 1 0), (MsT.mk k ep fr wh tp rd bd).a, .one (.ref 2 0)]) [.is false, .is false, .is true, .is true] (.tup []) (cnR true true me mb es t' ms' ts') = some ps ∧ AllQ ps := ⟨_, by kernel_rfl, qc (er me) (qc (er mb) (qc (er ((t).1)) (qc (er es) (qc (er ((t).2)) (qc (er ((t).3)) (qc (er ((t).4)) (qc (er ((t).5)) (qc (er ((t).6)) (qc h1 (qc h2 (qc (show ((2 : Int) ≠ (0 : Int)) from by decide) (qc h3 (qc h4 (qc h5 (qc h6 (qc h7 (qc h5 (qc h8 (qc (er ((3 : Int))) (qc (er k) (qc (er ep) (qc (er fr) (qc (er wh) (qc (er tp) (qc (er rd) (qc (er bd) (qc (er me) (qc (er mb) (qc (er ((t).1)) (qc (er es) (qc (er ms) (qc (er ts) (qc (er ((t).2)) (qc (er true) (qc (er ((t).4)) (qc (er ((t).5)) (qc (er ((t).6)) (qc h9 (qc h10 (qc h11 (qc h12 (qc h13 (qc (er me) (qc (er mb) (qc h14 (qc h15 (qc h16 (qc h17 (qc (er es) (qc h18 (qc h19 (qc h20 (qc h21 (qn))))))))))))))))))))))))))))))))))))))))))))))))))))))⟩
abbrev c1_rFt_x1 (me : Int) (mb : List Int) (t : TkT) (k ep fr wh tp rd : Int) (bd : List Int) (ms ts : List Rec) := ((say0M me mb (MsT.mk k ep fr wh tp rd bd) (S7.mk (TkT.mk (t).1 (t).2 true (t).4 (t).5 (t).6) ms ts)))
theorem c1_rFt (me : Int) (mb : List Int) (es : List (Rec × Ob)) (t t' : TkT) (k ep fr wh tp rd : Int) (bd : List Int) (ms ts ms' ts' : List Rec)
 (h1 : ((mb ≠ ([] : List (Int))) ∧ ((List.length mb) ≤ (1000 : Nat))))
 (h2 : (InI64 ((((List.length mb) : Nat) : Int) + (fF mb))))
 (h3 : ((t).3 = false))
 (h4 : (NotesOK (t).5))
 (h5 : (InB bd))
 (h6 : ((decide ((cntF (t).5 bd) > (Go.IntKind.wrap Go.IntKind.i64 (Int.tdiv ((((List.length mb) : Nat) : Int) + (fF mb)) (2 : Int))))) = false))
 (h7 : (NotesOK (t).6))
 (h8 : ((decide ((cntF (t).6 bd) > (fF mb))) = true))
 (h9 : (Base7 (80000 : Nat) mb (MsT.mk k ep fr wh tp rd bd) (S7.mk (TkT.mk (t).1 (t).2 true (t).4 (t).5 (t).6) ms ts)))
 (h10 : ((true = true) ∧ ((t).1 = [(Fd.i tp), (Fd.i wh)])))
 (h11 : ((cntP mb (MsT.mk k ep fr wh tp rd bd)) ∧ (List.Mem me mb)))
 (h12 : ((c1_rFt_x1 me mb t k ep fr wh tp rd bd ms ts).2 = false))
 (h13 : ((((c1_rFt_x1 me mb t k ep fr wh tp rd bd ms ts).1).1).4 = true))
 (h14 : ((((c1_rFt_x1 me mb t k ep fr wh tp rd bd ms ts).1).1).2 = (t').2))
 (h15 : ((((c1_rFt_x1 me mb t k ep fr wh tp rd bd ms ts).1).1).3 = (t').3))
 (h16 : ((((c1_rFt_x1 me mb t k ep fr wh tp rd bd ms ts).1).1).4 = (t').4))
 (h17 : ((((c1_rFt_x1 me mb t k ep fr wh tp rd bd ms ts).1).1).1 = (t').1))
 (h18 : ((((c1_rFt_x1 me mb t k ep fr wh tp rd bd ms ts).1).1).5 = (t').5))
 (h19 : ((((c1_rFt_x1 me mb t k ep fr wh tp rd bd ms ts).1).1).6 = (t').6))
 (h20 : (((c1_rFt_x1 me mb t k ep fr wh tp rd bd ms ts).1).3 = ts'))
 (h21 : (((c1_rFt_x1 me mb t k ep fr wh tp rd bd ms ts).1).2 = ms')) :
 ∃ ps, runO Try.prog DB (gC1 false) 100 Try.f30 (cnX me mb es t ms ts, [.one (.ref 0 0), .one (.ref 1 0), (MsT.mk k ep fr wh tp rd bd).a, .one (.ref 2 0)]) [.is false, .is false, .is true, .is true] (.tup []) (cnR true false me mb es t' ms' ts') = some ps ∧ AllQ ps := ⟨_, by kernel_rfl, qc (er me) (qc (er mb) (qc (er ((t).1)) (qc (er es) (qc (er ((t).2)) (qc (er ((t).3)) (qc (er ((t).4)) (qc (er ((t).5)) (qc (er ((t).6)) (qc h1 (qc h2 (qc (show ((2 : Int) ≠ (0 : Int)) from by decide) (qc h3 (qc h4 (qc h5 (qc h6 (qc h7 (qc h5 (qc h8 (qc (er ((3 : Int))) (qc (er k) (qc (er ep) (qc (er fr) (qc (er wh) (qc (er tp) (qc (er rd) (qc (er bd) (qc (er me) (qc (er mb) (qc (er ((t).1)) (qc (er es) (qc (er ms) (qc (er ts) (qc (er ((t).2)) (qc (er true) (qc (er ((t).4)) (qc (er ((t).5)) (qc (er ((t).6)) (qc h9 (qc h10 (qc h11 (qc h12 (qc h13 (qc (er me) (qc (er mb) (qc h14 (qc h15 (qc h16 (qc h17 (qc (er es) (qc h18 (qc h19 (qc h20 (qc h21 (qn))))))))))))))))))))))))))))))))))))))))))))))))))))))⟩
abbrev c1_rFn_x1 (me : Int) (mb : List Int) (t : TkT) (k ep fr wh tp rd : Int) (bd : List Int) (ms ts : List Rec) := ((say0M me mb (MsT.mk k ep fr wh tp rd bd) (S7.mk (TkT.mk (t).1 (t).2 true (t).4 (t).5 (t).6) ms ts)))
theorem c1_rFn (me : Int) (mb : List Int) (es : List (Rec × Ob)) (t t' : TkT) (k ep fr wh tp rd : Int) (bd : List Int) (ms ts ms' ts' : List Rec)
 (h1 : ((mb ≠ ([] : List (Int))) ∧ ((List.length mb) ≤ (1000 : Nat))))
 (h2 : (InI64 ((((List.length mb) : Nat) : Int) + (fF mb))))
 (h3 : ((t).3 = false))
 (h4 : (NotesOK (t).5))
 (h5 : (InB bd))
 (h6 : ((decide ((cntF (t).5 bd) > (Go.IntKind.wrap Go.IntKind.i64 (Int.tdiv ((((List.length mb) : Nat) : Int) + (fF mb)) (2 : Int))))) = false))
 (h7 : (NotesOK (t).6))
 (h8 : ((decide ((cntF (t).6 bd) > (fF mb))) = true))
 (h9 : (Base7 (80000 : Nat) mb (MsT.mk k ep fr wh tp rd bd) (S7.mk (TkT.mk (t).1 (t).2 true (t).4 (t).5 (t).6) ms ts)))
 (h10 : ((true = true) ∧ ((t).1 = [(Fd.i tp), (Fd.i wh)])))
 (h11 : ((cntP mb (MsT.mk k ep fr wh tp rd bd)) ∧ (List.Mem me mb)))
 (h12 : ((c1_rFn_x1 me mb t k ep fr wh tp rd bd ms ts).2 = false))
 (h13 : ((((c1_rFn_x1 me mb t k ep fr wh tp rd bd ms ts).1).1).4 = false))
 (h14 : (NotesOK (((c1_rFn_x1 me mb t k ep fr wh tp rd bd ms ts).1).1).6))
 (h15 : (InI64 ((2 : Int) * (fF mb))))
 (h16 : ((decide ((cntF (((c1_rFn_x1 me mb t k ep fr wh tp rd bd ms ts).1).1).6 bd) > ((2 : Int) * (fF mb)))) = false))
 (h17 : ((((c1_rFn_x1 me mb t k ep fr wh tp rd bd ms ts).1).1).2 = (t').2))
 (h18 : ((((c1_rFn_x1 me mb t k ep fr wh tp rd bd ms ts).1).1).3 = (t').3))
 (h19 : ((((c1_rFn_x1 me mb t k ep fr wh tp rd bd ms ts).1).1).4 = (t').4))
 (h20 : ((((c1_rFn_x1 me mb t k ep fr wh tp rd bd ms ts).1).1).1 = (t').1))
 (h21 : ((((c1_rFn_x1 me mb t k ep fr wh tp rd bd ms ts).1).1).5 = (t').5))
 (h22 : ((((c1_rFn_x1 me mb t k ep fr wh tp rd bd ms ts).1).1).6 = (t').6))
 (h23 : (((c1_rFn_x1 me mb t k ep fr wh tp rd bd ms ts).1).3 = ts'))
 (h24 : (((c1_rFn_x1 me mb t k ep fr wh tp rd bd ms ts).1).2 = ms')) :
 ∃ ps, runO Try.prog DB (gC1 false) 100 Try.f30 (cnX me mb es t ms ts, [.one (.ref 0 0), .one (.ref 1 0), (MsT.mk k ep fr wh tp rd bd).a, .one (.ref 2 0)]) [.is false, .is false, .is true, .is false, .is false] (.tup []) (cnR true false me mb es t' ms' ts') = some ps ∧ AllQ ps := ⟨_, by kernel_rfl, qc (er me) (qc (er mb) (qc (er ((t).1)) (qc (er es) (qc (er ((t).2)) (qc (er ((t).3)) (qc (er ((t).4)) (qc (er ((t).5)) (qc (er ((t).6)) (qc h1 (qc h2 (qc (show ((2 : Int) ≠ (0 : Int)) from by decide) (qc h3 (qc h4 (qc h5 (qc h6 (qc h7 (qc h5 (qc h8 (qc (er ((3 : Int))) (qc (er k) (qc (er ep) (qc (er fr) (qc (er wh) (qc (er tp) (qc (er rd) (qc (er bd) (qc (er me) (qc (er mb) (qc (er ((t).1)) (qc (er es) (qc (er ms) (qc (er ts) (qc (er ((t).2)) (qc (er true) (qc (er ((t).4)) (qc (er ((t).5)) (qc (er ((t).6)) (qc h9 (qc h10 (qc h11 (qc h12 (qc h13 (qc h14 (qc h5 (qc h15 (qc h16 (qc (er me) (qc (er mb) (qc h17 (qc h18 (qc h19 (qc h20 (qc (er es) (qc h21 (qc h22 (qc h23 (qc h24 (qn))))))))))))))))))))))))))))))))))))))))))))))))))))))))))⟩
abbrev c1_rFy_x1 (me : Int) (mb : List Int) (t : TkT) (k ep fr wh tp rd : Int) (bd : List Int) (ms ts : List Rec) := ((say0M me mb (MsT.mk k ep fr wh tp rd bd) (S7.mk (TkT.mk (t).1 (t).2 true (t).4 (t).5 (t).6) ms ts)))
theorem c1_rFy (me : Int) (mb : List Int) (es : List (Rec × Ob)) (t t' : TkT) (k ep fr wh tp rd : Int) (bd : List Int) (ms ts ms' ts' : List Rec)
 (h1 : ((mb ≠ ([] : List (Int))) ∧ ((List.length mb) ≤ (1000 : Nat))))
 (h2 : (InI64 ((((List.length mb) : Nat) : Int) + (fF mb))))
 (h3 : ((t).3 = false))
 (h4 : (NotesOK (t).5))
 (h5 : (InB bd))
 (h6 : ((decide ((cntF (t).5 bd) > (Go.IntKind.wrap Go.IntKind.i64 (Int.tdiv ((((List.length mb) : Nat) : Int) + (fF mb)) (2 : Int))))) = false))
 (h7 : (NotesOK (t).6))
 (h8 : ((decide ((cntF (t).6 bd) > (fF mb))) = true))
 (h9 : (Base7 (80000 : Nat) mb (MsT.mk k ep fr wh tp rd bd) (S7.mk (TkT.mk (t).1 (t).2 true (t).4 (t).5 (t).6) ms ts)))
 (h10 : ((true = true) ∧ ((t).1 = [(Fd.i tp), (Fd.i wh)])))
 (h11 : ((cntP mb (MsT.mk k ep fr wh tp rd bd)) ∧ (List.Mem me mb)))
 (h12 : ((c1_rFy_x1 me mb t k ep fr wh tp rd bd ms ts).2 = false))
 (h13 : ((((c1_rFy_x1 me mb t k ep fr wh tp rd bd ms ts).1).1).4 = false))
 (h14 : (NotesOK (((c1_rFy_x1 me mb t k ep fr wh tp rd bd ms ts).1).1).6))
 (h15 : (InI64 ((2 : Int) * (fF mb))))
 (h16 : ((decide ((cntF (((c1_rFy_x1 me mb t k ep fr wh tp rd bd ms ts).1).1).6 bd) > ((2 : Int) * (fF mb)))) = true))
 (h17 : ((List.length bd) ≤ (140737488355328 : Nat)))
 (h18 : ((((List.length ((c1_rFy_x1 me mb t k ep fr wh tp rd bd ms ts).1).3) + (1 : Nat)) * (40 : Nat)) ≤ (140737488355328 : Nat)))
 (h19 : (((List.length ((c1_rFy_x1 me mb t k ep fr wh tp rd bd ms ts).1).3) + (1 : Nat)) ≤ (9223372036854775807 : Nat)))
 (h20 : ((((c1_rFy_x1 me mb t k ep fr wh tp rd bd ms ts).1).1).2 = (t').2))
 (h21 : ((((c1_rFy_x1 me mb t k ep fr wh tp rd bd ms ts).1).1).3 = (t').3))
 (h22 : (true = (t').4))
 (h23 : ((((c1_rFy_x1 me mb t k ep fr wh tp rd bd ms ts).1).1).1 = (t').1))
 (h24 : ((((c1_rFy_x1 me mb t k ep fr wh tp rd bd ms ts).1).1).5 = (t').5))
 (h25 : ((((c1_rFy_x1 me mb t k ep fr wh tp rd bd ms ts).1).1).6 = (t').6))
 (h26 : (((c1_rFy_x1 me mb t k ep fr wh tp rd bd ms ts).1).2 = ms'))
 (h27 : ((((c1_rFy_x1 me mb t k ep fr wh tp rd bd ms ts).1).3 ++ [[(Fd.i tp), (Fd.i wh), (Fd.w bd)]]) = ts')) :
 ∃ ps, runO Try.prog DB (gC1 false) 100 Try.f30 (cnX me mb es t ms ts, [.one (.ref 0 0), .one (.ref 1 0), (MsT.mk k ep fr wh tp rd bd).a, .one (.ref 2 0)]) [.is false, .is false, .is true, .is false, .is true] (.tup []) (cnR true true me mb es t' ms' ts') = some ps ∧ AllQ ps := ⟨_, by kernel_rfl, qc (er me) (qc (er mb) (qc (er ((t).1)) (qc (er es) (qc (er ((t).2)) (qc (er ((t).3)) (qc (er ((t).4)) (qc (er ((t).5)) (qc (er ((t).6)) (qc h1 (qc h2 (qc (show ((2 : Int) ≠ (0 : Int)) from by decide) (qc h3 (qc h4 (qc h5 (qc h6 (qc h7 (qc h5 (qc h8 (qc (er ((3 : Int))) (qc (er k) (qc (er ep) (qc (er fr) (qc (er wh) (qc (er tp) (qc (er rd) (qc (er bd) (qc (er me) (qc (er mb) (qc (er ((t).1)) (qc (er es) (qc (er ms) (qc (er ts) (qc (er ((t).2)) (qc (er true) (qc (er ((t).4)) (qc (er ((t).5)) (qc (er ((t).6)) (qc h9 (qc h10 (qc h11 (qc h12 (qc h13 (qc h14 (qc h5 (qc h15 (qc h16 (qc h17 (qc h18 (qc h19 (qc (er me) (qc (er mb) (qc h20 (qc h21 (qc h22 (qc h23 (qc (er es) (qc h24 (qc h25 (qc h26 (qc h27 (qn)))))))))))))))))))))))))))))))))))))))))))))))))))))))))))))⟩
theorem c1_nt (me : Int) (mb : List Int) (es : List (Rec × Ob)) (t t' : TkT) (k ep fr wh tp rd : Int) (bd : List Int) (ms ts ms' ts' : List Rec)
 (h1 : ((mb ≠ ([] : List (Int))) ∧ ((List.length mb) ≤ (1000 : Nat))))
 (h2 : (InI64 ((((List.length mb) : Nat) : Int) + (fF mb))))
 (h3 : ((t).3 = false))
 (h4 : (NotesOK (t).5))
 (h5 : (InB bd))
 (h6 : ((decide ((cntF (t).5 bd) > (Go.IntKind.wrap Go.IntKind.i64 (Int.tdiv ((((List.length mb) : Nat) : Int) + (fF mb)) (2 : Int))))) = false))
 (h7 : (NotesOK (t).6))
 (h8 : ((decide ((cntF (t).6 bd) > (fF mb))) = false))
 (h9 : ((t).4 = true))
 (h10 : ((t).2 = (t').2))
 (h11 : ((t).3 = (t').3))
 (h12 : ((t).4 = (t').4))
 (h13 : ((t).1 = (t').1))
 (h14 : ((t).5 = (t').5))
 (h15 : ((t).6 = (t').6))
 (h16 : (ms = ms'))
 (h17 : (ts = ts')) :
 ∃ ps, runO Try.prog DB (gC1 false) 100 Try.f30 (cnX me mb es t ms ts, [.one (.ref 0 0), .one (.ref 1 0), (MsT.mk k ep fr wh tp rd bd).a, .one (.ref 2 0)]) [.is false, .is false, .is false, .is true] (.tup []) (cnR false false me mb es t' ms' ts') = some ps ∧ AllQ ps := ⟨_, by kernel_rfl, qc (er me) (qc (er mb) (qc (er ((t).1)) (qc (er es) (qc (er ((t).2)) (qc (er ((t).3)) (qc (er ((t).4)) (qc (er ((t).5)) (qc (er ((t).6)) (qc h1 (qc h2 (qc (show ((2 : Int) ≠ (0 : Int)) from by decide) (qc h3 (qc h4 (qc h5 (qc h6 (qc h7 (qc h5 (qc h8 (qc h9 (qc (er me) (qc (er mb) (qc h10 (qc h11 (qc h12 (qc h13 (qc (er es) (qc h14 (qc h15 (qc h16 (qc h17 (qn)))))))))))))))))))))))))))))))⟩
theorem c1_nn (me : Int) (mb : List Int) (es : List (Rec × Ob)) (t t' : TkT) (k ep fr wh tp rd : Int) (bd : List Int) (ms ts ms' ts' : List Rec)
 (h1 : ((mb ≠ ([] : List (Int))) ∧ ((List.length mb) ≤ (1000 : Nat))))
 (h2 : (InI64 ((((List.length mb) : Nat) : Int) + (fF mb))))
 (h3 : ((t).3 = false))
 (h4 : (NotesOK (t).5))
 (h5 : (InB bd))
 (h6 : ((decide ((cntF (t).5 bd) > (Go.IntKind.wrap Go.IntKind.i64 (Int.tdiv ((((List.length mb) : Nat) : Int) + (fF mb)) (2 : Int))))) = false))
 (h7 : (NotesOK (t).6))
 (h8 : ((decide ((cntF (t).6 bd) > (fF mb))) = false))
 (h9 : ((t).4 = false))
 (h10 : (InI64 ((2 : Int) * (fF mb))))
 (h11 : ((decide ((cntF (t).6 bd) > ((2 : Int) * (fF mb)))) = false))
 (h12 : ((t).2 = (t').2))
 (h13 : ((t).3 = (t').3))
 (h14 : ((t).4 = (t').4))
 (h15 : ((t).1 = (t').1))
 (h16 : ((t).5 = (t').5))
 (h17 : ((t).6 = (t').6))
 (h18 : (ms = ms'))
 (h19 : (ts = ts')) :
 ∃ ps, runO Try.prog DB (gC1 false) 100 Try.f30 (cnX me mb es t ms ts, [.one (.ref 0 0), .one (.ref 1 0), (MsT.mk k ep fr wh tp rd bd).a, .one (.ref 2 0)]) [.is false, .is false, .is false, .is false, .is false] (.tup []) (cnR false false me mb es t' ms' ts') = some ps ∧ AllQ ps := ⟨_, by kernel_rfl, qc (er me) (qc (er mb) (qc (er ((t).1)) (qc (er es) (qc (er ((t).2)) (qc (er ((t).3)) (qc (er ((t).4)) (qc (er ((t).5)) (qc (er ((t).6)) (qc h1 (qc h2 (qc (show ((2 : Int) ≠ (0 : Int)) from by decide) (qc h3 (qc h4 (qc h5 (qc h6 (qc h7 (qc h5 (qc h8 (qc h9 (qc h7 (qc h5 (qc h10 (qc h11 (qc (er me) (qc (er mb) (qc h12 (qc h13 (qc h14 (qc h15 (qc (er es) (qc h16 (qc h17 (qc h18 (qc h19 (qn)))))))))))))))))))))))))))))))))))⟩
theorem c1_ny (me : Int) (mb : List Int) (es : List (Rec × Ob)) (t t' : TkT) (k ep fr wh tp rd : Int) (bd : List Int) (ms ts ms' ts' : List Rec)
 (h1 : ((mb ≠ ([] : List (Int))) ∧ ((List.length mb) ≤ (1000 : Nat))))
 (h2 : (InI64 ((((List.length mb) : Nat) : Int) + (fF mb))))
 (h3 : ((t).3 = false))
 (h4 : (NotesOK (t).5))
 (h5 : (InB bd))
 (h6 : ((decide ((cntF (t).5 bd) > (Go.IntKind.wrap Go.IntKind.i64 (Int.tdiv ((((List.length mb) : Nat) : Int) + (fF mb)) (2 : Int))))) = false))
 (h7 : (NotesOK (t).6))
 (h8 : ((decide ((cntF (t).6 bd) > (fF mb))) = false))
 (h9 : ((t).4 = false))
 (h10 : (InI64 ((2 : Int) * (fF mb))))
 (h11 : ((decide ((cntF (t).6 bd) > ((2 : Int) * (fF mb)))) = true))
 (h12 : ((List.length bd) ≤ (140737488355328 : Nat)))
 (h13 : ((((List.length ts) + (1 : Nat)) * (40 : Nat)) ≤ (140737488355328 : Nat)))
 (h14 : (((List.length ts) + (1 : Nat)) ≤ (9223372036854775807 : Nat)))
 (h15 : ((t).2 = (t').2))
 (h16 : ((t).3 = (t').3))
 (h17 : (true = (t').4))
 (h18 : ((t).1 = (t').1))
 (h19 : ((t).5 = (t').5))
 (h20 : ((t).6 = (t').6))
 (h21 : (ms = ms'))
 (h22 : ((ts ++ [[(Fd.i tp), (Fd.i wh), (Fd.w bd)]]) = ts')) :
 ∃ ps, runO Try.prog DB (gC1 false) 100 Try.f30 (cnX me mb es t ms ts, [.one (.ref 0 0), .one (.ref 1 0), (MsT.mk k ep fr wh tp rd bd).a, .one (.ref 2 0)]) [.is false, .is false, .is false, .is false, .is true] (.tup []) (cnR false true me mb es t' ms' ts') = some ps ∧ AllQ ps := ⟨_, by kernel_rfl, qc (er me) (qc (er mb) (qc (er ((t).1)) (qc (er es) (qc (er ((t).2)) (qc (er ((t).3)) (qc (er ((t).4)) (qc (er ((t).5)) (qc (er ((t).6)) (qc h1 (qc h2 (qc (show ((2 : Int) ≠ (0 : Int)) from by decide) (qc h3 (qc h4 (qc h5 (qc h6 (qc h7 (qc h5 (qc h8 (qc h9 (qc h7 (qc h5 (qc h10 (qc h11 (qc h12 (qc h13 (qc h14 (qc (er me) (qc (er mb) (qc h15 (qc h16 (qc h17 (qc h18 (qc (er es) (qc h19 (qc h20 (qc h21 (qc h22 (qn))))))))))))))))))))))))))))))))))))))⟩
theorem con2_keep (mb : List Int) (m : MsT) (s : S7) : (con2 mb m s).1.t.key = s.t.key ∧ (con2 mb m s).1.t.b = s.t.b ∧ (con2 mb m s).1.t.r = s.t.r ∧ (con2 mb m s).1.t.ee = s.t.ee ∧ (con2 mb m s).1.t.rr = s.t.rr ∧ (con2 mb m s).1.ms = s.ms ∧ ((con2 mb m s).2 = true → (con2 mb m s).1.t.t = true) := by
  by_cases h : s.t.t = false ∧ 2 * fF mb < cntF s.t.rr m.bd
  · rw [con2_yes h.1 h.2]
    exact ⟨rfl, rfl, rfl, rfl, rfl, rfl, fun _ => rfl⟩
  · rw [con2_no h]
    exact ⟨rfl, rfl, rfl, rfl, rfl, rfl, fun h => by cases h⟩
theorem con2_base {n : Nat} {mb : List Int} {m : MsT} {s : S7} (h : Base7 n mb m s) : Base7 (n + 1) mb m (con2 mb m s).1 := by
  by_cases hc : s.t.t = false ∧ 2 * fF mb < cntF s.t.rr m.bd
  · rw [con2_yes hc.1 hc.2]
    exact ⟨h.mb0, h.mb1, ⟨Nat.le_succ_of_le h.ee.1, h.ee.2⟩, ⟨Nat.le_succ_of_le h.rr.1, h.rr.2⟩, h.bd, h.bl, Nat.le_succ_of_le h.ms, by show (s.ts ++ [_]).length ≤ n + 1; rw [List.length_append]; exact Nat.succ_le_succ h.ts⟩
  · rw [con2_no hc]
    exact h.mono (Nat.le_succ n)
theorem hear0_keep (mb : List Int) (m : MsT) (s : S7) : (hear0M mb m s).1.t.key = s.t.key ∧ (hear0M mb m s).1.t.b = s.t.b ∧ (hear0M mb m s).1.t.r = s.t.r ∧ (hear0M mb m s).1.t.ee = s.t.ee ∧ ((hear0M mb m s).2 = true → (hear0M mb m s).1.t.t = true) := by
  cases h : hasE s.t.rr [.i m.fr]
  · rw [hear0_new h]
    obtain ⟨h1, h2, h3, h4, _, _, h5⟩ := con2_keep mb m ⟨{ s.t with rr := noteM s.t.rr m.fr m.bd }, s.ms, s.ts⟩
    exact ⟨h1, h2, h3, h4, h5⟩
  · rw [hear0_old h]
    exact ⟨rfl, rfl, rfl, rfl, fun h => by cases h⟩
theorem hear0_base {n : Nat} {mb : List Int} {m : MsT} {s : S7} (h : Base7 n mb m s) : Base7 (n + 2) mb m (hear0M mb m s).1 := by
  cases hh : hasE s.t.rr [.i m.fr]
  · rw [hear0_new hh]
    exact con2_base h.noteR
  · rw [hear0_old hh]
    exact h.mono (by omega)
theorem Base7.msg {n : Nat} {mb : List Int} {m m' : MsT} {s : S7} (h : Base7 n mb m s) (hb : m'.bd = m.bd) : Base7 n mb m' s := ⟨h.mb0, h.mb1, h.ee, h.rr, by rw [hb]; exact h.bd, by rw [hb]; exact h.bl, h.ms, h.ts⟩
theorem say0_keep (me : Int) (mb : List Int) (m : MsT) (s : S7) : (say0M me mb m s).1.t.key = s.t.key ∧ (say0M me mb m s).1.t.b = s.t.b ∧ (say0M me mb m s).1.t.r = s.t.r ∧ (say0M me mb m s).1.t.ee = s.t.ee ∧ ((say0M me mb m s).2 = true → (say0M me mb m s).1.t.t = true) := hear0_keep mb (sayM me 3 m) ⟨s.t, s.ms ++ [(sayM me 3 m).r], s.ts⟩
theorem say0_base {n : Nat} {mb : List Int} {m : MsT} {s : S7} (h : Base7 n mb m s) (me : Int) : Base7 (n + 3) mb m (say0M me mb m s).1 := (hear0_base (h.say me 3)).msg rfl
theorem half_wrap {mb : List Int} (h0 : mb ≠ []) (h1 : mb.length ≤ 1000) : IntKind.i64.wrap (((mb.length : Int) + fF mb).tdiv 2) = halfF mb := by
  have hf := fF_nat h0
  have : halfF mb = (((mb.length + (mb.length - 1) / 3) / 2 : Nat) : Int) := by
    unfold halfF
    rw [hf, show (2 : Int) = ((2 : Nat) : Int) from rfl, ← Int.natCast_add, ← Int.ofNat_tdiv]
  rw [show ((mb.length : Int) + fF mb).tdiv 2 = halfF mb from rfl, this, IntKind.wrap_i64]
  omega
def con1M (me : Int) (mb : List Int) (m : MsT) (s : S7) : S7 × Bool × Bool :=
  if s.t.r = false ∧ (halfF mb < cntF s.t.ee m.bd ∨ fF mb < cntF s.t.rr m.bd) then
    ((con2 mb m (say0M me mb m ⟨{ s.t with r := true }, s.ms, s.ts⟩).1).1, true, (say0M me mb m ⟨{ s.t with r := true }, s.ms, s.ts⟩).2 || (con2 mb m (say0M me mb m ⟨{ s.t with r := true }, s.ms, s.ts⟩).1).2)
  else ((con2 mb m s).1, false, (con2 mb m s).2)
theorem con1_say {me : Int} {mb : List Int} {m : MsT} {s : S7} (h : s.t.r = false ∧ (halfF mb < cntF s.t.ee m.bd ∨ fF mb < cntF s.t.rr m.bd)) : con1M me mb m s = ((con2 mb m (say0M me mb m ⟨{ s.t with r := true }, s.ms, s.ts⟩).1).1, true, (say0M me mb m ⟨{ s.t with r := true }, s.ms, s.ts⟩).2 || (con2 mb m (say0M me mb m ⟨{ s.t with r := true }, s.ms, s.ts⟩).1).2) := if_pos h
theorem con1_no {me : Int} {mb : List Int} {m : MsT} {s : S7} (h : ¬ (s.t.r = false ∧ (halfF mb < cntF s.t.ee m.bd ∨ fF mb < cntF s.t.rr m.bd))) : con1M me mb m s = ((con2 mb m s).1, false, (con2 mb m s).2) := if_neg h
noncomputable def con1Q (p q : Bool) := mkF DB Try.f30.ntmps cnRd cnPre (fun t => some (.tup [], cnOut p q t.1 (con1M t.1.1 t.1.2.1 t.2.2 t.2.1).1, [Base7 70000 t.1.2.1 t.2.2 t.2.1, t.2.1.t.key = t.2.2.key, cntP t.1.2.1 t.2.2 ∧ t.1.1 ∈ t.1.2.1, (con1M t.1.1 t.1.2.1 t.2.2 t.2.1).2 = (p, q)]))
theorem con1_ok (p q : Bool) : OpOK Try.prog DB 30 (con1Q p q) := by
  refine opOK_mkG mixed Try.func30 (enters_of Try.func30 (by kernel_rfl) rfl) ?_
  rintro ⟨⟨me, mb, es⟩, ⟨t, ms, ts⟩, ⟨k, ep, fr, wh, tp, rd, bd⟩⟩ r' bs' ps h hps
  simp only [Option.some.injEq, Prod.mk.injEq] at h
  obtain ⟨rfl, rfl, rfl⟩ := h
  have hb : Base7 70000 mb ⟨k, ep, fr, wh, tp, rd, bd⟩ ⟨t, ms, ts⟩ := hps (Base7 70000 mb ⟨k, ep, fr, wh, tp, rd, bd⟩ ⟨t, ms, ts⟩) (by simp)
  have hk : t.key = [.i tp, .i wh] := hps (t.key = [.i tp, .i wh]) (by simp [MsT.key])
  have hcm : cntP mb ⟨k, ep, fr, wh, tp, rd, bd⟩ ∧ me ∈ mb := hps (cntP mb ⟨k, ep, fr, wh, tp, rd, bd⟩ ∧ me ∈ mb) (by simp)
  have hq : (con1M me mb ⟨k, ep, fr, wh, tp, rd, bd⟩ ⟨t, ms, ts⟩).2 = (p, q) := hps ((con1M me mb ⟨k, ep, fr, wh, tp, rd, bd⟩ ⟨t, ms, ts⟩).2 = (p, q)) (by simp)
  have hf := fF_nat hb.mb0
  have hl := hb.mb1
  have h1 := base_mo hb
  have h2 : InI64 ((mb.length : Int) + fF mb) := ⟨by omega, by omega⟩
  have h3 : InI64 (2 * fF mb) := ⟨by omega, by omega⟩
  have h4 := base_rr hb (by decide)
  have h5 := base_ee hb (by decide)
  have hw := half_wrap hb.mb0 hl
  have hbl := hb.bl
  have hts := hb.ts
  have hbd := hb.bd
  simp only at hbl hts hbd h4 h5
  show ∃ Γ fuel ds, GamOK Try.prog DB Γ ∧ ∃ qs, runO Try.prog DB Γ fuel Try.f30 (cnX me mb es t ms ts, [.one (.ref 0 0), .one (.ref 1 0), (MsT.mk k ep fr wh tp rd bd).a, .one (.ref 2 0)]) ds (.tup []) (cnOut p q (me, mb, es) (con1M me mb ⟨k, ep, fr, wh, tp, rd, bd⟩ ⟨t, ms, ts⟩).1) = some qs ∧ AllQ qs
  by_cases hcond : t.r = false ∧ (halfF mb < cntF t.ee bd ∨ fF mb < cntF t.rr bd)
  · rw [con1_say (s := ⟨t, ms, ts⟩) (m := ⟨k, ep, fr, wh, tp, rd, bd⟩) hcond] at hq ⊢
    obtain ⟨hr, hor⟩ := hcond
    have hb1 : Base7 80000 mb ⟨k, ep, fr, wh, tp, rd, bd⟩ ⟨{ t with r := true }, ms, ts⟩ := ⟨hb.mb0, hb.mb1, ⟨Nat.le_trans hb.ee.1 (by decide), hb.ee.2⟩, ⟨Nat.le_trans hb.rr.1 (by decide), hb.rr.2⟩, hb.bd, hb.bl, Nat.le_trans hb.ms (by decide), Nat.le_trans hb.ts (by decide)⟩
    have hx := say0_base hb1 me
    obtain ⟨_, _, _, _, hxt⟩ := say0_keep me mb ⟨k, ep, fr, wh, tp, rd, bd⟩ ⟨{ t with r := true }, ms, ts⟩
    have hn := base_rr hx (by decide)
    have hxs := hx.ts
    simp only at hq
    cases hq2 : (say0M me mb ⟨k, ep, fr, wh, tp, rd, bd⟩ ⟨{ t with r := true }, ms, ts⟩).2
    · cases htt : (say0M me mb ⟨k, ep, fr, wh, tp, rd, bd⟩ ⟨{ t with r := true }, ms, ts⟩).1.t.t
      · by_cases hc : 2 * fF mb < cntF (say0M me mb ⟨k, ep, fr, wh, tp, rd, bd⟩ ⟨{ t with r := true }, ms, ts⟩).1.t.rr bd
        · rw [con2_yes (s := (say0M me mb ⟨k, ep, fr, wh, tp, rd, bd⟩ ⟨{ t with r := true }, ms, ts⟩).1) (m := ⟨k, ep, fr, wh, tp, rd, bd⟩) htt hc] at hq ⊢
          rw [hq2] at hq
          cases hq
          by_cases he : halfF mb < cntF t.ee bd
          · exact ⟨_, _, _, gC1_ok false, c1_eFy me mb es t _ k ep fr wh tp rd bd ms ts _ _ h1 h2 hr h5 hbd (by rw [hw]; exact decide_eq_true he) hb1 ⟨rfl, hk⟩ hcm hq2 htt hn h3 (decide_eq_true hc) (by omega) (by show ((say0M me mb ⟨k, ep, fr, wh, tp, rd, bd⟩ ⟨{ t with r := true }, ms, ts⟩).1.ts.length + 1) * 40 ≤ _; omega) (by show (say0M me mb ⟨k, ep, fr, wh, tp, rd, bd⟩ ⟨{ t with r := true }, ms, ts⟩).1.ts.length + 1 ≤ _; omega) rfl rfl rfl rfl rfl rfl rfl rfl⟩
          · exact ⟨_, _, _, gC1_ok false, c1_rFy me mb es t _ k ep fr wh tp rd bd ms ts _ _ h1 h2 hr h5 hbd (by rw [hw]; exact decide_eq_false he) h4 (decide_eq_true (hor.resolve_left he)) hb1 ⟨rfl, hk⟩ hcm hq2 htt hn h3 (decide_eq_true hc) (by omega) (by show ((say0M me mb ⟨k, ep, fr, wh, tp, rd, bd⟩ ⟨{ t with r := true }, ms, ts⟩).1.ts.length + 1) * 40 ≤ _; omega) (by show (say0M me mb ⟨k, ep, fr, wh, tp, rd, bd⟩ ⟨{ t with r := true }, ms, ts⟩).1.ts.length + 1 ≤ _; omega) rfl rfl rfl rfl rfl rfl rfl rfl⟩
        · rw [con2_no (s := (say0M me mb ⟨k, ep, fr, wh, tp, rd, bd⟩ ⟨{ t with r := true }, ms, ts⟩).1) (m := ⟨k, ep, fr, wh, tp, rd, bd⟩) (fun h => hc h.2)] at hq ⊢
          rw [hq2] at hq
          cases hq
          by_cases he : halfF mb < cntF t.ee bd
          · exact ⟨_, _, _, gC1_ok false, c1_eFn me mb es t _ k ep fr wh tp rd bd ms ts _ _ h1 h2 hr h5 hbd (by rw [hw]; exact decide_eq_true he) hb1 ⟨rfl, hk⟩ hcm hq2 htt hn h3 (decide_eq_false hc) rfl rfl rfl rfl rfl rfl rfl rfl⟩
          · exact ⟨_, _, _, gC1_ok false, c1_rFn me mb es t _ k ep fr wh tp rd bd ms ts _ _ h1 h2 hr h5 hbd (by rw [hw]; exact decide_eq_false he) h4 (decide_eq_true (hor.resolve_left he)) hb1 ⟨rfl, hk⟩ hcm hq2 htt hn h3 (decide_eq_false hc) rfl rfl rfl rfl rfl rfl rfl rfl⟩
      · rw [con2_no (s := (say0M me mb ⟨k, ep, fr, wh, tp, rd, bd⟩ ⟨{ t with r := true }, ms, ts⟩).1) (m := ⟨k, ep, fr, wh, tp, rd, bd⟩) (fun h => by have := h.1; rw [htt] at this; cases this)] at hq ⊢
        rw [hq2] at hq
        cases hq
        by_cases he : halfF mb < cntF t.ee bd
        · exact ⟨_, _, _, gC1_ok false, c1_eFt me mb es t _ k ep fr wh tp rd bd ms ts _ _ h1 h2 hr h5 hbd (by rw [hw]; exact decide_eq_true he) hb1 ⟨rfl, hk⟩ hcm hq2 htt rfl rfl rfl rfl rfl rfl rfl rfl⟩
        · exact ⟨_, _, _, gC1_ok false, c1_rFt me mb es t _ k ep fr wh tp rd bd ms ts _ _ h1 h2 hr h5 hbd (by rw [hw]; exact decide_eq_false he) h4 (decide_eq_true (hor.resolve_left he)) hb1 ⟨rfl, hk⟩ hcm hq2 htt rfl rfl rfl rfl rfl rfl rfl rfl⟩
    · have htt := hxt hq2
      rw [con2_no (s := (say0M me mb ⟨k, ep, fr, wh, tp, rd, bd⟩ ⟨{ t with r := true }, ms, ts⟩).1) (m := ⟨k, ep, fr, wh, tp, rd, bd⟩) (fun h => by have := h.1; rw [htt] at this; cases this)] at hq ⊢
      rw [hq2] at hq
      cases hq
      by_cases he : halfF mb < cntF t.ee bd
      · exact ⟨_, _, _, gC1_ok true, c1_eT me mb es t _ k ep fr wh tp rd bd ms ts _ _ h1 h2 hr h5 hbd (by rw [hw]; exact decide_eq_true he) hb1 ⟨rfl, hk⟩ hcm hq2 htt rfl rfl rfl rfl rfl rfl rfl rfl⟩
      · exact ⟨_, _, _, gC1_ok true, c1_rT me mb es t _ k ep fr wh tp rd bd ms ts _ _ h1 h2 hr h5 hbd (by rw [hw]; exact decide_eq_false he) h4 (decide_eq_true (hor.resolve_left he)) hb1 ⟨rfl, hk⟩ hcm hq2 htt rfl rfl rfl rfl rfl rfl rfl rfl⟩
  · rw [con1_no (s := ⟨t, ms, ts⟩) (m := ⟨k, ep, fr, wh, tp, rd, bd⟩) hcond] at hq ⊢
    simp only at hq
    cases hr : t.r
    · have he : ¬ halfF mb < cntF t.ee bd := fun h => hcond ⟨hr, Or.inl h⟩
      have he2 : ¬ fF mb < cntF t.rr bd := fun h => hcond ⟨hr, Or.inr h⟩
      have d1 : decide (cntF t.ee bd > IntKind.i64.wrap (((mb.length : Int) + fF mb).tdiv 2)) = false := by rw [hw]; exact decide_eq_false he
      cases ht : t.t
      · by_cases hc : 2 * fF mb < cntF t.rr bd
        · rw [con2_yes (s := ⟨t, ms, ts⟩) (m := ⟨k, ep, fr, wh, tp, rd, bd⟩) ht hc] at hq ⊢
          cases hq
          exact ⟨_, _, _, gC1_ok false, c1_ny me mb es t _ k ep fr wh tp rd bd ms ts _ _ h1 h2 hr h5 hbd d1 h4 (decide_eq_false he2) ht h3 (decide_eq_true hc) (by omega) (by omega) (by omega) rfl rfl rfl rfl rfl rfl rfl rfl⟩
        · rw [con2_no (s := ⟨t, ms, ts⟩) (m := ⟨k, ep, fr, wh, tp, rd, bd⟩) (fun h => hc h.2)] at hq ⊢
          cases hq
          exact ⟨_, _, _, gC1_ok false, c1_nn me mb es t _ k ep fr wh tp rd bd ms ts _ _ h1 h2 hr h5 hbd d1 h4 (decide_eq_false he2) ht h3 (decide_eq_false hc) rfl rfl rfl rfl rfl rfl rfl rfl⟩
      · rw [con2_no (s := ⟨t, ms, ts⟩) (m := ⟨k, ep, fr, wh, tp, rd, bd⟩) (fun h => by have := h.1; rw [show (S7.mk t ms ts).t.t = t.t from rfl, ht] at this; cases this)] at hq ⊢
        cases hq
        exact ⟨_, _, _, gC1_ok false, c1_nt me mb es t _ k ep fr wh tp rd bd ms ts _ _ h1 h2 hr h5 hbd d1 h4 (decide_eq_false he2) ht rfl rfl rfl rfl rfl rfl rfl rfl⟩
    · cases ht : t.t
      · by_cases hc : 2 * fF mb < cntF t.rr bd
        · rw [con2_yes (s := ⟨t, ms, ts⟩) (m := ⟨k, ep, fr, wh, tp, rd, bd⟩) ht hc] at hq ⊢
          cases hq
          exact ⟨_, _, _, gC0_ok, c0_yes me mb es t _ k ep fr wh tp rd bd ms ts _ _ h1 h2 hr ht h4 hbd h3 (decide_eq_true hc) (by omega) (by omega) (by omega) rfl rfl rfl rfl rfl rfl rfl rfl⟩
        · rw [con2_no (s := ⟨t, ms, ts⟩) (m := ⟨k, ep, fr, wh, tp, rd, bd⟩) (fun h => hc h.2)] at hq ⊢
          cases hq
          exact ⟨_, _, _, gC0_ok, c0_no me mb es t _ k ep fr wh tp rd bd ms ts _ _ h1 h2 hr ht h4 hbd h3 (decide_eq_false hc) rfl rfl rfl rfl rfl rfl rfl rfl⟩
      · rw [con2_no (s := ⟨t, ms, ts⟩) (m := ⟨k, ep, fr, wh, tp, rd, bd⟩) (fun h => by have := h.1; rw [show (S7.mk t ms ts).t.t = t.t from rfl, ht] at this; cases this)] at hq ⊢
        cases hq
        exact ⟨_, _, _, gC0_ok, c0_told me mb es t _ k ep fr wh tp rd bd ms ts _ _ h1 h2 hr ht rfl rfl rfl rfl rfl rfl rfl rfl⟩
end Go.Num
namespace Go.Num
open Go.Abs Go.Proofs Go.Shelf Go.RowKit
noncomputable def gH1 (p q : Bool) : Gam DB := [(26, .op [true, false] countsT), (27, .op [true, false] ofO), (29, .op [true, false] noteQ), (30, .op [true, true, false, true] (con1Q p q))]
theorem gH1_ok (p q : Bool) : GamOK Try.prog DB (gH1 p q) := gam_op countsT_ok (gam_op ofO_ok (gam_op note_ok (gam_op (con1_ok p q) gam_nil)))
theorem h1_old (me : Int) (mb : List Int) (es : List (Rec × Ob)) (t t' : TkT) (k ep fr wh tp rd : Int) (bd : List Int) (ms ts ms' ts' : List Rec)
 (h1 : ((List.length mb) ≤ (1000 : Nat)))
 (h2 : ((cntP mb (MsT.mk k ep fr wh tp rd bd)) ∧ (k ≠ (1 : Int))))
 (h3 : ((t).1 = [(Fd.i tp), (Fd.i wh)]))
 (h4 : ((k == (1 : Int)) = false))
 (h5 : ((k == (2 : Int)) = true))
 (h6 : ((!(hasE (t).5 [(Fd.i fr)])) = false))
 (h7 : ((List.length bd) ≤ (140737488355328 : Nat)))
 (h8 : ((t).1 = (t').1))
 (h9 : (ms = ms'))
 (h10 : (ts = ts'))
 (h11 : ((t).2 = (t').2))
 (h12 : ((t).3 = (t').3))
 (h13 : ((t).4 = (t').4))
 (h14 : ((noteM (t).5 fr bd) = (t').5))
 (h15 : ((t).6 = (t').6)) :
 ∃ ps, runO Try.prog DB (gH1 false false) 100 Try.f23 (heX me mb es t ms ts, [.one (.ref 0 0), (MsT.mk k ep fr wh tp rd bd).a, .one (.ref 1 0)]) [.is false, .is true, .is false] (.tup []) (heR false false me mb es t' ms' ts') = some ps ∧ AllQ ps := ⟨_, by kernel_rfl, qc (er k) (qc (er ep) (qc (er fr) (qc (er wh) (qc (er tp) (qc (er rd) (qc (er bd) (qc (er me) (qc (er mb) (qc (er ((t).1)) (qc (er es) (qc (er ((t).2)) (qc (er ((t).3)) (qc (er ((t).4)) (qc (er ((t).5)) (qc (er ((t).6)) (qc h1 (qc h2 (qc (er k) (qc (er ep) (qc (er fr) (qc (er wh) (qc (er tp) (qc (er rd) (qc (er bd) (qc (er me) (qc (er mb) (qc (er ((t).1)) (qc (er es) (qc (er ((t).2)) (qc (er ((t).3)) (qc (er ((t).4)) (qc (er ((t).5)) (qc (er ((t).6)) (qc h3 (qc h4 (qc h5 (qc h6 (qc (er k) (qc (er ep) (qc (er fr) (qc (er wh) (qc (er tp) (qc (er rd) (qc (er bd) (qc (er ((t).5)) (qc h7 (qc (er me) (qc (er mb) (qc h8 (qc (er es) (qc h9 (qc h10 (qc h11 (qc h12 (qc h13 (qc h14 (qc h15 (qn))))))))))))))))))))))))))))))))))))))))))))))))))))))))))⟩
abbrev h1_FF_x1 (me : Int) (mb : List Int) (t : TkT) (k ep fr wh tp rd : Int) (bd : List Int) (ms ts : List Rec) := ((con1M me mb (MsT.mk k ep fr wh tp rd bd) (S7.mk (TkT.mk (t).1 (t).2 (t).3 (t).4 (noteM (t).5 fr bd) (t).6) ms ts)))
theorem h1_FF (me : Int) (mb : List Int) (es : List (Rec × Ob)) (t t' : TkT) (k ep fr wh tp rd : Int) (bd : List Int) (ms ts ms' ts' : List Rec)
 (h1 : ((List.length mb) ≤ (1000 : Nat)))
 (h2 : ((cntP mb (MsT.mk k ep fr wh tp rd bd)) ∧ (k ≠ (1 : Int))))
 (h3 : ((t).1 = [(Fd.i tp), (Fd.i wh)]))
 (h4 : ((k == (1 : Int)) = false))
 (h5 : ((k == (2 : Int)) = true))
 (h6 : ((!(hasE (t).5 [(Fd.i fr)])) = true))
 (h7 : ((List.length bd) ≤ (140737488355328 : Nat)))
 (h8 : (Base7 (70000 : Nat) mb (MsT.mk k ep fr wh tp rd bd) (S7.mk (TkT.mk (t).1 (t).2 (t).3 (t).4 (noteM (t).5 fr bd) (t).6) ms ts)))
 (h9 : ((cntP mb (MsT.mk k ep fr wh tp rd bd)) ∧ (List.Mem me mb)))
 (h10 : ((h1_FF_x1 me mb t k ep fr wh tp rd bd ms ts).2 = (false, false)))
 (h11 : ((((h1_FF_x1 me mb t k ep fr wh tp rd bd ms ts).1).1).1 = (t').1))
 (h12 : (((h1_FF_x1 me mb t k ep fr wh tp rd bd ms ts).1).2 = ms'))
 (h13 : (((h1_FF_x1 me mb t k ep fr wh tp rd bd ms ts).1).3 = ts'))
 (h14 : ((((h1_FF_x1 me mb t k ep fr wh tp rd bd ms ts).1).1).2 = (t').2))
 (h15 : ((((h1_FF_x1 me mb t k ep fr wh tp rd bd ms ts).1).1).3 = (t').3))
 (h16 : ((((h1_FF_x1 me mb t k ep fr wh tp rd bd ms ts).1).1).4 = (t').4))
 (h17 : ((((h1_FF_x1 me mb t k ep fr wh tp rd bd ms ts).1).1).5 = (t').5))
 (h18 : ((((h1_FF_x1 me mb t k ep fr wh tp rd bd ms ts).1).1).6 = (t').6)) :
 ∃ ps, runO Try.prog DB (gH1 false false) 100 Try.f23 (heX me mb es t ms ts, [.one (.ref 0 0), (MsT.mk k ep fr wh tp rd bd).a, .one (.ref 1 0)]) [.is false, .is true, .is true] (.tup []) (heR false false me mb es t' ms' ts') = some ps ∧ AllQ ps := ⟨_, by kernel_rfl, qc (er k) (qc (er ep) (qc (er fr) (qc (er wh) (qc (er tp) (qc (er rd) (qc (er bd) (qc (er me) (qc (er mb) (qc (er ((t).1)) (qc (er es) (qc (er ((t).2)) (qc (er ((t).3)) (qc (er ((t).4)) (qc (er ((t).5)) (qc (er ((t).6)) (qc h1 (qc h2 (qc (er k) (qc (er ep) (qc (er fr) (qc (er wh) (qc (er tp) (qc (er rd) (qc (er bd) (qc (er me) (qc (er mb) (qc (er ((t).1)) (qc (er es) (qc (er ((t).2)) (qc (er ((t).3)) (qc (er ((t).4)) (qc (er ((t).5)) (qc (er ((t).6)) (qc h3 (qc h4 (qc h5 (qc h6 (qc (er k) (qc (er ep) (qc (er fr) (qc (er wh) (qc (er tp) (qc (er rd) (qc (er bd) (qc (er ((t).5)) (qc h7 (qc (er k) (qc (er ep) (qc (er fr) (qc (er wh) (qc (er tp) (qc (er rd) (qc (er bd) (qc (er me) (qc (er mb) (qc (er ((t).2)) (qc (er ((t).3)) (qc (er ((t).4)) (qc (er ((t).1)) (qc (er es) (qc (er ((noteM (t).5 fr bd))) (qc (er ((t).6)) (qc (er ms) (qc (er ts) (qc h8 (qc h3 (qc h9 (qc h10 (qc (er me) (qc (er mb) (qc h11 (qc (er es) (qc h12 (qc h13 (qc h14 (qc h15 (qc h16 (qc h17 (qc h18 (qn))))))))))))))))))))))))))))))))))))))))))))))))))))))))))))))))))))))))))))))))⟩
abbrev h1_FT_x1 (me : Int) (mb : List Int) (t : TkT) (k ep fr wh tp rd : Int) (bd : List Int) (ms ts : List Rec) := ((con1M me mb (MsT.mk k ep fr wh tp rd bd) (S7.mk (TkT.mk (t).1 (t).2 (t).3 (t).4 (noteM (t).5 fr bd) (t).6) ms ts)))
theorem h1_FT (me : Int) (mb : List Int) (es : List (Rec × Ob)) (t t' : TkT) (k ep fr wh tp rd : Int) (bd : List Int) (ms ts ms' ts' : List Rec)
 (h1 : ((List.length mb) ≤ (1000 : Nat)))
 (h2 : ((cntP mb (MsT.mk k ep fr wh tp rd bd)) ∧ (k ≠ (1 : Int))))
 (h3 : ((t).1 = [(Fd.i tp), (Fd.i wh)]))
 (h4 : ((k == (1 : Int)) = false))
 (h5 : ((k == (2 : Int)) = true))
 (h6 : ((!(hasE (t).5 [(Fd.i fr)])) = true))
 (h7 : ((List.length bd) ≤ (140737488355328 : Nat)))
 (h8 : (Base7 (70000 : Nat) mb (MsT.mk k ep fr wh tp rd bd) (S7.mk (TkT.mk (t).1 (t).2 (t).3 (t).4 (noteM (t).5 fr bd) (t).6) ms ts)))
 (h9 : ((cntP mb (MsT.mk k ep fr wh tp rd bd)) ∧ (List.Mem me mb)))
 (h10 : ((h1_FT_x1 me mb t k ep fr wh tp rd bd ms ts).2 = (false, true)))
 (h11 : ((((h1_FT_x1 me mb t k ep fr wh tp rd bd ms ts).1).1).1 = (t').1))
 (h12 : (((h1_FT_x1 me mb t k ep fr wh tp rd bd ms ts).1).2 = ms'))
 (h13 : ((((h1_FT_x1 me mb t k ep fr wh tp rd bd ms ts).1).1).2 = (t').2))
 (h14 : ((((h1_FT_x1 me mb t k ep fr wh tp rd bd ms ts).1).1).3 = (t').3))
 (h15 : ((((h1_FT_x1 me mb t k ep fr wh tp rd bd ms ts).1).1).4 = (t').4))
 (h16 : ((((h1_FT_x1 me mb t k ep fr wh tp rd bd ms ts).1).1).5 = (t').5))
 (h17 : ((((h1_FT_x1 me mb t k ep fr wh tp rd bd ms ts).1).1).6 = (t').6))
 (h18 : (((h1_FT_x1 me mb t k ep fr wh tp rd bd ms ts).1).3 = ts')) :
 ∃ ps, runO Try.prog DB (gH1 false true) 100 Try.f23 (heX me mb es t ms ts, [.one (.ref 0 0), (MsT.mk k ep fr wh tp rd bd).a, .one (.ref 1 0)]) [.is false, .is true, .is true] (.tup []) (heR false true me mb es t' ms' ts') = some ps ∧ AllQ ps := ⟨_, by kernel_rfl, qc (er k) (qc (er ep) (qc (er fr) (qc (er wh) (qc (er tp) (qc (er rd) (qc (er bd) (qc (er me) (qc (er mb) (qc (er ((t).1)) (qc (er es) (qc (er ((t).2)) (qc (er ((t).3)) (qc (er ((t).4)) (qc (er ((t).5)) (qc (er ((t).6)) (qc h1 (qc h2 (qc (er k) (qc (er ep) (qc (er fr) (qc (er wh) (qc (er tp) (qc (er rd) (qc (er bd) (qc (er me) (qc (er mb) (qc (er ((t).1)) (qc (er es) (qc (er ((t).2)) (qc (er ((t).3)) (qc (er ((t).4)) (qc (er ((t).5)) (qc (er ((t).6)) (qc h3 (qc h4 (qc h5 (qc h6 (qc (er k) (qc (er ep) (qc (er fr) (qc (er wh) (qc (er tp) (qc (er rd) (qc (er bd) (qc (er ((t).5)) (qc h7 (qc (er k) (qc (er ep) (qc (er fr) (qc (er wh) (qc (er tp) (qc (er rd) (qc (er bd) (qc (er me) (qc (er mb) (qc (er ((t).2)) (qc (er ((t).3)) (qc (er ((t).4)) (qc (er ((t).1)) (qc (er es) (qc (er ((noteM (t).5 fr bd))) (qc (er ((t).6)) (qc (er ms) (qc (er ts) (qc h8 (qc h3 (qc h9 (qc h10 (qc (er me) (qc (er mb) (qc h11 (qc (er es) (qc h12 (qc h13 (qc h14 (qc h15 (qc h16 (qc h17 (qc h18 (qn))))))))))))))))))))))))))))))))))))))))))))))))))))))))))))))))))))))))))))))))⟩
abbrev h1_TF_x1 (me : Int) (mb : List Int) (t : TkT) (k ep fr wh tp rd : Int) (bd : List Int) (ms ts : List Rec) := ((con1M me mb (MsT.mk k ep fr wh tp rd bd) (S7.mk (TkT.mk (t).1 (t).2 (t).3 (t).4 (noteM (t).5 fr bd) (t).6) ms ts)))
theorem h1_TF (me : Int) (mb : List Int) (es : List (Rec × Ob)) (t t' : TkT) (k ep fr wh tp rd : Int) (bd : List Int) (ms ts ms' ts' : List Rec)
 (h1 : ((List.length mb) ≤ (1000 : Nat)))
 (h2 : ((cntP mb (MsT.mk k ep fr wh tp rd bd)) ∧ (k ≠ (1 : Int))))
 (h3 : ((t).1 = [(Fd.i tp), (Fd.i wh)]))
 (h4 : ((k == (1 : Int)) = false))
 (h5 : ((k == (2 : Int)) = true))
 (h6 : ((!(hasE (t).5 [(Fd.i fr)])) = true))
 (h7 : ((List.length bd) ≤ (140737488355328 : Nat)))
 (h8 : (Base7 (70000 : Nat) mb (MsT.mk k ep fr wh tp rd bd) (S7.mk (TkT.mk (t).1 (t).2 (t).3 (t).4 (noteM (t).5 fr bd) (t).6) ms ts)))
 (h9 : ((cntP mb (MsT.mk k ep fr wh tp rd bd)) ∧ (List.Mem me mb)))
 (h10 : ((h1_TF_x1 me mb t k ep fr wh tp rd bd ms ts).2 = (true, false)))
 (h11 : ((((h1_TF_x1 me mb t k ep fr wh tp rd bd ms ts).1).1).1 = (t').1))
 (h12 : (((h1_TF_x1 me mb t k ep fr wh tp rd bd ms ts).1).3 = ts'))
 (h13 : ((((h1_TF_x1 me mb t k ep fr wh tp rd bd ms ts).1).1).2 = (t').2))
 (h14 : ((((h1_TF_x1 me mb t k ep fr wh tp rd bd ms ts).1).1).3 = (t').3))
 (h15 : ((((h1_TF_x1 me mb t k ep fr wh tp rd bd ms ts).1).1).4 = (t').4))
 (h16 : ((((h1_TF_x1 me mb t k ep fr wh tp rd bd ms ts).1).1).5 = (t').5))
 (h17 : ((((h1_TF_x1 me mb t k ep fr wh tp rd bd ms ts).1).1).6 = (t').6))
 (h18 : (((h1_TF_x1 me mb t k ep fr wh tp rd bd ms ts).1).2 = ms')) :
 ∃ ps, runO Try.prog DB (gH1 true false) 100 Try.f23 (heX me mb es t ms ts, [.one (.ref 0 0), (MsT.mk k ep fr wh tp rd bd).a, .one (.ref 1 0)]) [.is false, .is true, .is true] (.tup []) (heR true false me mb es t' ms' ts') = some ps ∧ AllQ ps := ⟨_, by kernel_rfl, qc (er k) (qc (er ep) (qc (er fr) (qc (er wh) (qc (er tp) (qc (er rd) (qc (er bd) (qc (er me) (qc (er mb) (qc (er ((t).1)) (qc (er es) (qc (er ((t).2)) (qc (er ((t).3)) (qc (er ((t).4)) (qc (er ((t).5)) (qc (er ((t).6)) (qc h1 (qc h2 (qc (er k) (qc (er ep) (qc (er fr) (qc (er wh) (qc (er tp) (qc (er rd) (qc (er bd) (qc (er me) (qc (er mb) (qc (er ((t).1)) (qc (er es) (qc (er ((t).2)) (qc (er ((t).3)) (qc (er ((t).4)) (qc (er ((t).5)) (qc (er ((t).6)) (qc h3 (qc h4 (qc h5 (qc h6 (qc (er k) (qc (er ep) (qc (er fr) (qc (er wh) (qc (er tp) (qc (er rd) (qc (er bd) (qc (er ((t).5)) (qc h7 (qc (er k) (qc (er ep) (qc (er fr) (qc (er wh) (qc (er tp) (qc (er rd) (qc (er bd) (qc (er me) (qc (er mb) (qc (er ((t).2)) (qc (er ((t).3)) (qc (er ((t).4)) (qc (er ((t).1)) (qc (er es) (qc (er ((noteM (t).5 fr bd))) (qc (er ((t).6)) (qc (er ms) (qc (er ts) (qc h8 (qc h3 (qc h9 (qc h10 (qc (er me) (qc (er mb) (qc h11 (qc (er es) (qc h12 (qc h13 (qc h14 (qc h15 (qc h16 (qc h17 (qc h18 (qn))))))))))))))))))))))))))))))))))))))))))))))))))))))))))))))))))))))))))))))))⟩
abbrev h1_TT_x1 (me : Int) (mb : List Int) (t : TkT) (k ep fr wh tp rd : Int) (bd : List Int) (ms ts : List Rec) := ((con1M me mb (MsT.mk k ep fr wh tp rd bd) (S7.mk (TkT.mk (t).1 (t).2 (t).3 (t).4 (noteM (t).5 fr bd) (t).6) ms ts)))
theorem h1_TT (me : Int) (mb : List Int) (es : List (Rec × Ob)) (t t' : TkT) (k ep fr wh tp rd : Int) (bd : List Int) (ms ts ms' ts' : List Rec)
 (h1 : ((List.length mb) ≤ (1000 : Nat)))
 (h2 : ((cntP mb (MsT.mk k ep fr wh tp rd bd)) ∧ (k ≠ (1 : Int))))
 (h3 : ((t).1 = [(Fd.i tp), (Fd.i wh)]))
 (h4 : ((k == (1 : Int)) = false))
 (h5 : ((k == (2 : Int)) = true))
 (h6 : ((!(hasE (t).5 [(Fd.i fr)])) = true))
 (h7 : ((List.length bd) ≤ (140737488355328 : Nat)))
 (h8 : (Base7 (70000 : Nat) mb (MsT.mk k ep fr wh tp rd bd) (S7.mk (TkT.mk (t).1 (t).2 (t).3 (t).4 (noteM (t).5 fr bd) (t).6) ms ts)))
 (h9 : ((cntP mb (MsT.mk k ep fr wh tp rd bd)) ∧ (List.Mem me mb)))
 (h10 : ((h1_TT_x1 me mb t k ep fr wh tp rd bd ms ts).2 = (true, true)))
 (h11 : ((((h1_TT_x1 me mb t k ep fr wh tp rd bd ms ts).1).1).1 = (t').1))
 (h12 : ((((h1_TT_x1 me mb t k ep fr wh tp rd bd ms ts).1).1).2 = (t').2))
 (h13 : ((((h1_TT_x1 me mb t k ep fr wh tp rd bd ms ts).1).1).3 = (t').3))
 (h14 : ((((h1_TT_x1 me mb t k ep fr wh tp rd bd ms ts).1).1).4 = (t').4))
 (h15 : ((((h1_TT_x1 me mb t k ep fr wh tp rd bd ms ts).1).1).5 = (t').5))
 (h16 : ((((h1_TT_x1 me mb t k ep fr wh tp rd bd ms ts).1).1).6 = (t').6))
 (h17 : (((h1_TT_x1 me mb t k ep fr wh tp rd bd ms ts).1).2 = ms'))
 (h18 : (((h1_TT_x1 me mb t k ep fr wh tp rd bd ms ts).1).3 = ts')) :
 ∃ ps, runO Try.prog DB (gH1 true true) 100 Try.f23 (heX me mb es t ms ts, [.one (.ref 0 0), (MsT.mk k ep fr wh tp rd bd).a, .one (.ref 1 0)]) [.is false, .is true, .is true] (.tup []) (heR true true me mb es t' ms' ts') = some ps ∧ AllQ ps := ⟨_, by kernel_rfl, qc (er k) (qc (er ep) (qc (er fr) (qc (er wh) (qc (er tp) (qc (er rd) (qc (er bd) (qc (er me) (qc (er mb) (qc (er ((t).1)) (qc (er es) (qc (er ((t).2)) (qc (er ((t).3)) (qc (er ((t).4)) (qc (er ((t).5)) (qc (er ((t).6)) (qc h1 (qc h2 (qc (er k) (qc (er ep) (qc (er fr) (qc (er wh) (qc (er tp) (qc (er rd) (qc (er bd) (qc (er me) (qc (er mb) (qc (er ((t).1)) (qc (er es) (qc (er ((t).2)) (qc (er ((t).3)) (qc (er ((t).4)) (qc (er ((t).5)) (qc (er ((t).6)) (qc h3 (qc h4 (qc h5 (qc h6 (qc (er k) (qc (er ep) (qc (er fr) (qc (er wh) (qc (er tp) (qc (er rd) (qc (er bd) (qc (er ((t).5)) (qc h7 (qc (er k) (qc (er ep) (qc (er fr) (qc (er wh) (qc (er tp) (qc (er rd) (qc (er bd) (qc (er me) (qc (er mb) (qc (er ((t).2)) (qc (er ((t).3)) (qc (er ((t).4)) (qc (er ((t).1)) (qc (er es) (qc (er ((noteM (t).5 fr bd))) (qc (er ((t).6)) (qc (er ms) (qc (er ts) (qc h8 (qc h3 (qc h9 (qc h10 (qc (er me) (qc (er mb) (qc h11 (qc (er es) (qc h12 (qc h13 (qc h14 (qc h15 (qc h16 (qc h17 (qc h18 (qn))))))))))))))))))))))))))))))))))))))))))))))))))))))))))))))))))))))))))))))))⟩
def hear1M (me : Int) (mb : List Int) (m : MsT) (s : S7) : S7 × Bool × Bool :=
  if hasE s.t.ee [.i m.fr] = true then (s, false, false) else con1M me mb m ⟨{ s.t with ee := noteM s.t.ee m.fr m.bd }, s.ms, s.ts⟩
theorem hear1_old {me : Int} {mb : List Int} {m : MsT} {s : S7} (h : hasE s.t.ee [.i m.fr] = true) : hear1M me mb m s = (s, false, false) := if_pos h
theorem hear1_new {me : Int} {mb : List Int} {m : MsT} {s : S7} (h : hasE s.t.ee [.i m.fr] = false) : hear1M me mb m s = con1M me mb m ⟨{ s.t with ee := noteM s.t.ee m.fr m.bd }, s.ms, s.ts⟩ := if_neg (by rw [h]; decide)
noncomputable def hear1Q (p q : Bool) := mkF DB Try.f23.ntmps heRd hePre (fun t => some (.tup [], heOut p q t.1 (hear1M t.1.1 t.1.2.1 t.2.2 t.2.1).1, [Base7 60000 t.1.2.1 t.2.2 t.2.1, t.2.1.t.key = t.2.2.key, (cntP t.1.2.1 t.2.2 ∧ t.1.1 ∈ t.1.2.1) ∧ t.2.2.k = 2, (hear1M t.1.1 t.1.2.1 t.2.2 t.2.1).2 = (p, q)]))
theorem hear1_ok (p q : Bool) : OpOK Try.prog DB 23 (hear1Q p q) := by
  refine opOK_mkG mixed Try.func23 (enters_of Try.func23 (by kernel_rfl) rfl) ?_
  rintro ⟨⟨me, mb, es⟩, ⟨t, ms, ts⟩, ⟨k, ep, fr, wh, tp, rd, bd⟩⟩ r' bs' ps h hps
  simp only [Option.some.injEq, Prod.mk.injEq] at h
  obtain ⟨rfl, rfl, rfl⟩ := h
  have hb : Base7 60000 mb ⟨k, ep, fr, wh, tp, rd, bd⟩ ⟨t, ms, ts⟩ := hps (Base7 60000 mb ⟨k, ep, fr, wh, tp, rd, bd⟩ ⟨t, ms, ts⟩) (by simp)
  have hk : t.key = [.i tp, .i wh] := hps (t.key = [.i tp, .i wh]) (by simp [MsT.key])
  obtain ⟨hcm, hk2⟩ : (cntP mb ⟨k, ep, fr, wh, tp, rd, bd⟩ ∧ me ∈ mb) ∧ k = 2 := hps ((cntP mb ⟨k, ep, fr, wh, tp, rd, bd⟩ ∧ me ∈ mb) ∧ k = 2) (by simp)
  have hq : (hear1M me mb ⟨k, ep, fr, wh, tp, rd, bd⟩ ⟨t, ms, ts⟩).2 = (p, q) := hps ((hear1M me mb ⟨k, ep, fr, wh, tp, rd, bd⟩ ⟨t, ms, ts⟩).2 = (p, q)) (by simp)
  have hbl := hb.bl
  simp only at hbl
  have c1 : (k == 1) = false := beq_eq_false_iff_ne.2 (by omega)
  have c2 : (k == 2) = true := beq_iff_eq.2 hk2
  show ∃ Γ fuel ds, GamOK Try.prog DB Γ ∧ ∃ qs, runO Try.prog DB Γ fuel Try.f23 (heX me mb es t ms ts, [.one (.ref 0 0), (MsT.mk k ep fr wh tp rd bd).a, .one (.ref 1 0)]) ds (.tup []) (heOut p q (me, mb, es) (hear1M me mb ⟨k, ep, fr, wh, tp, rd, bd⟩ ⟨t, ms, ts⟩).1) = some qs ∧ AllQ qs
  cases hh : hasE t.ee [.i fr]
  · rw [hear1_new (s := ⟨t, ms, ts⟩) (m := ⟨k, ep, fr, wh, tp, rd, bd⟩) hh] at hq ⊢
    have hb1 := hb.noteE.mono (show 60000 + 1 ≤ 70000 by decide)
    have hn : (!hasE t.ee [.i fr]) = true := by rw [hh]; rfl
    cases p <;> cases q
    · exact ⟨_, _, _, gH1_ok false false, h1_FF me mb es t _ k ep fr wh tp rd bd ms ts _ _ hb.mb1 ⟨hcm.1, by omega⟩ hk c1 c2 hn (by omega) hb1 hcm hq rfl rfl rfl rfl rfl rfl rfl rfl⟩
    · exact ⟨_, _, _, gH1_ok false true, h1_FT me mb es t _ k ep fr wh tp rd bd ms ts _ _ hb.mb1 ⟨hcm.1, by omega⟩ hk c1 c2 hn (by omega) hb1 hcm hq rfl rfl rfl rfl rfl rfl rfl rfl⟩
    · exact ⟨_, _, _, gH1_ok true false, h1_TF me mb es t _ k ep fr wh tp rd bd ms ts _ _ hb.mb1 ⟨hcm.1, by omega⟩ hk c1 c2 hn (by omega) hb1 hcm hq rfl rfl rfl rfl rfl rfl rfl rfl⟩
    · exact ⟨_, _, _, gH1_ok true true, h1_TT me mb es t _ k ep fr wh tp rd bd ms ts _ _ hb.mb1 ⟨hcm.1, by omega⟩ hk c1 c2 hn (by omega) hb1 hcm hq rfl rfl rfl rfl rfl rfl rfl rfl⟩
  · rw [hear1_old (s := ⟨t, ms, ts⟩) (m := ⟨k, ep, fr, wh, tp, rd, bd⟩) hh] at hq ⊢
    cases hq
    exact ⟨_, _, _, gH1_ok false false, h1_old me mb es t _ k ep fr wh tp rd bd ms ts _ _ hb.mb1 ⟨hcm.1, by omega⟩ hk c1 c2 (by rw [hh]; rfl) (by omega) rfl rfl rfl rfl rfl rfl (noteM_old hh) rfl⟩
noncomputable def gS1 (p q : Bool) : Gam DB := [(24, .fz clB7), (23, .op [true, false, true] (hear1Q p q))]
theorem gS1_ok (p q : Bool) : GamOK Try.prog DB (gS1 p q) := gam_fz clB7_ok (gam_op (hear1_ok p q) gam_nil)
abbrev s1_FF_x1 (me : Int) (mb : List Int) (t : TkT) (wh tp : Int) (bd : List Int) (ms ts : List Rec) := ((hear1M me mb (MsT.mk (2 : Int) (0 : Int) me wh tp (0 : Int) bd) (S7.mk t (ms ++ [[(Fd.i (2 : Int)), (Fd.i (0 : Int)), (Fd.i me), (Fd.i wh), (Fd.i tp), (Fd.i (0 : Int)), (Fd.w bd)]]) ts)))
theorem s1_FF (me : Int) (mb : List Int) (es : List (Rec × Ob)) (t t' : TkT) (k ep fr wh tp rd : Int) (bd : List Int) (ms ts ms' ts' : List Rec)
 (h1 : ((List.length bd) ≤ (140737488355328 : Nat)))
 (h2 : ((((List.length ms) + (1 : Nat)) * (72 : Nat)) ≤ (140737488355328 : Nat)))
 (h3 : (((List.length ms) + (1 : Nat)) ≤ (9223372036854775807 : Nat)))
 (h4 : (Base7 (60000 : Nat) mb (MsT.mk (2 : Int) (0 : Int) me wh tp (0 : Int) bd) (S7.mk t (ms ++ [[(Fd.i (2 : Int)), (Fd.i (0 : Int)), (Fd.i me), (Fd.i wh), (Fd.i tp), (Fd.i (0 : Int)), (Fd.w bd)]]) ts)))
 (h5 : ((t).1 = [(Fd.i tp), (Fd.i wh)]))
 (h6 : (((cntP mb (MsT.mk (2 : Int) (0 : Int) me wh tp (0 : Int) bd)) ∧ (List.Mem me mb)) ∧ ((2 : Int) = (2 : Int))))
 (h7 : ((s1_FF_x1 me mb t wh tp bd ms ts).2 = (false, false)))
 (h8 : ((((s1_FF_x1 me mb t wh tp bd ms ts).1).1).1 = (t').1))
 (h9 : (((s1_FF_x1 me mb t wh tp bd ms ts).1).3 = ts'))
 (h10 : ((((s1_FF_x1 me mb t wh tp bd ms ts).1).1).2 = (t').2))
 (h11 : ((((s1_FF_x1 me mb t wh tp bd ms ts).1).1).3 = (t').3))
 (h12 : ((((s1_FF_x1 me mb t wh tp bd ms ts).1).1).4 = (t').4))
 (h13 : ((((s1_FF_x1 me mb t wh tp bd ms ts).1).1).5 = (t').5))
 (h14 : ((((s1_FF_x1 me mb t wh tp bd ms ts).1).1).6 = (t').6))
 (h15 : (((s1_FF_x1 me mb t wh tp bd ms ts).1).2 = ms')) :
 ∃ ps, runO Try.prog DB (gS1 false false) 100 Try.f28 (heX me mb es t ms ts, [.one (.ref 0 0), .one (.int .i64 false 2), (MsT.mk k ep fr wh tp rd bd).a, .one (.ref 1 0)]) [] (.tup []) (heR true false me mb es t' ms' ts') = some ps ∧ AllQ ps := ⟨_, by kernel_rfl, qc h1 (qc h2 (qc h3 (qc (er ((2 : Int))) (qc (er ((0 : Int))) (qc (er me) (qc (er wh) (qc (er tp) (qc (er ((0 : Int))) (qc (er bd) (qc (er me) (qc (er mb) (qc (er ((t).1)) (qc (er es) (qc (er ((ms ++ [[(Fd.i (2 : Int)), (Fd.i (0 : Int)), (Fd.i me), (Fd.i wh), (Fd.i tp), (Fd.i (0 : Int)), (Fd.w bd)]]))) (qc (er ts) (qc (er ((t).2)) (qc (er ((t).3)) (qc (er ((t).4)) (qc (er ((t).5)) (qc (er ((t).6)) (qc h4 (qc h5 (qc h6 (qc h7 (qc (er me) (qc (er mb) (qc h8 (qc (er es) (qc h9 (qc h10 (qc h11 (qc h12 (qc h13 (qc h14 (qc h15 (qn))))))))))))))))))))))))))))))))))))⟩
abbrev s1_FT_x1 (me : Int) (mb : List Int) (t : TkT) (wh tp : Int) (bd : List Int) (ms ts : List Rec) := ((hear1M me mb (MsT.mk (2 : Int) (0 : Int) me wh tp (0 : Int) bd) (S7.mk t (ms ++ [[(Fd.i (2 : Int)), (Fd.i (0 : Int)), (Fd.i me), (Fd.i wh), (Fd.i tp), (Fd.i (0 : Int)), (Fd.w bd)]]) ts)))
theorem s1_FT (me : Int) (mb : List Int) (es : List (Rec × Ob)) (t t' : TkT) (k ep fr wh tp rd : Int) (bd : List Int) (ms ts ms' ts' : List Rec)
 (h1 : ((List.length bd) ≤ (140737488355328 : Nat)))
 (h2 : ((((List.length ms) + (1 : Nat)) * (72 : Nat)) ≤ (140737488355328 : Nat)))
 (h3 : (((List.length ms) + (1 : Nat)) ≤ (9223372036854775807 : Nat)))
 (h4 : (Base7 (60000 : Nat) mb (MsT.mk (2 : Int) (0 : Int) me wh tp (0 : Int) bd) (S7.mk t (ms ++ [[(Fd.i (2 : Int)), (Fd.i (0 : Int)), (Fd.i me), (Fd.i wh), (Fd.i tp), (Fd.i (0 : Int)), (Fd.w bd)]]) ts)))
 (h5 : ((t).1 = [(Fd.i tp), (Fd.i wh)]))
 (h6 : (((cntP mb (MsT.mk (2 : Int) (0 : Int) me wh tp (0 : Int) bd)) ∧ (List.Mem me mb)) ∧ ((2 : Int) = (2 : Int))))
 (h7 : ((s1_FT_x1 me mb t wh tp bd ms ts).2 = (false, true)))
 (h8 : ((((s1_FT_x1 me mb t wh tp bd ms ts).1).1).1 = (t').1))
 (h9 : ((((s1_FT_x1 me mb t wh tp bd ms ts).1).1).2 = (t').2))
 (h10 : ((((s1_FT_x1 me mb t wh tp bd ms ts).1).1).3 = (t').3))
 (h11 : ((((s1_FT_x1 me mb t wh tp bd ms ts).1).1).4 = (t').4))
 (h12 : ((((s1_FT_x1 me mb t wh tp bd ms ts).1).1).5 = (t').5))
 (h13 : ((((s1_FT_x1 me mb t wh tp bd ms ts).1).1).6 = (t').6))
 (h14 : (((s1_FT_x1 me mb t wh tp bd ms ts).1).2 = ms'))
 (h15 : (((s1_FT_x1 me mb t wh tp bd ms ts).1).3 = ts')) :
 ∃ ps, runO Try.prog DB (gS1 false true) 100 Try.f28 (heX me mb es t ms ts, [.one (.ref 0 0), .one (.int .i64 false 2), (MsT.mk k ep fr wh tp rd bd).a, .one (.ref 1 0)]) [] (.tup []) (heR true true me mb es t' ms' ts') = some ps ∧ AllQ ps := ⟨_, by kernel_rfl, qc h1 (qc h2 (qc h3 (qc (er ((2 : Int))) (qc (er ((0 : Int))) (qc (er me) (qc (er wh) (qc (er tp) (qc (er ((0 : Int))) (qc (er bd) (qc (er me) (qc (er mb) (qc (er ((t).1)) (qc (er es) (qc (er ((ms ++ [[(Fd.i (2 : Int)), (Fd.i (0 : Int)), (Fd.i me), (Fd.i wh), (Fd.i tp), (Fd.i (0 : Int)), (Fd.w bd)]]))) (qc (er ts) (qc (er ((t).2)) (qc (er ((t).3)) (qc (er ((t).4)) (qc (er ((t).5)) (qc (er ((t).6)) (qc h4 (qc h5 (qc h6 (qc h7 (qc (er me) (qc (er mb) (qc h8 (qc (er es) (qc h9 (qc h10 (qc h11 (qc h12 (qc h13 (qc h14 (qc h15 (qn))))))))))))))))))))))))))))))))))))⟩
abbrev s1_TF_x1 (me : Int) (mb : List Int) (t : TkT) (wh tp : Int) (bd : List Int) (ms ts : List Rec) := ((hear1M me mb (MsT.mk (2 : Int) (0 : Int) me wh tp (0 : Int) bd) (S7.mk t (ms ++ [[(Fd.i (2 : Int)), (Fd.i (0 : Int)), (Fd.i me), (Fd.i wh), (Fd.i tp), (Fd.i (0 : Int)), (Fd.w bd)]]) ts)))
theorem s1_TF (me : Int) (mb : List Int) (es : List (Rec × Ob)) (t t' : TkT) (k ep fr wh tp rd : Int) (bd : List Int) (ms ts ms' ts' : List Rec)
 (h1 : ((List.length bd) ≤ (140737488355328 : Nat)))
 (h2 : ((((List.length ms) + (1 : Nat)) * (72 : Nat)) ≤ (140737488355328 : Nat)))
 (h3 : (((List.length ms) + (1 : Nat)) ≤ (9223372036854775807 : Nat)))
 (h4 : (Base7 (60000 : Nat) mb (MsT.mk (2 : Int) (0 : Int) me wh tp (0 : Int) bd) (S7.mk t (ms ++ [[(Fd.i (2 : Int)), (Fd.i (0 : Int)), (Fd.i me), (Fd.i wh), (Fd.i tp), (Fd.i (0 : Int)), (Fd.w bd)]]) ts)))
 (h5 : ((t).1 = [(Fd.i tp), (Fd.i wh)]))
 (h6 : (((cntP mb (MsT.mk (2 : Int) (0 : Int) me wh tp (0 : Int) bd)) ∧ (List.Mem me mb)) ∧ ((2 : Int) = (2 : Int))))
 (h7 : ((s1_TF_x1 me mb t wh tp bd ms ts).2 = (true, false)))
 (h8 : ((((s1_TF_x1 me mb t wh tp bd ms ts).1).1).1 = (t').1))
 (h9 : (((s1_TF_x1 me mb t wh tp bd ms ts).1).3 = ts'))
 (h10 : ((((s1_TF_x1 me mb t wh tp bd ms ts).1).1).2 = (t').2))
 (h11 : ((((s1_TF_x1 me mb t wh tp bd ms ts).1).1).3 = (t').3))
 (h12 : ((((s1_TF_x1 me mb t wh tp bd ms ts).1).1).4 = (t').4))
 (h13 : ((((s1_TF_x1 me mb t wh tp bd ms ts).1).1).5 = (t').5))
 (h14 : ((((s1_TF_x1 me mb t wh tp bd ms ts).1).1).6 = (t').6))
 (h15 : (((s1_TF_x1 me mb t wh tp bd ms ts).1).2 = ms')) :
 ∃ ps, runO Try.prog DB (gS1 true false) 100 Try.f28 (heX me mb es t ms ts, [.one (.ref 0 0), .one (.int .i64 false 2), (MsT.mk k ep fr wh tp rd bd).a, .one (.ref 1 0)]) [] (.tup []) (heR true false me mb es t' ms' ts') = some ps ∧ AllQ ps := ⟨_, by kernel_rfl, qc h1 (qc h2 (qc h3 (qc (er ((2 : Int))) (qc (er ((0 : Int))) (qc (er me) (qc (er wh) (qc (er tp) (qc (er ((0 : Int))) (qc (er bd) (qc (er me) (qc (er mb) (qc (er ((t).1)) (qc (er es) (qc (er ((ms ++ [[(Fd.i (2 : Int)), (Fd.i (0 : Int)), (Fd.i me), (Fd.i wh), (Fd.i tp), (Fd.i (0 : Int)), (Fd.w bd)]]))) (qc (er ts) (qc (er ((t).2)) (qc (er ((t).3)) (qc (er ((t).4)) (qc (er ((t).5)) (qc (er ((t).6)) (qc h4 (qc h5 (qc h6 (qc h7 (qc (er me) (qc (er mb) (qc h8 (qc (er es) (qc h9 (qc h10 (qc h11 (qc h12 (qc h13 (qc h14 (qc h15 (qn))))))))))))))))))))))))))))))))))))⟩
abbrev s1_TT_x1 (me : Int) (mb : List Int) (t : TkT) (wh tp : Int) (bd : List Int) (ms ts : List Rec) := ((hear1M me mb (MsT.mk (2 : Int) (0 : Int) me wh tp (0 : Int) bd) (S7.mk t (ms ++ [[(Fd.i (2 : Int)), (Fd.i (0 : Int)), (Fd.i me), (Fd.i wh), (Fd.i tp), (Fd.i (0 : Int)), (Fd.w bd)]]) ts)))
theorem s1_TT (me : Int) (mb : List Int) (es : List (Rec × Ob)) (t t' : TkT) (k ep fr wh tp rd : Int) (bd : List Int) (ms ts ms' ts' : List Rec)
 (h1 : ((List.length bd) ≤ (140737488355328 : Nat)))
 (h2 : ((((List.length ms) + (1 : Nat)) * (72 : Nat)) ≤ (140737488355328 : Nat)))
 (h3 : (((List.length ms) + (1 : Nat)) ≤ (9223372036854775807 : Nat)))
 (h4 : (Base7 (60000 : Nat) mb (MsT.mk (2 : Int) (0 : Int) me wh tp (0 : Int) bd) (S7.mk t (ms ++ [[(Fd.i (2 : Int)), (Fd.i (0 : Int)), (Fd.i me), (Fd.i wh), (Fd.i tp), (Fd.i (0 : Int)), (Fd.w bd)]]) ts)))
 (h5 : ((t).1 = [(Fd.i tp), (Fd.i wh)]))
 (h6 : (((cntP mb (MsT.mk (2 : Int) (0 : Int) me wh tp (0 : Int) bd)) ∧ (List.Mem me mb)) ∧ ((2 : Int) = (2 : Int))))
 (h7 : ((s1_TT_x1 me mb t wh tp bd ms ts).2 = (true, true)))
 (h8 : ((((s1_TT_x1 me mb t wh tp bd ms ts).1).1).1 = (t').1))
 (h9 : ((((s1_TT_x1 me mb t wh tp bd ms ts).1).1).2 = (t').2))
 (h10 : ((((s1_TT_x1 me mb t wh tp bd ms ts).1).1).3 = (t').3))
 (h11 : ((((s1_TT_x1 me mb t wh tp bd ms ts).1).1).4 = (t').4))
 (h12 : ((((s1_TT_x1 me mb t wh tp bd ms ts).1).1).5 = (t').5))
 (h13 : ((((s1_TT_x1 me mb t wh tp bd ms ts).1).1).6 = (t').6))
 (h14 : (((s1_TT_x1 me mb t wh tp bd ms ts).1).2 = ms'))
 (h15 : (((s1_TT_x1 me mb t wh tp bd ms ts).1).3 = ts')) :
 ∃ ps, runO Try.prog DB (gS1 true true) 100 Try.f28 (heX me mb es t ms ts, [.one (.ref 0 0), .one (.int .i64 false 2), (MsT.mk k ep fr wh tp rd bd).a, .one (.ref 1 0)]) [] (.tup []) (heR true true me mb es t' ms' ts') = some ps ∧ AllQ ps := ⟨_, by kernel_rfl, qc h1 (qc h2 (qc h3 (qc (er ((2 : Int))) (qc (er ((0 : Int))) (qc (er me) (qc (er wh) (qc (er tp) (qc (er ((0 : Int))) (qc (er bd) (qc (er me) (qc (er mb) (qc (er ((t).1)) (qc (er es) (qc (er ((ms ++ [[(Fd.i (2 : Int)), (Fd.i (0 : Int)), (Fd.i me), (Fd.i wh), (Fd.i tp), (Fd.i (0 : Int)), (Fd.w bd)]]))) (qc (er ts) (qc (er ((t).2)) (qc (er ((t).3)) (qc (er ((t).4)) (qc (er ((t).5)) (qc (er ((t).6)) (qc h4 (qc h5 (qc h6 (qc h7 (qc (er me) (qc (er mb) (qc h8 (qc (er es) (qc h9 (qc h10 (qc h11 (qc h12 (qc h13 (qc h14 (qc h15 (qn))))))))))))))))))))))))))))))))))))⟩
def say1M (me : Int) (mb : List Int) (m : MsT) (s : S7) : S7 × Bool × Bool := hear1M me mb (sayM me 2 m) ⟨s.t, s.ms ++ [(sayM me 2 m).r], s.ts⟩
noncomputable def say1Q (q : Bool) := mkF DB Try.f28.ntmps seRd (sePre 2) (fun t => some (.tup [], heOut true q t.1 (say1M t.1.1 t.1.2.1 t.2.2 t.2.1).1, [Base7 50000 t.1.2.1 t.2.2 t.2.1, t.2.1.t.key = t.2.2.key, cntP t.1.2.1 t.2.2 ∧ t.1.1 ∈ t.1.2.1, (say1M t.1.1 t.1.2.1 t.2.2 t.2.1).2.2 = q]))
theorem say1_ok (q : Bool) : OpOK Try.prog DB 28 (say1Q q) := by
  refine opOK_mkG mixed Try.func28 (enters_of Try.func28 (by kernel_rfl) rfl) ?_
  rintro ⟨⟨me, mb, es⟩, ⟨t, ms, ts⟩, ⟨k, ep, fr, wh, tp, rd, bd⟩⟩ r' bs' ps h hps
  simp only [Option.some.injEq, Prod.mk.injEq] at h
  obtain ⟨rfl, rfl, rfl⟩ := h
  have hb : Base7 50000 mb ⟨k, ep, fr, wh, tp, rd, bd⟩ ⟨t, ms, ts⟩ := hps (Base7 50000 mb ⟨k, ep, fr, wh, tp, rd, bd⟩ ⟨t, ms, ts⟩) (by simp)
  have hk : t.key = [.i tp, .i wh] := hps (t.key = [.i tp, .i wh]) (by simp [MsT.key])
  obtain ⟨hc, hme⟩ : cntP mb ⟨k, ep, fr, wh, tp, rd, bd⟩ ∧ me ∈ mb := hps (cntP mb ⟨k, ep, fr, wh, tp, rd, bd⟩ ∧ me ∈ mb) (by simp)
  have hq : (say1M me mb ⟨k, ep, fr, wh, tp, rd, bd⟩ ⟨t, ms, ts⟩).2.2 = q := hps ((say1M me mb ⟨k, ep, fr, wh, tp, rd, bd⟩ ⟨t, ms, ts⟩).2.2 = q) (by simp)
  have hbl := hb.bl
  have hms := hb.ms
  simp only at hbl hms
  have hb1 := (hb.say me 2).mono (show 50000 + 1 ≤ 60000 by decide)
  have hc1 := cnt_say hc hme (Or.inl rfl : (2 : Int) = 2 ∨ (2 : Int) = 3)
  show ∃ Γ fuel ds, GamOK Try.prog DB Γ ∧ ∃ qs, runO Try.prog DB Γ fuel Try.f28 (heX me mb es t ms ts, [.one (.ref 0 0), .one (.int .i64 false 2), (MsT.mk k ep fr wh tp rd bd).a, .one (.ref 1 0)]) ds (.tup []) (heOut true q (me, mb, es) (say1M me mb ⟨k, ep, fr, wh, tp, rd, bd⟩ ⟨t, ms, ts⟩).1) = some qs ∧ AllQ qs
  cases hp : (say1M me mb ⟨k, ep, fr, wh, tp, rd, bd⟩ ⟨t, ms, ts⟩).2.1 <;> cases q
  · exact ⟨_, _, _, gS1_ok false false, s1_FF me mb es t _ k ep fr wh tp rd bd ms ts _ _ (by omega) (by omega) (by omega) hb1 hk ⟨⟨hc1, hme⟩, rfl⟩ (Prod.ext hp hq) rfl rfl rfl rfl rfl rfl rfl rfl⟩
  · exact ⟨_, _, _, gS1_ok false true, s1_FT me mb es t _ k ep fr wh tp rd bd ms ts _ _ (by omega) (by omega) (by omega) hb1 hk ⟨⟨hc1, hme⟩, rfl⟩ (Prod.ext hp hq) rfl rfl rfl rfl rfl rfl rfl rfl⟩
  · exact ⟨_, _, _, gS1_ok true false, s1_TF me mb es t _ k ep fr wh tp rd bd ms ts _ _ (by omega) (by omega) (by omega) hb1 hk ⟨⟨hc1, hme⟩, rfl⟩ (Prod.ext hp hq) rfl rfl rfl rfl rfl rfl rfl rfl⟩
  · exact ⟨_, _, _, gS1_ok true true, s1_TT me mb es t _ k ep fr wh tp rd bd ms ts _ _ (by omega) (by omega) (by omega) hb1 hk ⟨⟨hc1, hme⟩, rfl⟩ (Prod.ext hp hq) rfl rfl rfl rfl rfl rfl rfl rfl⟩
end Go.Num
