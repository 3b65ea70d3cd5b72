/- Several texts put together: Ch13 Im1 Ch14 Ch15 Frame Glob. -/
import Derived.Test.YthdhjbmgmfndhaaDoorMrg11
import Derived.Test.YthdhjbmgmfndhaaDoorRows
import Derived.WalkKit
import Derived.ProofKit
import Derived.OpenShut
import Derived.ShutString
import Derived.SizedLaws
import Derived.Carry
import Derived.Stop.LaidErr
import Derived.Lib.LaidTab
namespace Go.Num
open Go.Abs Go.Proofs Go.Shelf Go.RowKit
structure GrI (z : KeT) : Prop where
  d : ∃ st es, z.2.2 = (4194304, st, 0, false, es) ∧ Only es (catF 0 z.2.1)
  ok : OkN z.2.2 (3 * z.1)
  sig : ∀ s ∈ z.2.1, SigOK s
  len : z.2.1.length ≤ z.1
  sixty : z.1 ≤ 60
def grBad (rs : List Int) (z : KeT) : Prop := z.1 < rs.length ∧ rs.getD z.1 0 ≠ 0 ∧ rs.getD z.1 0 ≠ ((lnF 0 z.2.1).length : Int) + 1
instance (rs : List Int) (z : KeT) : Decidable (grBad rs z) := by unfold grBad; infer_instance
theorem gr_round {sg : List (List Int)} {z : KeT} (h : GrI z) (hz : z.1 < 60) :
    ∃ st', keR sg z = (0, (lnF 0 (z.2.1 ++ [sigP (sg.getD z.1 [])]), false, (4194304, st', 0, false, one cN (catF 0 (z.2.1 ++ [sigP (sg.getD z.1 [])])) (catF 0 (z.2.1 ++ [sigP (sg.getD z.1 [])])).length))) ∧
      lnF 0 z.2.1 ++ [[Fd.i (((lnF 0 z.2.1).length : Int) + 1), Fd.w (sigP (sg.getD z.1 []))]] = lnF 0 (z.2.1 ++ [sigP (sg.getD z.1 [])]) := by
  obtain ⟨⟨st, es, hd, ho⟩, hok, hsig, hlen, _⟩ := h
  generalize hs : sigP (sg.getD z.1 []) = s
  have hsl : s.length = 96 := by rw [← hs]; exact sigP_len _
  have hc := catF_len 0 z.2.1 hsig
  have hln := lnF_len 0 z.2.1
  have hf := frameL_len (r := ((lnF 0 z.2.1).length : Int) + 1) hsl
  have hcat : catF 0 (z.2.1 ++ [s]) = catF 0 z.2.1 ++ frameL (((lnF 0 z.2.1).length : Int) + 1) s := by rw [catF_snoc, Nat.zero_add, hln]
  have hlin : lnF 0 (z.2.1 ++ [s]) = lnF 0 z.2.1 ++ [[.i (((lnF 0 z.2.1).length : Int) + 1), .w s]] := by rw [lnF_snoc, Nat.zero_add, hln]
  have hp := put_only0 (ro := 4194304) (st := st) (b := frameL (((lnF 0 z.2.1).length : Int) + 1) s) (k := (lnF 0 z.2.1).length) ho (by rw [hc, hf]; omega) (by rw [List.length_append, hc, hf]; omega)
  refine ⟨st + 2, ?_, hlin.symm⟩
  unfold keR
  rw [hs, hd, hcat, hlin, chApp_next hp]
  rfl
theorem gr_nxt {sg : List (List Int)} {z : KeT} (h : GrI z) : OkN (keR sg z).2.2.2 (3 * (z.1 + 1 : Nat)) := by
  obtain ⟨⟨st, es, hd, ho⟩, hok, _⟩ := h
  have h1 := put_nxt hok (frameL (((lnF 0 z.2.1).length : Int) + 1) (sigP (sg.getD z.1 []))) (lnF 0 z.2.1).length
  unfold keR
  rw [chApp_next (e := (putM z.2.2 (frameL (((lnF 0 z.2.1).length : Int) + 1) (sigP (sg.getD z.1 []))) (lnF 0 z.2.1).length).1) (d' := (putM z.2.2 (frameL (((lnF 0 z.2.1).length : Int) + 1) (sigP (sg.getD z.1 []))) (lnF 0 z.2.1).length).2) rfl]
  exact h1.le (by omega)
def gr0 : KeT := (0, [], (4194304, 0, 0, false, []))
end Go.Num
namespace Go.Num
open Go.Abs Go.Proofs Go.Shelf Go.RowKit
noncomputable def gI1 : Gam DF := [(33, .op [true] namesQ), (28, .fn clD)]
def r1B (s : ByteArray) (b : Nat) (n : Int) : BoxSt DF.τ := .dyn 54 (.rec1 [.s s, .o b, .i .i64 n])
theorem im1_run (ro st fu : Int) (dn : Bool) (es : List (Rec × Ob)) (s : ByteArray) (l : List Int) (n : Int)
 (h1 : (Short es))
 (h2 : ((decide ((0 : Int) < (((List.length (sortK es)) : Nat) : Int))) = true))
 (h3 : ((0 : Int) < (((List.length (sortK es)) : Nat) : Int)))
 (h4 : ((0 : Nat) < (List.length (sortK es))))
 (h5 : (KeyT Tryd.prog (9 : TypeId) false [FK.str]))
 (h6 : ((keyOK [FK.str] [(Fd.s (recS (List.getD (sortK es) (0 : Nat) ([] : List (Abs.Fd))) (0 : Nat)))]) = true))
 (h7 : ((hasE es [(Fd.s (recS (List.getD (sortK es) (0 : Nat) ([] : List (Abs.Fd))) (0 : Nat)))]) = true))
 (h8 : ((List.length (obD (obE es [(Fd.s (recS (List.getD (sortK es) (0 : Nat) ([] : List (Abs.Fd))) (0 : Nat)))]))) ≤ (140737488355328 : Nat)))
 (h9 : ((decide ((Go.IntKind.wrap Go.IntKind.i64 ((0 : Int) + (1 : Int))) < (((List.length (sortK es)) : Nat) : Int))) = false))
 (h10 : ((obS (obE es [(Fd.s (recS (List.getD (sortK es) (0 : Nat) ([] : List (Abs.Fd))) (0 : Nat)))])) = (obS (Ob.node [(Fd.w (obD (obE es [(Fd.s (recS (List.getD (sortK es) (0 : Nat) ([] : List (Abs.Fd))) (0 : Nat)))]))), (Fd.i (obS (obE es [(Fd.s (recS (List.getD (sortK es) (0 : Nat) ([] : List (Abs.Fd))) (0 : Nat)))])))] ([] : List (List (Rec × Ob)))))))
 (h11 : ((obD (obE es [(Fd.s (recS (List.getD (sortK es) (0 : Nat) ([] : List (Abs.Fd))) (0 : Nat)))])) = (obD (Ob.node [(Fd.w (obD (obE es [(Fd.s (recS (List.getD (sortK es) (0 : Nat) ([] : List (Abs.Fd))) (0 : Nat)))]))), (Fd.i (obS (obE es [(Fd.s (recS (List.getD (sortK es) (0 : Nat) ([] : List (Abs.Fd))) (0 : Nat)))])))] ([] : List (List (Rec × Ob)))))))
 (h12 : ((setE es [(Fd.s (recS (List.getD (sortK es) (0 : Nat) ([] : List (Abs.Fd))) (0 : Nat)))] (Ob.node [(Fd.w (obD (obE es [(Fd.s (recS (List.getD (sortK es) (0 : Nat) ([] : List (Abs.Fd))) (0 : Nat)))]))), (Fd.i (obS (obE es [(Fd.s (recS (List.getD (sortK es) (0 : Nat) ([] : List (Abs.Fd))) (0 : Nat)))])))] ([] : List (List (Rec × Ob))))) = es))
 (h13 : ((recS (List.getD (sortK es) (0 : Nat) ([] : List (Abs.Fd))) (0 : Nat)) = s))
 (h14 : ((obS (obE es [(Fd.s (recS (List.getD (sortK es) (0 : Nat) ([] : List (Abs.Fd))) (0 : Nat)))])) = n))
 (h15 : ((obD (obE es [(Fd.s (recS (List.getD (sortK es) (0 : Nat) ([] : List (Abs.Fd))) (0 : Nat)))])) = l)) :
 ∃ ps, runO Tryd.prog DF gI1 100 Tryd.f12 (dkB ro st fu dn es, [.one (.ref 0 0)]) [.roll, .is true, .is false] (.v (.one (.own 2))) (dkB ro st fu dn es ++ [r1B s 3 n, dynB l]) = some ps ∧ AllQ ps := ⟨_, by kernel_rfl, qc h1 (qc h2 (qc (show ((0 : Int) ≤ (0 : Int)) from by decide) (qc h3 (qc h4 (qc h5 (qc h6 (qc h7 (qc h8 (qc (show ((48 : Nat) ≤ (140737488355328 : Nat)) from by decide) (qc h9 (qc h10 (qc h11 (qc (Eq.refl ro) (qc (Eq.refl st) (qc (Eq.refl fu) (qc (Eq.refl dn) (qc h12 (qc h13 (qc h14 (qc h15 (qn)))))))))))))))))))))⟩
def nm1 (d : DkT) : ByteArray := recS ((sortK d.2.2.2.2).getD 0 []) 0
noncomputable def image1R := mkF DF Tryd.f12.ntmps spRdE (fun d => (dkBt d, [.one (.ref 0 0)])) (fun d => some (.v (.one (.own 2)), [r1B (nm1 d) 3 (obS (obE d.2.2.2.2 [Fd.s (nm1 d)])), dynB (obD (obE d.2.2.2.2 [Fd.s (nm1 d)]))], [Okd d, (sortK d.2.2.2.2).length = 1]))
theorem gI1_ok : GamOK Tryd.prog DF gI1 := gam_op names_ok (gam_cons clone_ok gam_nil)
theorem image1_ok : OpOK Tryd.prog DF 12 (withNew image1R) := by
  refine opOK_mkR mixed Tryd.func12 (enters_of Tryd.func12 (by kernel_rfl) rfl) (fun _ _ _ => spRdE_is) ?_
  rintro ⟨ro, st, fu, dn, es⟩ r' ns ps h hps
  simp only [Option.some.injEq, Prod.mk.injEq] at h
  obtain ⟨rfl, rfl, rfl⟩ := h
  have hd : Okd (ro, st, fu, dn, es) := hps (Okd _) (by simp)
  have hl : (sortK es).length = 1 := hps (_ = 1) (by simp)
  obtain ⟨s, hs1, hs2⟩ := sortK_at hd.keys1 (k := 0) (by simp only; rw [← sortK_len]; omega)
  have hs2' : hasE es [Fd.s s] = true := hs2
  have hs1' : (sortK es).getD 0 [] = [Fd.s s] := hs1
  have hb := hd.back hs2
  have ho := hd.ob [Fd.s s]
  simp only at hb ho
  have hr : recS ((sortK es).getD 0 []) 0 = s := by rw [hs1']; rfl
  exact ⟨_, _, _, gI1_ok, im1_run ro st fu dn es _ _ _ hd.short (decide_eq_true (by omega)) (by omega) (by omega) keyT_str rfl (by rw [hr]; exact hs2') (by rw [hr]; exact ho.2.2) (decide_eq_false (by rw [hl]; decide)) rfl rfl (by rw [hr]; exact hb) rfl rfl rfl⟩
def dkBn (o : Nat) (d : DkT) : List (BoxSt DF.τ) := [.fixed 68 [.int .i64 false d.1, .mapr o, .int .i64 false d.2.1, .int .i64 false d.2.2.1, .bool false d.2.2.2.1], .fam 0 d.2.2.2.2 none]
theorem mo1_run (ro ro' : Int) (s : ByteArray) (l : List Int) (n : Int) (es : List (Rec × Ob))
 (h1 : ((rightB s) = true))
 (h2 : ((ByteArray.size s) ≤ (9223372036854775807 : Nat)))
 (h3 : (KeyT Tryd.prog (9 : TypeId) false [FK.str]))
 (h4 : ((keyOK [FK.str] [(Fd.s s)]) = true))
 (h5 : ((hasE ([] : List (Rec × Ob)) [(Fd.s s)]) = false))
 (h6 : ((decide (n < (0 : Int))) = false))
 (h7 : ((decide (n > (((List.length l) : Nat) : Int))) = false))
 (h8 : ((List.length l) ≤ (140737488355328 : Nat)))
 (h9 : (FreeOK (Option.some ([(Fd.s s)], n)) (setE ([] : List (Rec × Ob)) [(Fd.s s)] (fileOb l n)) (if ((4194304 : Int) < (if ((0 : Int) > ro) then (0 : Int) else ro)) then (4194304 : Int) else (if ((0 : Int) > ro) then (0 : Int) else ro))))
 (h10 : ((decide (((if ((4194304 : Int) < (if ((0 : Int) > ro) then (0 : Int) else ro)) then (4194304 : Int) else (if ((0 : Int) > ro) then (0 : Int) else ro)) - (safeSum (Option.some ([(Fd.s s)], n)) (setE ([] : List (Rec × Ob)) [(Fd.s s)] (fileOb l n)))) < (0 : Int))) = false))
 (h11 : (n = (obD.match_1 (fun x => Int) (fileOb l n) (fun r cs => recI r 1))))
 (h12 : (l = (obD.match_1 (fun x => List Int) (fileOb l n) (fun r cs => recW r 0))))
 (h13 : ((if ((4194304 : Int) < (if ((0 : Int) > ro) then (0 : Int) else ro)) then (4194304 : Int) else (if ((0 : Int) > ro) then (0 : Int) else ro)) = ro'))
 (h14 : ((setE (setE ([] : List (Rec × Ob)) [(Fd.s s)] (fileOb l n)) [(Fd.s s)] (fileOb l n)) = es)) :
 ∃ ps, runO Tryd.prog DF gM 100 Tryd.f9 ([r1B s 1 n, dynB l], [.one (.int .i64 false ro), .one (.own 0)]) [.roll, .is true, .is false, .is false, .is false] (.tup [.one (.ref 2 0), .one (.int .i64 true 0)]) ([r1B s 1 n, dynB l] ++ dkBn 3 (ro', 0, 0, false, es)) = some ps ∧ AllQ ps := ⟨_, by kernel_rfl, qc (Eq.refl ro) (qc (Eq.refl ((0 : Int))) (qc h1 (qc h2 (qc h3 (qc h4 (qc h5 (qc h6 (qc h7 (qc h8 (qc h3 (qc h4 (qc h9 (qc h10 (qc h11 (qc h12 (qc (Eq.refl s) (qc (Eq.refl n) (qc (Eq.refl l) (qc h13 (qc (Eq.refl ((0 : Int))) (qc (Eq.refl ((0 : Int))) (qc (Eq.refl false) (qc h14 (qn))))))))))))))))))))))))⟩
def mo1Rd (bs : List (BoxSt DF.τ)) (xs : List (A0 DF.τ)) : Option (Int × ByteArray × List Int × Int) :=
  match bs, xs with
  | [.dyn _ (.rec1 [.s s, .o 1, .i .i64 n]), .dyn _ (.ints .u8 l)], [.one (.int .i64 _ ro), .one (.own 0)] => some (ro, s, l, n)
  | _, _ => none
noncomputable def mount1Q := mkF DF Tryd.f9.ntmps mo1Rd (fun t => ([r1B t.2.1 1 t.2.2.2, dynB t.2.2.1], [.one (.int .i64 false t.1), .one (.own 0)]))
  (fun t => some (.tup [.one (.ref 2 0), .one (.int .i64 true 0)], [r1B t.2.1 1 t.2.2.2, dynB t.2.2.1] ++ dkBn 3 (clampR t.1, 0, 0, false, one t.2.1 t.2.2.1 t.2.2.2), [rightB t.2.1 = true, 0 ≤ t.2.2.2, t.2.2.2 ≤ (t.2.2.1.length : Int), t.2.2.2 ≤ clampR t.1, t.2.2.1.length ≤ 140737488355328]))
theorem mount1_ok : OpOK Tryd.prog DF 9 mount1Q := by
  refine opOK_mk gM_ok mixed Tryd.func9 (enters_of Tryd.func9 (by kernel_rfl) rfl) ?_
  rintro ⟨ro, s, l, n⟩ r' bs' ps h hps
  simp only [Option.some.injEq, Prod.mk.injEq] at h
  obtain ⟨rfl, rfl, rfl⟩ := h
  have h1 : rightB s = true := hps (rightB s = true) (by simp)
  have h2 : 0 ≤ n := hps (0 ≤ n) (by simp)
  have h3 : n ≤ (l.length : Int) := hps (n ≤ (l.length : Int)) (by simp)
  have h4 : n ≤ clampR ro := hps (n ≤ clampR ro) (by simp)
  have h5 : l.length ≤ 140737488355328 := hps (l.length ≤ 140737488355328) (by simp)
  have hcl := clampR_ok ro
  have hss : safeSum (some ([Fd.s s], n)) (one s l n) = n := by simp [safeSum, safeOf, one]
  have hsz := rightB_size h1
  refine ⟨_, _, mo1_run ro (clampR ro) s l n (one s l n) h1 (by omega) keyT_str rfl rfl (decide_eq_false (by omega)) (decide_eq_false (by omega)) h5 ?_ (decide_eq_false ?_) rfl rfl rfl ?_⟩
  · show FreeOK (some ([Fd.s s], n)) (one s l n) (clampR ro)
    refine ⟨fun e he => ?_, by rw [hss]; omega, by omega, by omega⟩
    rw [List.mem_singleton.1 he]
    simp [safeOf, h2]
  · show ¬ (clampR ro - safeSum (some ([Fd.s s], n)) (one s l n) < 0)
    rw [hss]
    omega
  · simp [setE, one]
end Go.Num
namespace Go.Num
open Go.Abs Go.Proofs Go.Shelf Go.RowKit
noncomputable def gTn (I : List (BoxSt DF.τ) → List (A0 DF.τ) → Option (AV DF.τ × List (BoxSt DF.τ) × List Prop)) : Gam DF := [(softId, .fn fun _ => none), (8, .fn headCD), (16, .op [false] newQ), (11, .op [true] openOkQ),
  (17, .fn sgD), (18, .op [true, false] appOkQ), (12, .rd [true] I), (9, .op [false, true] mount1Q), (13, .rd [true] lastR), (22, .fn fmD), (23, .fn (sameD DF))]
noncomputable def gTn1 := gTn image1R
noncomputable def gTn0 := gTn imageR
def tnSn (sg : List (List Int)) (at_ to : Int) (ls : List Rec) (d : DkT) (i : Int) : Sn DF.τ where
  slots := [(0, .v (.one (.wordss .u8 sg))), (1, .v (.one (.int .i64 false at_))), (2, .v (.one (.int .u8 false to))), (7, .v (.one (.ref 1 0))), (8, .v (.one (.ref 0 0))), (10, .v (.one (.int .i64 false i)))]
  boxes := enumB 0 (chB ls false d)
  nt := 166
def tnEd (at_ to : Int) (d : DkT) : Sn DF.τ where
  slots := [(1, .v (.one (.int .i64 false at_))), (2, .v (.one (.int .u8 false to))), (7, .v (.one (.ref 0 0)))]
  boxes := enumB 0 (dkBt d)
  nt := 166
theorem tn_step (sg : List (List Int)) (at_ to : Int) (ls ls' : List Rec) (d d' : DkT) (i : Nat)
 (h1 : ((decide (((i : Nat) : Int) < (((List.length sg) : Nat) : Int))) = true))
 (h2 : ((decide (((i : Nat) : Int) < (20 : Int))) = true))
 (h3 : (InI64 (((i : Nat) : Int) + (1 : Int))))
 (h4 : ((0 : Int) ≤ ((i : Nat) : Int)))
 (h5 : (((i : Nat) : Int) < (((List.length sg) : Nat) : Int)))
 (h6 : ((List.length (List.getD sg (Int.toNat ((i : Nat) : Int)) ([] : List (Int)))) ≤ (140737488355328 : Nat)))
 (h7 : (ChOK (ls, (false, d))))
 (h8 : ((List.length (sigP (List.getD sg (Int.toNat ((i : Nat) : Int)) ([] : List (Int))))) = (96 : Nat)))
 (h9 : (((chAppM (ls, (false, d)) (((i : Nat) : Int) + (1 : Int)) (sigP (List.getD sg (Int.toNat ((i : Nat) : Int)) ([] : List (Int)))))).1 = (0 : Int)))
 (h10 : (((((chAppM (ls, (false, d)) (((i : Nat) : Int) + (1 : Int)) (sigP (List.getD sg (Int.toNat ((i : Nat) : Int)) ([] : List (Int)))))).2).2).1 = false))
 (h11 : ((((((chAppM (ls, (false, d)) (((i : Nat) : Int) + (1 : Int)) (sigP (List.getD sg (Int.toNat ((i : Nat) : Int)) ([] : List (Int)))))).2).2).2).1 = (d').1))
 (h12 : (((((((chAppM (ls, (false, d)) (((i : Nat) : Int) + (1 : Int)) (sigP (List.getD sg (Int.toNat ((i : Nat) : Int)) ([] : List (Int)))))).2).2).2).2).1 = ((d').2).1))
 (h13 : ((((((((chAppM (ls, (false, d)) (((i : Nat) : Int) + (1 : Int)) (sigP (List.getD sg (Int.toNat ((i : Nat) : Int)) ([] : List (Int)))))).2).2).2).2).2).1 = (((d').2).2).1))
 (h14 : (((((((((chAppM (ls, (false, d)) (((i : Nat) : Int) + (1 : Int)) (sigP (List.getD sg (Int.toNat ((i : Nat) : Int)) ([] : List (Int)))))).2).2).2).2).2).2).1 = ((((d').2).2).2).1))
 (h15 : ((((chAppM (ls, (false, d)) (((i : Nat) : Int) + (1 : Int)) (sigP (List.getD sg (Int.toNat ((i : Nat) : Int)) ([] : List (Int)))))).2).1 = ls'))
 (h16 : (((((((((chAppM (ls, (false, d)) (((i : Nat) : Int) + (1 : Int)) (sigP (List.getD sg (Int.toNat ((i : Nat) : Int)) ([] : List (Int)))))).2).2).2).2).2).2).2 = ((((d').2).2).2).2)) :
 ∃ ps, stepPs Tryd.prog DF gTn1 100 (bodyN Tryd.f6 0) 100 (tnSn sg at_ to ls d i).st [.is true, .is true, .is false] .normal (tnSn sg at_ to ls' d' ((i : Int) + 1)) = some ps ∧ AllQ ps := ⟨_, by kernel_rfl, qc h1 (qc h2 (qc h3 (qc h4 (qc h5 (qc h6 (qc (Eq.refl ((((i : Nat) : Int) + (1 : Int)))) (qc (Eq.refl ((sigP (List.getD sg (Int.toNat ((i : Nat) : Int)) ([] : List (Int)))))) (qc (Eq.refl false) (qc (Eq.refl ((d).1)) (qc (Eq.refl (((d).2).1)) (qc (Eq.refl ((((d).2).2).1)) (qc (Eq.refl (((((d).2).2).2).1)) (qc (Eq.refl ls) (qc (Eq.refl (((((d).2).2).2).2)) (qc h7 (qc h8 (qc h9 (qc (show (((0 : Int) != (0 : Int)) = false) from by decide) (qc h3 (qc (Eq.refl sg) (qc (Eq.refl at_) (qc (Eq.refl to) (qc (Eq.refl ((((i : Nat) : Int) + (1 : Int)))) (qc h10 (qc h11 (qc h12 (qc h13 (qc h14 (qc h15 (qc h16 (qn)))))))))))))))))))))))))))))))⟩
theorem tn_end (sg : List (List Int)) (at_ to : Int) (ls : List Rec) (d : DkT) (i : Nat)
 (h1 : ((decide (((i : Nat) : Int) < (((List.length sg) : Nat) : Int))) = false)) :
 ∃ ps, stepPs Tryd.prog DF gTn1 100 (bodyN Tryd.f6 0) 100 (tnSn sg at_ to ls d i).st [.is false] (.exit 0) (tnEd at_ to d) = some ps ∧ AllQ ps := ⟨_, by kernel_rfl, qc h1 (qc (Eq.refl at_) (qc (Eq.refl to) (qc (Eq.refl ((d).1)) (qc (Eq.refl (((d).2).1)) (qc (Eq.refl ((((d).2).2).1)) (qc (Eq.refl (((((d).2).2).2).1)) (qc (Eq.refl (((((d).2).2).2).2)) (qn))))))))⟩
theorem tn_twenty (sg : List (List Int)) (at_ to : Int) (ls : List Rec) (d : DkT) (i : Nat)
 (h1 : ((decide (((i : Nat) : Int) < (((List.length sg) : Nat) : Int))) = true))
 (h2 : ((decide (((i : Nat) : Int) < (20 : Int))) = false)) :
 ∃ ps, stepPs Tryd.prog DF gTn1 100 (bodyN Tryd.f6 0) 100 (tnSn sg at_ to ls d i).st [.is true, .is false] (.exit 0) (tnEd at_ to d) = some ps ∧ AllQ ps := ⟨_, by kernel_rfl, qc h1 (qc h2 (qc (Eq.refl at_) (qc (Eq.refl to) (qc (Eq.refl ((d).1)) (qc (Eq.refl (((d).2).1)) (qc (Eq.refl ((((d).2).2).1)) (qc (Eq.refl (((((d).2).2).2).1)) (qc (Eq.refl (((((d).2).2).2).2)) (qn)))))))))⟩
abbrev tnX (sg : List (List Int)) (at_ to : Int) : List (A0 DF.τ) := [.one (.wordss .u8 sg), .one (.int .i64 false at_), .one (.int .u8 false to)]
theorem tn_none (sg : List (List Int)) (at_ to : Int) (d : DkT)
 (h1 : (OkN ((clampR (4194304 : Int)), ((0 : Int), ((0 : Int), (false, ([] : List (Rec × Ob)))))) (4611686018427387000 : Int)))
 (h2 : (((openM ((clampR (4194304 : Int)), ((0 : Int), ((0 : Int), (false, ([] : List (Rec × Ob)))))))).1 = (0 : Int)))
 (h3 : SumOK Tryd.prog DF (bodyN Tryd.f6 0) (loopL DF (tnSn sg at_ to [] (4194304, 0, 0, false, []) 0) (.exit 0) (tnEd at_ to d)))
 (h4 : (((((openM ((clampR (4194304 : Int)), ((0 : Int), ((0 : Int), (false, ([] : List (Rec × Ob)))))))).2).2).1 = (4194304 : Int)))
 (h5 : ((((((openM ((clampR (4194304 : Int)), ((0 : Int), ((0 : Int), (false, ([] : List (Rec × Ob)))))))).2).2).2).1 = (0 : Int)))
 (h6 : (((((((openM ((clampR (4194304 : Int)), ((0 : Int), ((0 : Int), (false, ([] : List (Rec × Ob)))))))).2).2).2).2).1 = (0 : Int)))
 (h7 : ((((((((openM ((clampR (4194304 : Int)), ((0 : Int), ((0 : Int), (false, ([] : List (Rec × Ob)))))))).2).2).2).2).2).1 = false))
 (h8 : ((((openM ((clampR (4194304 : Int)), ((0 : Int), ((0 : Int), (false, ([] : List (Rec × Ob)))))))).2).1 = ([] : List (Rec))))
 (h9 : ((((((((openM ((clampR (4194304 : Int)), ((0 : Int), ((0 : Int), (false, ([] : List (Rec × Ob)))))))).2).2).2).2).2).2 = ([] : List (Rec × Ob))))
 (h10 : (Okd d))
 (h11 : (((((List.length (imageM ((((d).2).2).2).2)) : Nat) : Int) != (1 : Int)) = true)) :
 ∃ ps, runF Tryd.prog DF gTn0 100 Tryd.f6 (tnX sg at_ to) [.loop (loopL DF (tnSn sg at_ to [] (4194304, 0, 0, false, []) 0) (.exit 0) (tnEd at_ to d)), .is true] = some ((AV.v (A0.one (Part.bool true true))), ps) ∧ AllQ ps := ⟨_, by kernel_rfl, qc (Eq.refl ((4194304 : Int))) (qc (Eq.refl ((clampR (4194304 : Int)))) (qc (Eq.refl ((0 : Int))) (qc (Eq.refl ((0 : Int))) (qc (Eq.refl false) (qc (Eq.refl (([] : List (Rec × Ob)))) (qc h1 (qc h2 (qc h3 (qc (Eq.refl sg) (qc (Eq.refl at_) (qc (Eq.refl to) (qc (Eq.refl ((0 : Int))) (qc (Eq.refl false) (qc h4 (qc h5 (qc h6 (qc h7 (qc h8 (qc h9 (qc (Eq.refl ((d).1)) (qc (Eq.refl (((d).2).1)) (qc (Eq.refl ((((d).2).2).1)) (qc (Eq.refl (((((d).2).2).2).1)) (qc (Eq.refl (((((d).2).2).2).2)) (qc h10 (qc h11 (qn)))))))))))))))))))))))))))⟩
theorem tn_neg (sg : List (List Int)) (at_ to : Int) (d : DkT)
 (h1 : (OkN ((clampR (4194304 : Int)), ((0 : Int), ((0 : Int), (false, ([] : List (Rec × Ob)))))) (4611686018427387000 : Int)))
 (h2 : (((openM ((clampR (4194304 : Int)), ((0 : Int), ((0 : Int), (false, ([] : List (Rec × Ob)))))))).1 = (0 : Int)))
 (h3 : SumOK Tryd.prog DF (bodyN Tryd.f6 0) (loopL DF (tnSn sg at_ to [] (4194304, 0, 0, false, []) 0) (.exit 0) (tnEd at_ to d)))
 (h4 : (((((openM ((clampR (4194304 : Int)), ((0 : Int), ((0 : Int), (false, ([] : List (Rec × Ob)))))))).2).2).1 = (4194304 : Int)))
 (h5 : ((((((openM ((clampR (4194304 : Int)), ((0 : Int), ((0 : Int), (false, ([] : List (Rec × Ob)))))))).2).2).2).1 = (0 : Int)))
 (h6 : (((((((openM ((clampR (4194304 : Int)), ((0 : Int), ((0 : Int), (false, ([] : List (Rec × Ob)))))))).2).2).2).2).1 = (0 : Int)))
 (h7 : ((((((((openM ((clampR (4194304 : Int)), ((0 : Int), ((0 : Int), (false, ([] : List (Rec × Ob)))))))).2).2).2).2).2).1 = false))
 (h8 : ((((openM ((clampR (4194304 : Int)), ((0 : Int), ((0 : Int), (false, ([] : List (Rec × Ob)))))))).2).1 = ([] : List (Rec))))
 (h9 : ((((((((openM ((clampR (4194304 : Int)), ((0 : Int), ((0 : Int), (false, ([] : List (Rec × Ob)))))))).2).2).2).2).2).2 = ([] : List (Rec × Ob))))
 (h10 : (Okd d))
 (h11 : ((List.length (sortK ((((d).2).2).2).2)) = (1 : Nat)))
 (h12 : ((decide (at_ < (0 : Int))) = true)) :
 ∃ ps, runF Tryd.prog DF gTn1 100 Tryd.f6 (tnX sg at_ to) [.loop (loopL DF (tnSn sg at_ to [] (4194304, 0, 0, false, []) 0) (.exit 0) (tnEd at_ to d)), .is true] = some ((AV.v (A0.one (Part.bool true true))), ps) ∧ AllQ ps := ⟨_, by kernel_rfl, qc (Eq.refl ((4194304 : Int))) (qc (Eq.refl ((clampR (4194304 : Int)))) (qc (Eq.refl ((0 : Int))) (qc (Eq.refl ((0 : Int))) (qc (Eq.refl false) (qc (Eq.refl (([] : List (Rec × Ob)))) (qc h1 (qc h2 (qc h3 (qc (Eq.refl sg) (qc (Eq.refl at_) (qc (Eq.refl to) (qc (Eq.refl ((0 : Int))) (qc (Eq.refl false) (qc h4 (qc h5 (qc h6 (qc h7 (qc h8 (qc h9 (qc (Eq.refl ((d).1)) (qc (Eq.refl (((d).2).1)) (qc (Eq.refl ((((d).2).2).1)) (qc (Eq.refl (((((d).2).2).2).1)) (qc (Eq.refl (((((d).2).2).2).2)) (qc h10 (qc h11 (qc h12 (qn))))))))))))))))))))))))))))⟩
theorem tn_big (sg : List (List Int)) (at_ to : Int) (d : DkT)
 (h1 : (OkN ((clampR (4194304 : Int)), ((0 : Int), ((0 : Int), (false, ([] : List (Rec × Ob)))))) (4611686018427387000 : Int)))
 (h2 : (((openM ((clampR (4194304 : Int)), ((0 : Int), ((0 : Int), (false, ([] : List (Rec × Ob)))))))).1 = (0 : Int)))
 (h3 : SumOK Tryd.prog DF (bodyN Tryd.f6 0) (loopL DF (tnSn sg at_ to [] (4194304, 0, 0, false, []) 0) (.exit 0) (tnEd at_ to d)))
 (h4 : (((((openM ((clampR (4194304 : Int)), ((0 : Int), ((0 : Int), (false, ([] : List (Rec × Ob)))))))).2).2).1 = (4194304 : Int)))
 (h5 : ((((((openM ((clampR (4194304 : Int)), ((0 : Int), ((0 : Int), (false, ([] : List (Rec × Ob)))))))).2).2).2).1 = (0 : Int)))
 (h6 : (((((((openM ((clampR (4194304 : Int)), ((0 : Int), ((0 : Int), (false, ([] : List (Rec × Ob)))))))).2).2).2).2).1 = (0 : Int)))
 (h7 : ((((((((openM ((clampR (4194304 : Int)), ((0 : Int), ((0 : Int), (false, ([] : List (Rec × Ob)))))))).2).2).2).2).2).1 = false))
 (h8 : ((((openM ((clampR (4194304 : Int)), ((0 : Int), ((0 : Int), (false, ([] : List (Rec × Ob)))))))).2).1 = ([] : List (Rec))))
 (h9 : ((((((((openM ((clampR (4194304 : Int)), ((0 : Int), ((0 : Int), (false, ([] : List (Rec × Ob)))))))).2).2).2).2).2).2 = ([] : List (Rec × Ob))))
 (h10 : (Okd d))
 (h11 : ((List.length (sortK ((((d).2).2).2).2)) = (1 : Nat)))
 (h12 : ((decide (at_ < (0 : Int))) = false))
 (h13 : ((decide (at_ ≥ (((List.length (obD (obE ((((d).2).2).2).2 [(Fd.s (nm1 d))]))) : Nat) : Int))) = true)) :
 ∃ ps, runF Tryd.prog DF gTn1 100 Tryd.f6 (tnX sg at_ to) [.loop (loopL DF (tnSn sg at_ to [] (4194304, 0, 0, false, []) 0) (.exit 0) (tnEd at_ to d)), .is false, .is true] = some ((AV.v (A0.one (Part.bool true true))), ps) ∧ AllQ ps := ⟨_, by kernel_rfl, qc (Eq.refl ((4194304 : Int))) (qc (Eq.refl ((clampR (4194304 : Int)))) (qc (Eq.refl ((0 : Int))) (qc (Eq.refl ((0 : Int))) (qc (Eq.refl false) (qc (Eq.refl (([] : List (Rec × Ob)))) (qc h1 (qc h2 (qc h3 (qc (Eq.refl sg) (qc (Eq.refl at_) (qc (Eq.refl to) (qc (Eq.refl ((0 : Int))) (qc (Eq.refl false) (qc h4 (qc h5 (qc h6 (qc h7 (qc h8 (qc h9 (qc (Eq.refl ((d).1)) (qc (Eq.refl (((d).2).1)) (qc (Eq.refl ((((d).2).2).1)) (qc (Eq.refl (((((d).2).2).2).1)) (qc (Eq.refl (((((d).2).2).2).2)) (qc h10 (qc h11 (qc h12 (qc (Eq.refl ((0 : Int))) (qc h13 (qn))))))))))))))))))))))))))))))⟩
theorem tn_same (sg : List (List Int)) (at_ to : Int) (d : DkT)
 (h1 : (OkN ((clampR (4194304 : Int)), ((0 : Int), ((0 : Int), (false, ([] : List (Rec × Ob)))))) (4611686018427387000 : Int)))
 (h2 : (((openM ((clampR (4194304 : Int)), ((0 : Int), ((0 : Int), (false, ([] : List (Rec × Ob)))))))).1 = (0 : Int)))
 (h3 : SumOK Tryd.prog DF (bodyN Tryd.f6 0) (loopL DF (tnSn sg at_ to [] (4194304, 0, 0, false, []) 0) (.exit 0) (tnEd at_ to d)))
 (h4 : (((((openM ((clampR (4194304 : Int)), ((0 : Int), ((0 : Int), (false, ([] : List (Rec × Ob)))))))).2).2).1 = (4194304 : Int)))
 (h5 : ((((((openM ((clampR (4194304 : Int)), ((0 : Int), ((0 : Int), (false, ([] : List (Rec × Ob)))))))).2).2).2).1 = (0 : Int)))
 (h6 : (((((((openM ((clampR (4194304 : Int)), ((0 : Int), ((0 : Int), (false, ([] : List (Rec × Ob)))))))).2).2).2).2).1 = (0 : Int)))
 (h7 : ((((((((openM ((clampR (4194304 : Int)), ((0 : Int), ((0 : Int), (false, ([] : List (Rec × Ob)))))))).2).2).2).2).2).1 = false))
 (h8 : ((((openM ((clampR (4194304 : Int)), ((0 : Int), ((0 : Int), (false, ([] : List (Rec × Ob)))))))).2).1 = ([] : List (Rec))))
 (h9 : ((((((((openM ((clampR (4194304 : Int)), ((0 : Int), ((0 : Int), (false, ([] : List (Rec × Ob)))))))).2).2).2).2).2).2 = ([] : List (Rec × Ob))))
 (h10 : (Okd d))
 (h11 : ((List.length (sortK ((((d).2).2).2).2)) = (1 : Nat)))
 (h12 : ((decide (at_ < (0 : Int))) = false))
 (h13 : ((decide (at_ ≥ (((List.length (obD (obE ((((d).2).2).2).2 [(Fd.s (nm1 d))]))) : Nat) : Int))) = false))
 (h14 : ((0 : Int) ≤ at_))
 (h15 : (at_ < (((List.length (obD (obE ((((d).2).2).2).2 [(Fd.s (nm1 d))]))) : Nat) : Int)))
 (h16 : ((Int.toNat at_) < (List.length (obD (obE ((((d).2).2).2).2 [(Fd.s (nm1 d))])))))
 (h17 : (((List.getD (obD (obE ((((d).2).2).2).2 [(Fd.s (nm1 d))])) (Int.toNat at_) (0 : Int)) == to) = true)) :
 ∃ ps, runF Tryd.prog DF gTn1 100 Tryd.f6 (tnX sg at_ to) [.loop (loopL DF (tnSn sg at_ to [] (4194304, 0, 0, false, []) 0) (.exit 0) (tnEd at_ to d)), .is false, .is false, .is true] = some ((AV.v (A0.one (Part.bool true true))), ps) ∧ AllQ ps := ⟨_, by kernel_rfl, qc (Eq.refl ((4194304 : Int))) (qc (Eq.refl ((clampR (4194304 : Int)))) (qc (Eq.refl ((0 : Int))) (qc (Eq.refl ((0 : Int))) (qc (Eq.refl false) (qc (Eq.refl (([] : List (Rec × Ob)))) (qc h1 (qc h2 (qc h3 (qc (Eq.refl sg) (qc (Eq.refl at_) (qc (Eq.refl to) (qc (Eq.refl ((0 : Int))) (qc (Eq.refl false) (qc h4 (qc h5 (qc h6 (qc h7 (qc h8 (qc h9 (qc (Eq.refl ((d).1)) (qc (Eq.refl (((d).2).1)) (qc (Eq.refl ((((d).2).2).1)) (qc (Eq.refl (((((d).2).2).2).1)) (qc (Eq.refl (((((d).2).2).2).2)) (qc h10 (qc h11 (qc h12 (qc (Eq.refl ((0 : Int))) (qc h13 (qc (Eq.refl ((0 : Int))) (qc h14 (qc h15 (qc h16 (qc h17 (qn)))))))))))))))))))))))))))))))))))⟩
abbrev tn_sum_x1 (at_ to : Int) (d : DkT) := ((clampR (4194304 : Int)), ((0 : Int), ((0 : Int), (false, (one (nm1 d) (List.set (obD (obE ((((d).2).2).2).2 [(Fd.s (nm1 d))])) (Int.toNat at_) to) (obS (obE ((((d).2).2).2).2 [(Fd.s (nm1 d))])))))))
abbrev tn_sum_x2 (d : DkT) := (obE ((((d).2).2).2).2 [(Fd.s (nm1 d))])
abbrev tn_sum_x3  := ((openM ((clampR (4194304 : Int)), ((0 : Int), ((0 : Int), (false, ([] : List (Rec × Ob))))))))
theorem tn_sum (sg : List (List Int)) (at_ to : Int) (d : DkT)
 (h1 : (OkN ((clampR (4194304 : Int)), ((0 : Int), ((0 : Int), (false, ([] : List (Rec × Ob)))))) (4611686018427387000 : Int)))
 (h2 : ((tn_sum_x3 ).1 = (0 : Int)))
 (h3 : SumOK Tryd.prog DF (bodyN Tryd.f6 0) (loopL DF (tnSn sg at_ to [] (4194304, 0, 0, false, []) 0) (.exit 0) (tnEd at_ to d)))
 (h4 : ((((tn_sum_x3 ).2).2).1 = (4194304 : Int)))
 (h5 : (((((tn_sum_x3 ).2).2).2).1 = (0 : Int)))
 (h6 : ((((((tn_sum_x3 ).2).2).2).2).1 = (0 : Int)))
 (h7 : (((((((tn_sum_x3 ).2).2).2).2).2).1 = false))
 (h8 : (((tn_sum_x3 ).2).1 = ([] : List (Rec))))
 (h9 : (((((((tn_sum_x3 ).2).2).2).2).2).2 = ([] : List (Rec × Ob))))
 (h10 : (Okd d))
 (h11 : ((List.length (sortK ((((d).2).2).2).2)) = (1 : Nat)))
 (h12 : ((decide (at_ < (0 : Int))) = false))
 (h13 : ((decide (at_ ≥ (((List.length (obD (tn_sum_x2 d))) : Nat) : Int))) = false))
 (h14 : ((0 : Int) ≤ at_))
 (h15 : (at_ < (((List.length (obD (tn_sum_x2 d))) : Nat) : Int)))
 (h16 : ((Int.toNat at_) < (List.length (obD (tn_sum_x2 d)))))
 (h17 : (((List.getD (obD (tn_sum_x2 d)) (Int.toNat at_) (0 : Int)) == to) = false))
 (h18 : ((rightB (nm1 d)) = true))
 (h19 : ((0 : Int) ≤ (obS (tn_sum_x2 d))))
 (h20 : ((obS (tn_sum_x2 d)) ≤ (((List.length (List.set (obD (tn_sum_x2 d)) (Int.toNat at_) to)) : Nat) : Int)))
 (h21 : ((obS (tn_sum_x2 d)) ≤ (clampR (4194304 : Int))))
 (h22 : ((List.length (List.set (obD (tn_sum_x2 d)) (Int.toNat at_) to)) ≤ (140737488355328 : Nat)))
 (h23 : ((decide ((Int.tmod at_ (112 : Int)) ≥ (104 : Int))) = true))
 (h24 : (OkN (tn_sum_x1 at_ to d) (4611686018427387000 : Int)))
 (h25 : (((openM (tn_sum_x1 at_ to d))).1 = (0 : Int)))
 (h26 : (((((List.length (((openM (tn_sum_x1 at_ to d))).2).1) : Nat) : Int) == (Go.IntKind.wrap Go.IntKind.i64 (Int.tdiv at_ (112 : Int)))) = true)) :
 ∃ ps, runF Tryd.prog DF gTn1 100 Tryd.f6 (tnX sg at_ to) [.loop (loopL DF (tnSn sg at_ to [] (4194304, 0, 0, false, []) 0) (.exit 0) (tnEd at_ to d)), .is false, .is false, .is false, .is true, .is true] = some ((AV.v (A0.one (Part.bool true true))), ps) ∧ AllQ ps := ⟨_, by kernel_rfl, qc (Eq.refl ((4194304 : Int))) (qc (Eq.refl ((clampR (4194304 : Int)))) (qc (Eq.refl ((0 : Int))) (qc (Eq.refl ((0 : Int))) (qc (Eq.refl false) (qc (Eq.refl (([] : List (Rec × Ob)))) (qc h1 (qc h2 (qc h3 (qc (Eq.refl sg) (qc (Eq.refl at_) (qc (Eq.refl to) (qc (Eq.refl ((0 : Int))) (qc (Eq.refl false) (qc h4 (qc h5 (qc h6 (qc h7 (qc h8 (qc h9 (qc (Eq.refl ((d).1)) (qc (Eq.refl (((d).2).1)) (qc (Eq.refl ((((d).2).2).1)) (qc (Eq.refl (((((d).2).2).2).1)) (qc (Eq.refl (((((d).2).2).2).2)) (qc h10 (qc h11 (qc h12 (qc (Eq.refl ((0 : Int))) (qc h13 (qc (Eq.refl ((0 : Int))) (qc h14 (qc h15 (qc h16 (qc h17 (qc (Eq.refl ((0 : Int))) (qc h14 (qc h15 (qc h16 (qc (Eq.refl ((some (1 : Nat)))) (qc (Eq.refl ((4194304 : Int))) (qc (Eq.refl ((nm1 d))) (qc (Eq.refl ((obS (tn_sum_x2 d)))) (qc (Eq.refl ((List.set (obD (tn_sum_x2 d)) (Int.toNat at_) to))) (qc h18 (qc h19 (qc h20 (qc h21 (qc h22 (qc h23 (qc (Eq.refl ((clampR (4194304 : Int)))) (qc (Eq.refl ((0 : Int))) (qc (Eq.refl ((0 : Int))) (qc (Eq.refl false) (qc (Eq.refl ((one (nm1 d) (List.set (obD (tn_sum_x2 d)) (Int.toNat at_) to) (obS (tn_sum_x2 d))))) (qc h24 (qc h25 (qc (Eq.refl false) (qc (Eq.refl (((((openM (tn_sum_x1 at_ to d))).2).2).1)) (qc (Eq.refl ((((((openM (tn_sum_x1 at_ to d))).2).2).2).1)) (qc (Eq.refl (((((((openM (tn_sum_x1 at_ to d))).2).2).2).2).1)) (qc (Eq.refl ((((((((openM (tn_sum_x1 at_ to d))).2).2).2).2).2).1)) (qc (Eq.refl ((((openM (tn_sum_x1 at_ to d))).2).1)) (qc (Eq.refl ((((((((openM (tn_sum_x1 at_ to d))).2).2).2).2).2).2)) (qc (show ((112 : Int) ≠ (0 : Int)) from by decide) (qc h26 (qn))))))))))))))))))))))))))))))))))))))))))))))))))))))))))))))))))⟩
abbrev tn_hit_x1 (d : DkT) := (obE ((((d).2).2).2).2 [(Fd.s (nm1 d))])
abbrev tn_hit_x2 (at_ to : Int) (d : DkT) := (List.take ((Int.toNat ((at_ - (Int.tmod at_ (112 : Int))) + (104 : Int))) - (Int.toNat ((at_ - (Int.tmod at_ (112 : Int))) + (8 : Int)))) (List.drop (Int.toNat ((at_ - (Int.tmod at_ (112 : Int))) + (8 : Int))) (List.set (obD (tn_hit_x1 d)) (Int.toNat at_) to)))
abbrev tn_hit_x3  := ((openM ((clampR (4194304 : Int)), ((0 : Int), ((0 : Int), (false, ([] : List (Rec × Ob))))))))
theorem tn_hit (sg : List (List Int)) (at_ to : Int) (d : DkT)
 (h1 : (OkN ((clampR (4194304 : Int)), ((0 : Int), ((0 : Int), (false, ([] : List (Rec × Ob)))))) (4611686018427387000 : Int)))
 (h2 : ((tn_hit_x3 ).1 = (0 : Int)))
 (h3 : SumOK Tryd.prog DF (bodyN Tryd.f6 0) (loopL DF (tnSn sg at_ to [] (4194304, 0, 0, false, []) 0) (.exit 0) (tnEd at_ to d)))
 (h4 : ((((tn_hit_x3 ).2).2).1 = (4194304 : Int)))
 (h5 : (((((tn_hit_x3 ).2).2).2).1 = (0 : Int)))
 (h6 : ((((((tn_hit_x3 ).2).2).2).2).1 = (0 : Int)))
 (h7 : (((((((tn_hit_x3 ).2).2).2).2).2).1 = false))
 (h8 : (((tn_hit_x3 ).2).1 = ([] : List (Rec))))
 (h9 : (((((((tn_hit_x3 ).2).2).2).2).2).2 = ([] : List (Rec × Ob))))
 (h10 : (Okd d))
 (h11 : ((List.length (sortK ((((d).2).2).2).2)) = (1 : Nat)))
 (h12 : ((decide (at_ < (0 : Int))) = false))
 (h13 : ((decide (at_ ≥ (((List.length (obD (tn_hit_x1 d))) : Nat) : Int))) = false))
 (h14 : ((0 : Int) ≤ at_))
 (h15 : (at_ < (((List.length (obD (tn_hit_x1 d))) : Nat) : Int)))
 (h16 : ((Int.toNat at_) < (List.length (obD (tn_hit_x1 d)))))
 (h17 : (((List.getD (obD (tn_hit_x1 d)) (Int.toNat at_) (0 : Int)) == to) = false))
 (h18 : ((rightB (nm1 d)) = true))
 (h19 : ((0 : Int) ≤ (obS (tn_hit_x1 d))))
 (h20 : ((obS (tn_hit_x1 d)) ≤ (((List.length (List.set (obD (tn_hit_x1 d)) (Int.toNat at_) to)) : Nat) : Int)))
 (h21 : ((obS (tn_hit_x1 d)) ≤ (clampR (4194304 : Int))))
 (h22 : ((List.length (List.set (obD (tn_hit_x1 d)) (Int.toNat at_) to)) ≤ (140737488355328 : Nat)))
 (h23 : ((decide ((Int.tmod at_ (112 : Int)) ≥ (104 : Int))) = false))
 (h24 : (InI64 ((Go.IntKind.wrap Go.IntKind.i64 (Int.tdiv at_ (112 : Int))) + (1 : Int))))
 (h25 : (InI64 (at_ - (Int.tmod at_ (112 : Int)))))
 (h26 : (InI64 ((at_ - (Int.tmod at_ (112 : Int))) + (8 : Int))))
 (h27 : (InI64 ((at_ - (Int.tmod at_ (112 : Int))) + (104 : Int))))
 (h28 : ((0 : Nat) < (List.length (List.set (obD (tn_hit_x1 d)) (Int.toNat at_) to))))
 (h29 : ((0 : Int) ≤ ((at_ - (Int.tmod at_ (112 : Int))) + (8 : Int))))
 (h30 : (((at_ - (Int.tmod at_ (112 : Int))) + (8 : Int)) ≤ ((at_ - (Int.tmod at_ (112 : Int))) + (104 : Int))))
 (h31 : (((at_ - (Int.tmod at_ (112 : Int))) + (104 : Int)) ≤ (((List.length (List.set (obD (tn_hit_x1 d)) (Int.toNat at_) to)) : Nat) : Int)))
 (h32 : (((at_ - (Int.tmod at_ (112 : Int))) + (8 : Int)) < (((List.length (List.set (obD (tn_hit_x1 d)) (Int.toNat at_) to)) : Nat) : Int)))
 (h33 : ((List.length (tn_hit_x2 at_ to d)) ≤ (140737488355328 : Nat)))
 (h34 : ((List.length (sigP (tn_hit_x2 at_ to d))) = (96 : Nat)))
 (h35 : (InB (sigP (tn_hit_x2 at_ to d))))
 (h36 : (OkN ((clampR (4194304 : Int)), ((0 : Int), ((0 : Int), (false, (one (nm1 d) (List.set (obD (tn_hit_x1 d)) (Int.toNat at_) to) (obS (tn_hit_x1 d))))))) (4611686018427387000 : Int)))
 (h37 : (((openM ((clampR (4194304 : Int)), ((0 : Int), ((0 : Int), (false, (one (nm1 d) (List.set (obD (tn_hit_x1 d)) (Int.toNat at_) to) (obS (tn_hit_x1 d))))))))).1 = (0 : Int)))
 (h38 : (InI64 ((at_ - (Int.tmod at_ (112 : Int))) + (112 : Int))))
 (h39 : ((0 : Int) ≤ (at_ - (Int.tmod at_ (112 : Int)))))
 (h40 : ((at_ - (Int.tmod at_ (112 : Int))) ≤ ((at_ - (Int.tmod at_ (112 : Int))) + (112 : Int))))
 (h41 : (((at_ - (Int.tmod at_ (112 : Int))) + (112 : Int)) ≤ (((List.length (List.set (obD (tn_hit_x1 d)) (Int.toNat at_) to)) : Nat) : Int)))
 (h42 : ((at_ - (Int.tmod at_ (112 : Int))) < (((List.length (List.set (obD (tn_hit_x1 d)) (Int.toNat at_) to)) : Nat) : Int)))
 (h43 : ((decide ((frameL ((Go.IntKind.wrap Go.IntKind.i64 (Int.tdiv at_ (112 : Int))) + (1 : Int)) (sigP (tn_hit_x2 at_ to d))) = (List.take ((Int.toNat ((at_ - (Int.tmod at_ (112 : Int))) + (112 : Int))) - (Int.toNat (at_ - (Int.tmod at_ (112 : Int))))) (List.drop (Int.toNat (at_ - (Int.tmod at_ (112 : Int)))) (List.set (obD (tn_hit_x1 d)) (Int.toNat at_) to))))) = true))
 (h44 : ((List.length (frameL ((Go.IntKind.wrap Go.IntKind.i64 (Int.tdiv at_ (112 : Int))) + (1 : Int)) (sigP (tn_hit_x2 at_ to d)))) ≤ (9223372036854775807 : Nat)))
 (h45 : ((List.length (List.take ((Int.toNat ((at_ - (Int.tmod at_ (112 : Int))) + (112 : Int))) - (Int.toNat (at_ - (Int.tmod at_ (112 : Int))))) (List.drop (Int.toNat (at_ - (Int.tmod at_ (112 : Int)))) (List.set (obD (tn_hit_x1 d)) (Int.toNat at_) to)))) ≤ (9223372036854775807 : Nat))) :
 ∃ ps, runF Tryd.prog DF gTn1 100 Tryd.f6 (tnX sg at_ to) [.loop (loopL DF (tnSn sg at_ to [] (4194304, 0, 0, false, []) 0) (.exit 0) (tnEd at_ to d)), .is false, .is false, .is false, .is false, .is true] = some ((AV.v (A0.one (Part.bool true true))), ps) ∧ AllQ ps := ⟨_, by kernel_rfl, qc (Eq.refl ((4194304 : Int))) (qc (Eq.refl ((clampR (4194304 : Int)))) (qc (Eq.refl ((0 : Int))) (qc (Eq.refl ((0 : Int))) (qc (Eq.refl false) (qc (Eq.refl (([] : List (Rec × Ob)))) (qc h1 (qc h2 (qc h3 (qc (Eq.refl sg) (qc (Eq.refl at_) (qc (Eq.refl to) (qc (Eq.refl ((0 : Int))) (qc (Eq.refl false) (qc h4 (qc h5 (qc h6 (qc h7 (qc h8 (qc h9 (qc (Eq.refl ((d).1)) (qc (Eq.refl (((d).2).1)) (qc (Eq.refl ((((d).2).2).1)) (qc (Eq.refl (((((d).2).2).2).1)) (qc (Eq.refl (((((d).2).2).2).2)) (qc h10 (qc h11 (qc h12 (qc (Eq.refl ((0 : Int))) (qc h13 (qc (Eq.refl ((0 : Int))) (qc h14 (qc h15 (qc h16 (qc h17 (qc (Eq.refl ((0 : Int))) (qc h14 (qc h15 (qc h16 (qc (Eq.refl ((some (1 : Nat)))) (qc (Eq.refl ((4194304 : Int))) (qc (Eq.refl ((nm1 d))) (qc (Eq.refl ((obS (tn_hit_x1 d)))) (qc (Eq.refl ((List.set (obD (tn_hit_x1 d)) (Int.toNat at_) to))) (qc h18 (qc h19 (qc h20 (qc h21 (qc h22 (qc h23 (qc (show ((112 : Int) ≠ (0 : Int)) from by decide) (qc h24 (qc (Eq.refl ((0 : Int))) (qc h25 (qc h26 (qc h25 (qc h27 (qc h28 (qc h29 (qc h30 (qc h31 (qc h32 (qc h33 (qc h34 (qc h35 (qc (Eq.refl ((clampR (4194304 : Int)))) (qc (Eq.refl ((0 : Int))) (qc (Eq.refl ((0 : Int))) (qc (Eq.refl false) (qc (Eq.refl ((one (nm1 d) (List.set (obD (tn_hit_x1 d)) (Int.toNat at_) to) (obS (tn_hit_x1 d))))) (qc h36 (qc h37 (qc (Eq.refl ((0 : Int))) (qc h25 (qc h25 (qc h38 (qc h28 (qc h39 (qc h40 (qc h41 (qc h42 (qc h43 (qc h44 (qc h45 (qn))))))))))))))))))))))))))))))))))))))))))))))))))))))))))))))))))))))))))))))))))))⟩
abbrev tn_go_x1 (at_ to : Int) (d : DkT) := ((openM ((clampR (4194304 : Int)), ((0 : Int), ((0 : Int), (false, (one (nm1 d) (List.set (obD (obE ((((d).2).2).2).2 [(Fd.s (nm1 d))])) (Int.toNat at_) to) (obS (obE ((((d).2).2).2).2 [(Fd.s (nm1 d))])))))))))
abbrev tn_go_x2  := ([(0 : Int), (0 : Int), (0 : Int), (0 : Int), (0 : Int), (0 : Int), (0 : Int), (0 : Int), (0 : Int), (0 : Int), (0 : Int), (0 : Int), (0 : Int), (0 : Int), (0 : Int), (0 : Int), (0 : Int), (0 : Int), (0 : Int), (0 : Int), (0 : Int), (0 : Int), (0 : Int), (0 : Int), (0 : Int), (0 : Int), (0 : Int), (0 : Int), (0 : Int), (0 : Int), (0 : Int), (0 : Int), (0 : Int), (0 : Int), (0 : Int), (0 : Int), (0 : Int), (0 : Int), (0 : Int), (0 : Int), (0 : Int), (0 : Int), (0 : Int), (0 : Int), (0 : Int), (0 : Int), (0 : Int), (0 : Int), (0 : Int), (0 : Int), (0 : Int), (0 : Int), (0 : Int), (0 : Int), (0 : Int), (0 : Int), (0 : Int), (0 : Int), (0 : Int), (0 : Int), (0 : Int), (0 : Int), (0 : Int), (0 : Int), (0 : Int), (0 : Int), (0 : Int), (0 : Int), (0 : Int), (0 : Int), (0 : Int), (0 : Int), (0 : Int), (0 : Int), (0 : Int), (0 : Int), (0 : Int), (0 : Int), (0 : Int), (0 : Int), (0 : Int), (0 : Int), (0 : Int), (0 : Int), (0 : Int), (0 : Int), (0 : Int), (0 : Int), (0 : Int), (0 : Int), (0 : Int), (0 : Int), (0 : Int), (0 : Int), (0 : Int), (0 : Int)] : List Int)
abbrev tn_go_x3 (d : DkT) := (obE ((((d).2).2).2).2 [(Fd.s (nm1 d))])
abbrev tn_go_x4 (at_ to : Int) (d : DkT) := (List.take ((Int.toNat ((at_ - (Int.tmod at_ (112 : Int))) + (104 : Int))) - (Int.toNat ((at_ - (Int.tmod at_ (112 : Int))) + (8 : Int)))) (List.drop (Int.toNat ((at_ - (Int.tmod at_ (112 : Int))) + (8 : Int))) (List.set (obD (tn_go_x3 d)) (Int.toNat at_) to)))
abbrev tn_go_x5  := ((openM ((clampR (4194304 : Int)), ((0 : Int), ((0 : Int), (false, ([] : List (Rec × Ob))))))))
theorem tn_go (sg : List (List Int)) (at_ to : Int) (d : DkT)
 (h1 : (OkN ((clampR (4194304 : Int)), ((0 : Int), ((0 : Int), (false, ([] : List (Rec × Ob)))))) (4611686018427387000 : Int)))
 (h2 : ((tn_go_x5 ).1 = (0 : Int)))
 (h3 : SumOK Tryd.prog DF (bodyN Tryd.f6 0) (loopL DF (tnSn sg at_ to [] (4194304, 0, 0, false, []) 0) (.exit 0) (tnEd at_ to d)))
 (h4 : ((((tn_go_x5 ).2).2).1 = (4194304 : Int)))
 (h5 : (((((tn_go_x5 ).2).2).2).1 = (0 : Int)))
 (h6 : ((((((tn_go_x5 ).2).2).2).2).1 = (0 : Int)))
 (h7 : (((((((tn_go_x5 ).2).2).2).2).2).1 = false))
 (h8 : (((tn_go_x5 ).2).1 = ([] : List (Rec))))
 (h9 : (((((((tn_go_x5 ).2).2).2).2).2).2 = ([] : List (Rec × Ob))))
 (h10 : (Okd d))
 (h11 : ((List.length (sortK ((((d).2).2).2).2)) = (1 : Nat)))
 (h12 : ((decide (at_ < (0 : Int))) = false))
 (h13 : ((decide (at_ ≥ (((List.length (obD (tn_go_x3 d))) : Nat) : Int))) = false))
 (h14 : ((0 : Int) ≤ at_))
 (h15 : (at_ < (((List.length (obD (tn_go_x3 d))) : Nat) : Int)))
 (h16 : ((Int.toNat at_) < (List.length (obD (tn_go_x3 d)))))
 (h17 : (((List.getD (obD (tn_go_x3 d)) (Int.toNat at_) (0 : Int)) == to) = false))
 (h18 : ((rightB (nm1 d)) = true))
 (h19 : ((0 : Int) ≤ (obS (tn_go_x3 d))))
 (h20 : ((obS (tn_go_x3 d)) ≤ (((List.length (List.set (obD (tn_go_x3 d)) (Int.toNat at_) to)) : Nat) : Int)))
 (h21 : ((obS (tn_go_x3 d)) ≤ (clampR (4194304 : Int))))
 (h22 : ((List.length (List.set (obD (tn_go_x3 d)) (Int.toNat at_) to)) ≤ (140737488355328 : Nat)))
 (h23 : ((decide ((Int.tmod at_ (112 : Int)) ≥ (104 : Int))) = false))
 (h24 : (InI64 ((Go.IntKind.wrap Go.IntKind.i64 (Int.tdiv at_ (112 : Int))) + (1 : Int))))
 (h25 : (InI64 (at_ - (Int.tmod at_ (112 : Int)))))
 (h26 : (InI64 ((at_ - (Int.tmod at_ (112 : Int))) + (8 : Int))))
 (h27 : (InI64 ((at_ - (Int.tmod at_ (112 : Int))) + (104 : Int))))
 (h28 : ((0 : Nat) < (List.length (List.set (obD (tn_go_x3 d)) (Int.toNat at_) to))))
 (h29 : ((0 : Int) ≤ ((at_ - (Int.tmod at_ (112 : Int))) + (8 : Int))))
 (h30 : (((at_ - (Int.tmod at_ (112 : Int))) + (8 : Int)) ≤ ((at_ - (Int.tmod at_ (112 : Int))) + (104 : Int))))
 (h31 : (((at_ - (Int.tmod at_ (112 : Int))) + (104 : Int)) ≤ (((List.length (List.set (obD (tn_go_x3 d)) (Int.toNat at_) to)) : Nat) : Int)))
 (h32 : (((at_ - (Int.tmod at_ (112 : Int))) + (8 : Int)) < (((List.length (List.set (obD (tn_go_x3 d)) (Int.toNat at_) to)) : Nat) : Int)))
 (h33 : ((List.length (tn_go_x4 at_ to d)) ≤ (140737488355328 : Nat)))
 (h34 : ((List.length (sigP (tn_go_x4 at_ to d))) = (96 : Nat)))
 (h35 : (InB (sigP (tn_go_x4 at_ to d))))
 (h36 : (OkN ((clampR (4194304 : Int)), ((0 : Int), ((0 : Int), (false, (one (nm1 d) (List.set (obD (tn_go_x3 d)) (Int.toNat at_) to) (obS (tn_go_x3 d))))))) (4611686018427387000 : Int)))
 (h37 : ((tn_go_x1 at_ to d).1 = (0 : Int)))
 (h38 : (InI64 ((at_ - (Int.tmod at_ (112 : Int))) + (112 : Int))))
 (h39 : ((0 : Int) ≤ (at_ - (Int.tmod at_ (112 : Int)))))
 (h40 : ((at_ - (Int.tmod at_ (112 : Int))) ≤ ((at_ - (Int.tmod at_ (112 : Int))) + (112 : Int))))
 (h41 : (((at_ - (Int.tmod at_ (112 : Int))) + (112 : Int)) ≤ (((List.length (List.set (obD (tn_go_x3 d)) (Int.toNat at_) to)) : Nat) : Int)))
 (h42 : ((at_ - (Int.tmod at_ (112 : Int))) < (((List.length (List.set (obD (tn_go_x3 d)) (Int.toNat at_) to)) : Nat) : Int)))
 (h43 : ((decide ((frameL ((Go.IntKind.wrap Go.IntKind.i64 (Int.tdiv at_ (112 : Int))) + (1 : Int)) (sigP (tn_go_x4 at_ to d))) = (List.take ((Int.toNat ((at_ - (Int.tmod at_ (112 : Int))) + (112 : Int))) - (Int.toNat (at_ - (Int.tmod at_ (112 : Int))))) (List.drop (Int.toNat (at_ - (Int.tmod at_ (112 : Int)))) (List.set (obD (tn_go_x3 d)) (Int.toNat at_) to))))) = false))
 (h44 : ((List.length (frameL ((Go.IntKind.wrap Go.IntKind.i64 (Int.tdiv at_ (112 : Int))) + (1 : Int)) (sigP (tn_go_x4 at_ to d)))) ≤ (9223372036854775807 : Nat)))
 (h45 : ((List.length (List.take ((Int.toNat ((at_ - (Int.tmod at_ (112 : Int))) + (112 : Int))) - (Int.toNat (at_ - (Int.tmod at_ (112 : Int))))) (List.drop (Int.toNat (at_ - (Int.tmod at_ (112 : Int)))) (List.set (obD (tn_go_x3 d)) (Int.toNat at_) to)))) ≤ (9223372036854775807 : Nat)))
 (h46 : (((((List.length ((tn_go_x1 at_ to d).2).1) : Nat) : Int) == (Go.IntKind.wrap Go.IntKind.i64 (Int.tdiv at_ (112 : Int)))) = true))
 (h47 : (InI64 ((((List.length ((tn_go_x1 at_ to d).2).1) : Nat) : Int) + (1 : Int))))
 (h48 : (ChOK (((tn_go_x1 at_ to d).2).1, (false, ((tn_go_x1 at_ to d).2).2))))
 (h49 : (((chAppM (((tn_go_x1 at_ to d).2).1, (false, ((tn_go_x1 at_ to d).2).2)) ((((List.length ((tn_go_x1 at_ to d).2).1) : Nat) : Int) + (1 : Int)) (tn_go_x2 ))).1 = (0 : Int))) :
 ∃ ps, runF Tryd.prog DF gTn1 100 Tryd.f6 (tnX sg at_ to) [.loop (loopL DF (tnSn sg at_ to [] (4194304, 0, 0, false, []) 0) (.exit 0) (tnEd at_ to d)), .is false, .is false, .is false, .is false, .is false, .is true, .is true] = some ((AV.v (A0.one (Part.bool true true))), ps) ∧ AllQ ps := ⟨_, by kernel_rfl, qc (Eq.refl ((4194304 : Int))) (qc (Eq.refl ((clampR (4194304 : Int)))) (qc (Eq.refl ((0 : Int))) (qc (Eq.refl ((0 : Int))) (qc (Eq.refl false) (qc (Eq.refl (([] : List (Rec × Ob)))) (qc h1 (qc h2 (qc h3 (qc (Eq.refl sg) (qc (Eq.refl at_) (qc (Eq.refl to) (qc (Eq.refl ((0 : Int))) (qc (Eq.refl false) (qc h4 (qc h5 (qc h6 (qc h7 (qc h8 (qc h9 (qc (Eq.refl ((d).1)) (qc (Eq.refl (((d).2).1)) (qc (Eq.refl ((((d).2).2).1)) (qc (Eq.refl (((((d).2).2).2).1)) (qc (Eq.refl (((((d).2).2).2).2)) (qc h10 (qc h11 (qc h12 (qc (Eq.refl ((0 : Int))) (qc h13 (qc (Eq.refl ((0 : Int))) (qc h14 (qc h15 (qc h16 (qc h17 (qc (Eq.refl ((0 : Int))) (qc h14 (qc h15 (qc h16 (qc (Eq.refl ((some (1 : Nat)))) (qc (Eq.refl ((4194304 : Int))) (qc (Eq.refl ((nm1 d))) (qc (Eq.refl ((obS (tn_go_x3 d)))) (qc (Eq.refl ((List.set (obD (tn_go_x3 d)) (Int.toNat at_) to))) (qc h18 (qc h19 (qc h20 (qc h21 (qc h22 (qc h23 (qc (show ((112 : Int) ≠ (0 : Int)) from by decide) (qc h24 (qc (Eq.refl ((0 : Int))) (qc h25 (qc h26 (qc h25 (qc h27 (qc h28 (qc h29 (qc h30 (qc h31 (qc h32 (qc h33 (qc h34 (qc h35 (qc (Eq.refl ((clampR (4194304 : Int)))) (qc (Eq.refl ((0 : Int))) (qc (Eq.refl ((0 : Int))) (qc (Eq.refl false) (qc (Eq.refl ((one (nm1 d) (List.set (obD (tn_go_x3 d)) (Int.toNat at_) to) (obS (tn_go_x3 d))))) (qc h36 (qc h37 (qc (Eq.refl ((0 : Int))) (qc h25 (qc h25 (qc h38 (qc h28 (qc h39 (qc h40 (qc h41 (qc h42 (qc h43 (qc h44 (qc h45 (qc (Eq.refl false) (qc (Eq.refl ((((tn_go_x1 at_ to d).2).2).1)) (qc (Eq.refl (((((tn_go_x1 at_ to d).2).2).2).1)) (qc (Eq.refl ((((((tn_go_x1 at_ to d).2).2).2).2).1)) (qc (Eq.refl (((((((tn_go_x1 at_ to d).2).2).2).2).2).1)) (qc (Eq.refl (((tn_go_x1 at_ to d).2).1)) (qc (Eq.refl (((((((tn_go_x1 at_ to d).2).2).2).2).2).2)) (qc (show ((112 : Int) ≠ (0 : Int)) from by decide) (qc h46 (qc (Eq.refl false) (qc (Eq.refl ((((tn_go_x1 at_ to d).2).2).1)) (qc (Eq.refl (((((tn_go_x1 at_ to d).2).2).2).1)) (qc (Eq.refl ((((((tn_go_x1 at_ to d).2).2).2).2).1)) (qc (Eq.refl (((((((tn_go_x1 at_ to d).2).2).2).2).2).1)) (qc (Eq.refl (((tn_go_x1 at_ to d).2).1)) (qc (Eq.refl (((((((tn_go_x1 at_ to d).2).2).2).2).2).2)) (qc h47 (qc (Eq.refl (((((List.length ((tn_go_x1 at_ to d).2).1) : Nat) : Int) + (1 : Int)))) (qc (Eq.refl ((tn_go_x2 ))) (qc (Eq.refl false) (qc (Eq.refl ((((tn_go_x1 at_ to d).2).2).1)) (qc (Eq.refl (((((tn_go_x1 at_ to d).2).2).2).1)) (qc (Eq.refl ((((((tn_go_x1 at_ to d).2).2).2).2).1)) (qc (Eq.refl (((((((tn_go_x1 at_ to d).2).2).2).2).2).1)) (qc (Eq.refl (((tn_go_x1 at_ to d).2).1)) (qc (Eq.refl (((((((tn_go_x1 at_ to d).2).2).2).2).2).2)) (qc h48 (qc (show ((96 : Nat) = (96 : Nat)) from by decide) (qc h49 (qc (show (((0 : Int) == (0 : Int)) = true) from by decide) (qn))))))))))))))))))))))))))))))))))))))))))))))))))))))))))))))))))))))))))))))))))))))))))))))))))))))))))))))))))⟩
end Go.Num
namespace Go.Num
open Go.Abs Go.Proofs Go.Shelf Go.RowKit
theorem gTn_ok {I} (h : OpOK Tryd.prog DF 12 (withNew I)) : GamOK Tryd.prog DF (gTn I) :=
  gam_soft (gam_cons chead_ok (gam_op new_ok (gam_op openOk_ok (gam_cons sg_ok (gam_op appOk_ok (gam_rd h (gam_op mount1_ok (gam_rd last_ok (gam_cons fm_ok (gam_cons (same_ok DF) gam_nil))))))))))
theorem gTn1_ok : GamOK Tryd.prog DF gTn1 := gTn_ok image1_ok
theorem gTn0_ok : GamOK Tryd.prog DF gTn0 := gTn_ok image_ok
def tnNx (sg : List (List Int)) (z : KeT) : Option KeT :=
  if z.1 < sg.length ∧ z.1 < 20 then some (z.1 + 1, z.2.1 ++ [sigP (sg.getD z.1 [])], (keR sg z).2.2.2) else none
structure TnI (z : KeT) : Prop where
  d : ∃ st es, z.2.2 = (4194304, st, 0, false, es) ∧ Only es (catF 0 z.2.1)
  ok : OkN z.2.2 (3 * z.1)
  sig : ∀ s ∈ z.2.1, SigOK s ∧ InB s
  len : z.2.1.length = z.1
  twenty : z.1 ≤ 20
theorem TnI.gr {z : KeT} (h : TnI z) : GrI z := ⟨h.d, h.ok, fun s hs => (h.sig s hs).1, Nat.le_of_eq h.len, by have := h.twenty; omega⟩
theorem tn_inv {sg : List (List Int)} (hsg : ∀ l ∈ sg, InB l) {z y : KeT} (h : TnI z) (hn : tnNx sg z = some y) : TnI y ∧ y.1 = z.1 + 1 := by
  unfold tnNx at hn
  split at hn
  · rename_i c
    cases hn
    obtain ⟨st', hr, _⟩ := gr_round (sg := sg) h.gr (by omega)
    refine ⟨⟨⟨st', _, by rw [hr], .inr rfl⟩, gr_nxt h.gr, ?_, ?_, c.2⟩, rfl⟩
    · intro s hs
      rcases List.mem_append.1 hs with hs | hs
      · exact h.sig s hs
      · rw [List.mem_singleton.1 hs]
        refine ⟨sigP_len _, sigP_inB ?_⟩
        rw [List.getD_eq_getElem?_getD, List.getElem?_eq_getElem c.1]
        exact hsg _ (List.getElem_mem _)
    · show (z.2.1 ++ [_]).length = z.1 + 1
      rw [List.length_append, h.len]
      rfl
  · cases hn
def tnGo (sg : List (List Int)) : KeT := goOn (tnNx sg) 20 gr0
theorem tn_start : TnI gr0 := ⟨⟨0, [], rfl, .inl ⟨rfl, rfl⟩⟩, ⟨okd_new 4194304, Int.le_refl _⟩, fun s hs => (List.not_mem_nil hs).elim, rfl, show 0 ≤ 20 by decide⟩
theorem tn_loop (sg : List (List Int)) (at_ to : Int) (hsg : ∀ l ∈ sg, InB l ∧ l.length ≤ 140737488351232) :
    SumOK Tryd.prog DF (bodyN Tryd.f6 0) (loopL DF (tnSn sg at_ to [] (4194304, 0, 0, false, []) 0) (.exit 0) (tnEd at_ to (tnGo sg).2.2)) := by
  have hsl : ∀ i, (sg.getD i []).length ≤ 140737488355328 := fun i => by
    rw [List.getD_eq_getElem?_getD]
    cases hg : sg[i]? with
    | none => exact Nat.zero_le _
    | some l => have := (hsg l (List.mem_of_getElem? hg)).2; show l.length ≤ _; omega
  have h := sum_whileG (P := Tryd.prog) (D := DF) mixed (c := bodyN Tryd.f6 0) (fun z : KeT => tnSn sg at_ to (lnF 0 z.2.1) z.2.2 z.1) (tnNx sg) TnI (fun z => 20 - z.1) (e := .exit 0)
    (s := tnEd at_ to (tnGo sg).2.2) rfl gr0 tn_start ?_ ?_
  · exact h
  · intro z y hi hn
    obtain ⟨hi', hy⟩ := tn_inv (fun l hl => (hsg l hl).1) hi hn
    obtain ⟨i, ss, d⟩ := z
    have hlen : ss.length = i := hi.len
    have h60 : i ≤ 20 := hi.twenty
    have hln := lnF_len 0 ss
    have hch : ChOK (lnF 0 ss, false, d) := ⟨hi.ok.le (show (3 * (i : Int)) ≤ _ by omega), show (lnF 0 ss).length ≤ _ by omega⟩
    unfold tnNx at hn
    split at hn
    · rename_i c
      have c1 : i < sg.length := c.1
      have c2 : i < 20 := c.2
      cases hn
      refine ⟨hi', by show 20 - (i + 1) < 20 - i; omega, ?_⟩
      obtain ⟨st', hr, hl2⟩ := gr_round (sg := sg) hi.gr (by show i < 60; omega)
      have hil : (i : Int) + 1 = ((lnF 0 ss).length : Int) + 1 := by rw [hln, hlen]
      have hr2 : chAppM (lnF 0 ss, false, d) ((i : Int) + 1) (sigP (sg.getD i [])) = (0, (lnF 0 (ss ++ [sigP (sg.getD i [])]), false, (keR sg (i, ss, d)).2.2.2)) := by
        have : keR sg (i, ss, d) = chAppM (lnF 0 ss, false, d) (((lnF 0 ss).length : Int) + 1) (sigP (sg.getD i [])) := rfl
        rw [hil, ← this, hr]
      obtain ⟨ps, p1, p2⟩ := tn_step sg at_ to (lnF 0 ss) (lnF 0 (ss ++ [sigP (sg.getD i [])])) d (keR sg (i, ss, d)).2.2.2 i (decide_eq_true (by omega)) (decide_eq_true (by omega)) ⟨by omega, by omega⟩ (by omega) (by omega) (hsl _) hch (sigP_len _)
        (by rw [Int.toNat_natCast, hr2]) (by rw [Int.toNat_natCast, hr2]) (by rw [Int.toNat_natCast, hr2]) (by rw [Int.toNat_natCast, hr2]) (by rw [Int.toNat_natCast, hr2]) (by rw [Int.toNat_natCast, hr2]) (by rw [Int.toNat_natCast, hr2]) (by rw [Int.toNat_natCast, hr2])
      exact ⟨gTn1, 100, 100, _, ps, gTn1_ok, p1, p2⟩
    · cases hn
  · intro z hi hn hz
    have hz' : tnGo sg = z := hz.symm
    rw [hz']
    obtain ⟨i, ss, d⟩ := z
    have h60 : i ≤ 20 := hi.twenty
    by_cases c : i < sg.length ∧ i < 20
    · unfold tnNx at hn
      rw [if_pos c] at hn
      cases hn
    · by_cases c1 : i < sg.length
      · obtain ⟨ps, p1, p2⟩ := tn_twenty sg at_ to (lnF 0 ss) d i (decide_eq_true (by omega)) (decide_eq_false (by omega))
        exact ⟨gTn1, 100, 100, _, ps, gTn1_ok, p1, p2⟩
      · obtain ⟨ps, p1, p2⟩ := tn_end sg at_ to (lnF 0 ss) d i (decide_eq_false (by omega))
        exact ⟨gTn1, 100, 100, _, ps, gTn1_ok, p1, p2⟩
theorem catF_append : ∀ (k : Nat) (a b : List (List Int)), catF k (a ++ b) = catF k a ++ catF (k + a.length) b
  | k, [], b => by simp [catF]
  | k, s :: a, b => by
    simp only [List.cons_append, catF, catF_append (k + 1) a b, List.length_cons, List.append_assoc]
    rw [show k + 1 + a.length = k + (a.length + 1) from by omega]
theorem frame_fits8 {t : List Int} (h : t.length = 112) (hb : InB (t.take 8)) (r : Int) (hf : fitsB t r) : frameL r (sigB t) = t := by
  obtain ⟨h1, h2, h3⟩ := sig_cut h
  have h8 : (t.take 8).length = 8 := by rw [List.length_take]; omega
  have hn : nIt (t.take 8) 8 = be (t.take 8) := by
    rw [nIt_be hb (by omega) (Nat.le_refl _), List.take_take, Nat.min_self]
  have hd : (t.drop 104).take 8 = t.drop 104 := List.take_of_length_le (by rw [List.length_drop]; omega)
  have hw : IntKind.u64.wrap r = r % 256 ^ 8 := by rw [IntKind.wrap_u64]; rfl
  unfold fitsB at hf
  rw [hn, hd, hw] at hf
  obtain ⟨e1, e2⟩ := hf
  have : t.take 8 = rndB r := by
    rw [rndB_be]
    exact (be_inj hb (beB_inB 8 r) (by rw [h8, beB_len])).1 (by rw [e1, be_beB])
  unfold frameL bodyL
  rw [← this, ← h1, e2, List.take_append_drop]
theorem inB_set {l : List Int} {i : Nat} {x : Int} (h : InB l) (hx : 0 ≤ x ∧ x < 256) : InB (l.set i x) := fun a ha => by
  rcases List.mem_or_eq_of_mem_set ha with ha | rfl
  · exact h a ha
  · exact hx
theorem open_one1 {ro st : Int} {b : List Int} (h : (b.length : Int) ≤ ro) : ∃ st', openM (ro, st, 0, false, one cN b b.length) = (0, (opGo b).2, (ro, st', 0, false, one cN (cutC b) (cutC b).length)) := by
  have hi := opGo_inv b
  unfold OpI at hi
  unfold openM
  rw [read_one right_c]
  simp only
  rw [if_neg (show ¬ (0 : Int) = 41 by decide), if_neg (show ¬ (0 : Int) ≠ 0 by decide)]
  by_cases c : 0 < (opGo b).1.length
  · rw [if_pos c, cut_one right_c (by omega) (by omega), if_pos (show stV 0 = true from rfl), if_neg (show ¬ (0 : Int) ≠ 0 by decide)]
    simp only
    rw [show stDn 0 false = false from rfl, show stFu 0 = 0 from rfl, sync_one right_c (by rw [List.length_take]; omega), if_pos (show stV 0 = true from rfl), show ((b.length : Int) - ((opGo b).1.length : Int)).toNat = 112 * (opGo b).2.length from by omega]
    exact ⟨_, rfl⟩
  · have hcb : cutC b = b := by unfold cutC; exact List.take_of_length_le (by omega)
    rw [if_neg c, sync_one right_c h, if_pos (show stV 0 = true from rfl), hcb]
    exact ⟨_, rfl⟩
structure Turn (ss : List (List Int)) (q j : Nat) (to : Int) (F B : List Int) : Prop where
  cat : catF 0 ss = catF 0 (ss.take q) ++ (F ++ B)
  flen : F.length = 112
  plen : (catF 0 (ss.take q)).length = 112 * q
  set : (catF 0 ss).set (112 * q + j) to = catF 0 (ss.take q) ++ (F.set j to ++ B)
  get : (catF 0 ss).getD (112 * q + j) 0 = F.getD j 0
  sum : sumL (F.take 104) = F.drop 104
  inb : InB (F.take 104)
theorem turn_parts {ss : List (List Int)} (hs : ∀ s ∈ ss, SigOK s ∧ InB s) {q j : Nat} (hq : q < ss.length) (hj : j < 112) (to : Int) : ∃ F B, Turn ss q j to F B := by
  have hs1 : ∀ s ∈ ss, SigOK s := fun s h => (hs s h).1
  have hm : ss[q] ∈ ss := List.getElem_mem hq
  have h96 : (ss[q]).length = 96 := (hs _ hm).1
  have hsp : ss = ss.take q ++ (ss[q] :: ss.drop (q + 1)) := by rw [← List.drop_eq_getElem_cons hq, List.take_append_drop]
  have htl : (ss.take q).length = q := by rw [List.length_take]; omega
  have hcat : catF 0 ss = catF 0 (ss.take q) ++ (frameL ((q : Int) + 1) ss[q] ++ catF (q + 1) (ss.drop (q + 1))) := by
    conv => lhs; rw [hsp]
    rw [catF_append, htl, Nat.zero_add]
    rfl
  have hpl : (catF 0 (ss.take q)).length = 112 * q := by rw [catF_len 0 _ (fun s h => hs1 s (List.mem_of_mem_take h)), htl]
  have hfl := frameL_len (r := (q : Int) + 1) h96
  obtain ⟨f1, f2, f3, f4⟩ := frame_parts (r := (q : Int) + 1) h96
  refine ⟨frameL ((q : Int) + 1) ss[q], catF (q + 1) (ss.drop (q + 1)), hcat, hfl, hpl, ?_, ?_, by rw [f2, f3], by rw [f2]; exact inB_append (inB_rnd _) (hs _ hm).2⟩
  · rw [hcat, List.set_append_right _ _ (by omega), hpl, Nat.add_sub_cancel_left, List.set_append_left _ _ (by omega)]
  · rw [hcat, List.getD_eq_getElem?_getD, List.getElem?_append_right (by omega), hpl, Nat.add_sub_cancel_left, List.getElem?_append_left (by omega), List.getD_eq_getElem?_getD]
theorem Turn.chunk {ss : List (List Int)} {q j : Nat} {to : Int} {F B : List Int} (h : Turn ss q j to F B) : ((((catF 0 ss).set (112 * q + j) to).drop (112 * q)).take 112) = F.set j to ∧ ((((catF 0 ss).set (112 * q + j) to).drop (112 * q + 8)).take 96) = sigB (F.set j to) := by
  have hl : (F.set j to).length = 112 := by rw [List.length_set, h.flen]
  rw [h.set]
  refine ⟨?_, ?_⟩
  · rw [← h.plen, List.drop_left, ← hl, List.take_left]
  · rw [← List.drop_drop, ← h.plen, List.drop_left, List.drop_append_of_le_length (by omega), List.take_append_of_le_length (by rw [List.length_drop]; omega)]
    unfold sigB
    rw [List.drop_take, List.take_take]
    rfl
theorem Turn.opens {ss : List (List Int)} (hs : ∀ s ∈ ss, SigOK s) {q j : Nat} {to : Int} {F B : List Int} (h : Turn ss q j to F B) (hq : q < ss.length) (hlen : ss.length ≤ 20) (hf : ¬ fitsB (F.set j to) ((q : Int) + 1)) :
    ∃ st', openM (4194304, 0, 0, false, one cN ((catF 0 ss).set (112 * q + j) to) ((catF 0 ss).length : Int)) = (0, lnF 0 (ss.take q), (4194304, st', 0, false, one cN (catF 0 (ss.take q)) (catF 0 (ss.take q)).length)) := by
  have hl : (F.set j to).length = 112 := by rw [List.length_set, h.flen]
  have htl : (ss.take q).length = q := by rw [List.length_take]; omega
  have hg : opGo ((catF 0 ss).set (112 * q + j) to) = (F.set j to ++ B, lnF 0 (ss.take q)) := by
    rw [h.set]
    refine opGo_cat (fun s hs' => hs s (List.mem_of_mem_take hs')) ?_
    unfold opNx
    rw [if_neg]
    rintro ⟨_, h2⟩
    have h2 : fitsB ((F.set j to ++ B).take 112) (((lnF 0 (ss.take q)).length : Int) + 1) := h2
    rw [← hl, List.take_left, lnF_len, htl] at h2
    exact hf h2
  have hc : cutC ((catF 0 ss).set (112 * q + j) to) = catF 0 (ss.take q) := by
    unfold cutC
    rw [hg, h.set, lnF_len, htl, ← h.plen, List.take_left]
  have hcl := catF_len 0 ss hs
  obtain ⟨st', ho⟩ := open_one1 (ro := 4194304) (st := 0) (b := (catF 0 ss).set (112 * q + j) to) (by rw [List.length_set, hcl]; omega)
  rw [List.length_set] at ho
  exact ⟨st', by rw [ho, hc, hg]⟩
theorem Turn.sum_no {ss : List (List Int)} {q j : Nat} {to : Int} {F B : List Int} (h : Turn ss q j to F B) (hj : 104 ≤ j) (hj2 : j < 112) (hne : F.getD j 0 ≠ to) (r : Int) : ¬ fitsB (F.set j to) r := by
  rintro ⟨_, h2⟩
  have h1 : (F.set j to).take 104 = F.take 104 := by rw [List.take_set_of_le hj]
  have hd : ((F.set j to).drop 104).take 8 = (F.set j to).drop 104 := List.take_of_length_le (by rw [List.length_drop, List.length_set, h.flen]; decide)
  rw [h1, hd, h.sum] at h2
  have h3 : (F.drop 104).getD (j - 104) 0 = ((F.set j to).drop 104).getD (j - 104) 0 := by rw [h2]
  rw [List.getD_eq_getElem?_getD, List.getElem?_drop, List.getD_eq_getElem?_getD, List.getElem?_drop, show 104 + (j - 104) = j from by omega, List.getElem?_set_self (by rw [h.flen]; exact hj2)] at h3
  exact hne (by rw [List.getD_eq_getElem?_getD, h3]; rfl)
theorem nm1_one {ro st fu : Int} {dn : Bool} {l : List Int} {n : Int} : nm1 (ro, st, fu, dn, one cN l n) = cN := by
  unfold nm1
  show recS ((sortK (one cN l n)).getD 0 []) 0 = cN
  rw [show sortK (one cN l n) = [[Fd.s cN]] from sortK_one cN _]
  rfl
theorem turned_last {sg : List (List Int)} {at_ to : Int} {ss : List (List Int)} {st : Int} {es : List (Rec × Ob)} (hat : InI64 at_) (hto : 0 ≤ to ∧ to < 256) (hs : ∀ s ∈ ss, SigOK s ∧ InB s) (hlen : ss.length ≤ 20) (hk : OkN (4194304, st, 0, false, es) 1000) (ho : Only es (catF 0 ss))
    (hL : SumOK Tryd.prog DF (bodyN Tryd.f6 0) (loopL DF (tnSn sg at_ to [] (4194304, 0, 0, false, []) 0) (.exit 0) (tnEd at_ to (4194304, st, 0, false, es)))) :
    ∃ Γ, GamOK Tryd.prog DF Γ ∧ ∃ ds ps, runF Tryd.prog DF Γ 100 Tryd.f6 (tnX sg at_ to) ds = some (.v (.one (.bool true true)), ps) ∧ AllQ ps := by
  have hs1 : ∀ s ∈ ss, SigOK s := fun s h => (hs s h).1
  have hcl : clampR 4194304 = 4194304 := by decide
  have e0 : openM (clampR 4194304, 0, 0, false, []) = (0, [], (clampR 4194304, 0, 0, false, [])) := open_nil _ _ _
  have o0 : OkN (clampR 4194304, 0, 0, false, []) 0 := ⟨okd_new 4194304, Int.le_refl _⟩
  have o0' : OkN (clampR 4194304, 0, 0, false, []) 4611686018427387000 := o0.le (by decide)
  have hcf := catF_len 0 ss hs1
  rcases ho with ⟨rfl, _⟩ | rfl
  · obtain ⟨ps, p1, p2⟩ := tn_none sg at_ to (4194304, st, 0, false, []) o0' (by rw [e0]) hL (by rw [e0, hcl]) (by rw [e0]) (by rw [e0]) (by rw [e0]) (by rw [e0]) (by rw [e0]) hk.1 (by
      show ((((imageM []).length : Nat) : Int) != 1) = true
      unfold imageM
      rw [sortK_nil]
      rfl)
    exact ⟨_, gTn0_ok, _, ps, p1, p2⟩
  generalize hd : ((4194304, st, 0, false, one cN (catF 0 ss) (catF 0 ss).length) : DkT) = d at hL hk
  have hn1 : nm1 d = cN := by rw [← hd]; exact nm1_one
  have he : obE d.2.2.2.2 [Fd.s (nm1 d)] = fileOb (catF 0 ss) (catF 0 ss).length := by rw [hn1, ← hd]; exact ob_one _ _ _
  have hsk : (sortK d.2.2.2.2).length = 1 := by rw [← hd]; show (sortK (one cN _ _)).length = 1; rw [show sortK (one cN (catF 0 ss) ((catF 0 ss).length : Int)) = [[Fd.s cN]] from sortK_one cN _]; rfl
  have hrn : rightB (nm1 d) = true := by rw [hn1]; exact right_c
  by_cases c1 : at_ < 0
  · obtain ⟨ps, p1, p2⟩ := tn_neg sg at_ to d o0' (by rw [e0]) hL (by rw [e0, hcl]) (by rw [e0]) (by rw [e0]) (by rw [e0]) (by rw [e0]) (by rw [e0]) hk.1 hsk (decide_eq_true c1)
    exact ⟨_, gTn1_ok, _, ps, p1, p2⟩
  obtain ⟨A, rfl⟩ : ∃ A : Nat, at_ = A := ⟨at_.toNat, by omega⟩
  by_cases c2 : (catF 0 ss).length ≤ A
  · obtain ⟨ps, p1, p2⟩ := tn_big sg A to d o0' (by rw [e0]) hL (by rw [e0, hcl]) (by rw [e0]) (by rw [e0]) (by rw [e0]) (by rw [e0]) (by rw [e0]) hk.1 hsk (decide_eq_false c1) (by rw [he]; exact decide_eq_true (show (A : Int) ≥ (((catF 0 ss).length : Nat) : Int) by omega))
    exact ⟨_, gTn1_ok, _, ps, p1, p2⟩
  have c2b : ¬ (A : Int) ≥ (((catF 0 ss).length : Nat) : Int) := by omega
  have c2c : (A : Int) < (((catF 0 ss).length : Nat) : Int) := by omega
  have c2d : A < (catF 0 ss).length := by omega
  by_cases c3 : (catF 0 ss).getD A 0 = to
  · obtain ⟨ps, p1, p2⟩ := tn_same sg A to d o0' (by rw [e0]) hL (by rw [e0, hcl]) (by rw [e0]) (by rw [e0]) (by rw [e0]) (by rw [e0]) (by rw [e0]) hk.1 hsk (decide_eq_false c1) (by rw [he]; exact decide_eq_false c2b) (by omega) (by rw [he]; exact c2c) (by rw [he]; exact c2d) (by rw [he]; exact beq_iff_eq.2 c3)
    exact ⟨_, gTn1_ok, _, ps, p1, p2⟩
  -- the byte that is turned lies in a frame
  obtain ⟨q, j, hA, hj⟩ : ∃ q j, A = 112 * q + j ∧ j < 112 := ⟨A / 112, A % 112, by omega, by omega⟩
  have hq : q < ss.length := by omega
  have hmod : Int.tmod (A : Int) 112 = (j : Int) := by rw [Int.tmod_eq_emod_of_nonneg (by omega)]; omega
  have hdiv : Int.tdiv (A : Int) 112 = (q : Int) := by rw [Int.tdiv_eq_ediv_of_nonneg (by omega)]; omega
  have hwr : IntKind.i64.wrap (Int.tdiv (A : Int) 112) = (q : Int) := by rw [hdiv, IntKind.wrap_i64]; omega
  obtain ⟨F, B, hT⟩ := turn_parts hs hq hj to
  have hne : F.getD j 0 ≠ to := by rw [← hT.get, ← hA]; exact c3
  have hsl : ((catF 0 ss).set A to).length = (catF 0 ss).length := List.length_set
  have hto2 : (to : Int) = to := rfl
  have hb1 : ((List.set (catF 0 ss) A to).length) ≤ 140737488355328 := by rw [hsl]; omega
  -- the disk that is mounted
  have hEs : Esd 4194304 (one cN ((catF 0 ss).set A to) ((catF 0 ss).length : Int)) := ⟨fun e h => by rw [List.mem_singleton.1 h]; exact ⟨cN, rfl, right_c⟩, by simp [one], fun e h => by
    rw [List.mem_singleton.1 h]
    exact ⟨_, _, rfl, by omega, by rw [hsl]; exact Int.le_refl _, hb1⟩, show 1 ≤ 32 by decide, by rw [safe_one]; omega⟩
  have hg : OkN (4194304, 0, 0, false, one cN ((catF 0 ss).set A to) ((catF 0 ss).length : Int)) 0 := ⟨hEs.okd ⟨by decide, by decide⟩ (Int.le_refl _) ⟨Int.le_refl _, by decide⟩, Int.le_refl _⟩
  have hi := hg.le (m' := 4611686018427387000) (by decide)
  have hlq : (lnF 0 (ss.take q)).length = q := by rw [lnF_len, List.length_take]; omega
  have q1 : ((((catF 0 ss).length : Nat) : Int)) ≤ ((((catF 0 ss).set A to).length : Nat) : Int) := by rw [hsl]; exact Int.le_refl _
  have q2 : ((((catF 0 ss).length : Nat) : Int)) ≤ clampR 4194304 := by rw [hcl]; omega
  have q3 : (0 : Int) ≤ (((catF 0 ss).length : Nat) : Int) := by omega
  have q4 : ((catF 0 ss).getD A 0 == to) = false := beq_false_of_ne c3
  have q5 : 0 < ((catF 0 ss).set A to).length := by rw [hsl]; omega
  have q6 : (A : Int) - (j : Int) + 112 ≤ ((((catF 0 ss).set A to).length : Nat) : Int) := by rw [hsl]; omega
  by_cases c4 : 104 ≤ j
  · have hx2 : tn_sum_x2 d = fileOb (catF 0 ss) (catF 0 ss).length := he
    have hx3 : tn_sum_x3 = (0, [], (clampR 4194304, 0, 0, false, [])) := e0
    have hx1 : tn_sum_x1 A to d = (4194304, 0, 0, false, one cN ((catF 0 ss).set A to) ((catF 0 ss).length : Int)) := by
      unfold tn_sum_x1
      rw [he, hn1, hcl]
      rfl
    obtain ⟨st', hop⟩ := hT.opens hs1 hq hlen (hT.sum_no c4 hj hne _)
    rw [← hA] at hop
    obtain ⟨ps, p1, p2⟩ := tn_sum sg A to d o0' (by rw [hx3]) hL (by rw [hx3, hcl]) (by rw [hx3]) (by rw [hx3]) (by rw [hx3]) (by rw [hx3]) (by rw [hx3]) hk.1 hsk (decide_eq_false c1) (by rw [hx2]; exact decide_eq_false c2b) (by omega) (by rw [hx2]; exact c2c) (by rw [hx2]; exact c2d) (by rw [hx2]; exact q4) hrn
      (by rw [hx2]; exact q3) (by rw [hx2]; exact q1) (by rw [hx2]; exact q2) (by rw [hx2]; exact hb1) (by rw [hmod]; exact decide_eq_true (by omega)) (by rw [hx1]; exact hi) (by rw [hx1, hop]) (by rw [hx1, hop, hwr, hlq]; exact beq_iff_eq.2 rfl)
    exact ⟨_, gTn1_ok, _, ps, p1, p2⟩
  obtain ⟨k1, k2⟩ := hT.chunk
  rw [← hA] at k1 k2
  have hFl : (F.set j to).length = 112 := by rw [List.length_set, hT.flen]
  obtain ⟨s1, s2, s3⟩ := sig_cut hFl
  have hI1 : InB ((F.set j to).take 104) := by rw [List.take_set]; exact inB_set hT.inb hto
  have hI2 : InB (sigB (F.set j to)) := fun a ha => hI1 a (by rw [s1]; exact List.mem_append_right _ ha)
  have hI3 : InB ((F.set j to).take 8) := fun a ha => hI1 a (by rw [s1]; exact List.mem_append_left _ ha)
  have hsp : sigP (sigB (F.set j to)) = sigB (F.set j to) := by
    unfold sigP
    rw [List.take_of_length_le (by omega), s2, Nat.sub_self, List.replicate_zero, List.append_nil]
  have hfl : (frameL ((q : Int) + 1) (sigB (F.set j to))).length = 112 := frameL_len s2
  have n1 : ((A : Int) - (j : Int) + 104).toNat - ((A : Int) - (j : Int) + 8).toNat = 96 := by omega
  have n2 : ((A : Int) - (j : Int) + 8).toNat = 112 * q + 8 := by omega
  have n3 : ((A : Int) - (j : Int) + 112).toNat - ((A : Int) - (j : Int)).toNat = 112 := by omega
  have n4 : ((A : Int) - (j : Int)).toNat = 112 * q := by omega
  by_cases hS : frameL ((q : Int) + 1) (sigB (F.set j to)) = F.set j to
  · have hx1 : tn_hit_x1 d = fileOb (catF 0 ss) (catF 0 ss).length := he
    have hx3 : tn_hit_x3 = (0, [], (clampR 4194304, 0, 0, false, [])) := e0
    have hx2 : tn_hit_x2 A to d = sigB (F.set j to) := by
      unfold tn_hit_x2
      rw [hx1, hmod, n1, n2]
      exact k2
    obtain ⟨st', hop⟩ := open_one1 (ro := 4194304) (st := 0) (b := (catF 0 ss).set A to) (by rw [hsl]; omega)
    rw [hsl] at hop
    obtain ⟨ps, p1, p2⟩ := tn_hit sg A to d o0' (by rw [hx3]) hL (by rw [hx3, hcl]) (by rw [hx3]) (by rw [hx3]) (by rw [hx3]) (by rw [hx3]) (by rw [hx3]) hk.1 hsk (decide_eq_false c1) (by rw [hx1]; exact decide_eq_false c2b) (by omega) (by rw [hx1]; exact c2c) (by rw [hx1]; exact c2d) (by rw [hx1]; exact q4) hrn
      (by rw [hx1]; exact q3) (by rw [hx1]; exact q1) (by rw [hx1]; exact q2) (by rw [hx1]; exact hb1) (by rw [hmod]; exact decide_eq_false (by omega)) (by rw [hwr]; exact ⟨by omega, by omega⟩) (by rw [hmod]; exact ⟨by omega, by omega⟩) (by rw [hmod]; exact ⟨by omega, by omega⟩) (by rw [hmod]; exact ⟨by omega, by omega⟩)
      (by rw [hx1]; exact q5) (by rw [hmod]; omega) (by rw [hmod]; omega) (by rw [hmod, hx1]; exact Int.le_trans (by omega) q6) (by rw [hmod, hx1]; exact Int.lt_of_lt_of_le (show (A : Int) - (j : Int) + 8 < (A : Int) - (j : Int) + 112 by omega) q6)
      (by rw [hx2, s2]; decide) (by rw [hx2, hsp, s2]) (by rw [hx2, hsp]; exact hI2) (by rw [hx1, hn1, hcl]; exact hi) (by rw [hx1, hn1, hcl]; show (openM (4194304, 0, 0, false, one cN ((catF 0 ss).set A to) ((catF 0 ss).length : Int))).1 = 0; rw [hop]) (by rw [hmod]; exact ⟨by omega, by omega⟩) (by rw [hmod]; omega) (by rw [hmod]; omega) (by rw [hmod, hx1]; exact q6)
      (by rw [hmod, hx1]; exact Int.lt_of_lt_of_le (show (A : Int) - (j : Int) < (A : Int) - (j : Int) + 112 by omega) q6)
      (by rw [hx2, hsp, hwr, hmod, hx1, n3, n4]; exact decide_eq_true (by rw [hS]; exact k1.symm)) (by rw [hx2, hsp, hwr, hfl]; decide) (by rw [hmod, n3, n4, List.length_take]; omega)
    exact ⟨_, gTn1_ok, _, ps, p1, p2⟩
  · have hx3 : tn_go_x3 d = fileOb (catF 0 ss) (catF 0 ss).length := he
    have hx5 : tn_go_x5 = (0, [], (clampR 4194304, 0, 0, false, [])) := e0
    have hx4 : tn_go_x4 A to d = sigB (F.set j to) := by
      unfold tn_go_x4
      rw [hx3, hmod, n1, n2]
      exact k2
    obtain ⟨st', hop⟩ := hT.opens hs1 hq hlen (fun h => hS (frame_fits8 hFl hI3 _ h))
    rw [← hA] at hop
    have hx1 : tn_go_x1 A to d = (0, lnF 0 (ss.take q), (4194304, st', 0, false, one cN (catF 0 (ss.take q)) (catF 0 (ss.take q)).length)) := by
      unfold tn_go_x1
      rw [he, hn1, hcl]
      exact hop
    have hd2 := open_nxt hg
    rw [hop] at hd2
    have hz : tn_go_x2.length = 96 := rfl
    have hfz : (frameL (((lnF 0 (ss.take q)).length : Int) + 1) tn_go_x2).length = 112 := frameL_len hz
    have hput := put_only0 (ro := 4194304) (st := st') (es := one cN (catF 0 (ss.take q)) (catF 0 (ss.take q)).length) (l := catF 0 (ss.take q)) (b := frameL (((lnF 0 (ss.take q)).length : Int) + 1) tn_go_x2) (k := (lnF 0 (ss.take q)).length) (.inr rfl) (by rw [hT.plen, hfz]; omega) (by rw [List.length_append, hT.plen, hfz]; omega)
    have happ := chApp_next (s := tn_go_x2) hput
    obtain ⟨ps, p1, p2⟩ := tn_go sg A to d o0' (by rw [hx5]) hL (by rw [hx5, hcl]) (by rw [hx5]) (by rw [hx5]) (by rw [hx5]) (by rw [hx5]) (by rw [hx5]) hk.1 hsk (decide_eq_false c1) (by rw [hx3]; exact decide_eq_false c2b) (by omega) (by rw [hx3]; exact c2c) (by rw [hx3]; exact c2d) (by rw [hx3]; exact q4) hrn
      (by rw [hx3]; exact q3) (by rw [hx3]; exact q1) (by rw [hx3]; exact q2) (by rw [hx3]; exact hb1) (by rw [hmod]; exact decide_eq_false (by omega)) (by rw [hwr]; exact ⟨by omega, by omega⟩) (by rw [hmod]; exact ⟨by omega, by omega⟩) (by rw [hmod]; exact ⟨by omega, by omega⟩) (by rw [hmod]; exact ⟨by omega, by omega⟩)
      (by rw [hx3]; exact q5) (by rw [hmod]; omega) (by rw [hmod]; omega) (by rw [hmod, hx3]; exact Int.le_trans (by omega) q6) (by rw [hmod, hx3]; exact Int.lt_of_lt_of_le (show (A : Int) - (j : Int) + 8 < (A : Int) - (j : Int) + 112 by omega) q6)
      (by rw [hx4, s2]; decide) (by rw [hx4, hsp, s2]) (by rw [hx4, hsp]; exact hI2) (by rw [hx3, hn1, hcl]; exact hi) (by rw [hx1]) (by rw [hmod]; exact ⟨by omega, by omega⟩) (by rw [hmod]; omega) (by rw [hmod]; omega) (by rw [hmod, hx3]; exact q6)
      (by rw [hmod, hx3]; exact Int.lt_of_lt_of_le (show (A : Int) - (j : Int) < (A : Int) - (j : Int) + 112 by omega) q6)
      (by rw [hx4, hsp, hwr, hmod, hx3, n3, n4]; exact decide_eq_false (by intro h; exact hS (h.trans k1))) (by rw [hx4, hsp, hwr, hfl]; decide) (by rw [hmod, n3, n4, List.length_take]; omega)
      (by rw [hx1, hwr, hlq]; exact beq_iff_eq.2 rfl) (by rw [hx1, hlq]; exact ⟨by omega, by omega⟩) (by rw [hx1]; exact ⟨hd2.le (by decide), by rw [hlq]; omega⟩) (by rw [hx1]; simp only; rw [happ])
    exact ⟨_, gTn1_ok, _, ps, p1, p2⟩
theorem law_turned {sg : List (List Int)} {at_ to : Int} (hsg : ∀ l ∈ sg, InB l ∧ l.length ≤ 140737488351232) (_ : sg.length * 24 ≤ 140737488351232) (hat : InI64 at_) (hto : 0 ≤ to ∧ to < 256) :
    ∃ Γ, GamOK Tryd.prog DF Γ ∧ ∃ ds ps, runF Tryd.prog DF Γ 100 Tryd.f6 [.one (.wordss .u8 sg), .one (.int .i64 false at_), .one (.int .u8 false to)] ds = some (.v (.one (.bool true true)), ps) ∧ AllQ ps := by
  have hI : TnI (tnGo sg) := goOn_inv (inv := TnI) (fun _ _ h hn => (tn_inv (fun l hl => (hsg l hl).1) h hn).1) _ _ tn_start
  obtain ⟨⟨st, es, hd, ho⟩, hok, hsig, hlen, h20⟩ := hI
  have hL := tn_loop sg at_ to hsg
  rw [hd] at hL hok
  exact turned_last hat hto hsig (by omega) (hok.le (by omega)) ho hL
end Go.Num
namespace Go.Laws
open Go.Abs Go.Proofs Go.Proofs.YthdhjbmgmfndhaaDoor Go.ChangeShapes Go.WideShapes Go.ChangeAt Go.RowKit Go.Num
theorem own : ownKnob Tryd.prog.godebug = none := by kernel_rfl
theorem laidOut : laidOutB Tryd.prog = true := by kernel_rfl
theorem trodAll_below {H : Type} {enc : TypeId × Value → H} {P : Program} (hl : laidOutB P = true) {W W' : World} (hb : Below W.heap.size W W') :
    ∀ {ts : List TypeId} {vs : List Value} {ds : List (DataW H)} {ps : List MemPlace}, (ts.all fun t => P.readableRec t && decide (t < P.types.size)) = true →
      DataW.TrodAll enc P W 0 (fun _ => true) true ts vs ds ps → (∀ x ∈ ps, x.block < W.heap.size) → DataW.TrodAll enc P W' 0 (fun b => decide (b < W.heap.size)) true ts vs ds ps
  | [], [], [], _, _, h, _ => h
  | [], [], _ :: _, _, _, h, _ => h.elim
  | [], _ :: _, _, _, _, h, _ => h.elim
  | _ :: _, [], _, _, _, h, _ => h.elim
  | _ :: _, _ :: _, [], _, _, h, _ => h.elim
  | t :: ts, v :: vs, d :: ds, ps, hr, h, hlt => by
    obtain ⟨p, q, h1, h2, rfl⟩ := h
    simp only [List.all_cons, Bool.and_eq_true, decide_eq_true_eq] at hr
    exact ⟨p, q, Below.trod hl hr.1.1 hr.1.2 h1 hb (fun x hx => hlt x (List.mem_append_left _ hx)), trodAll_below hl hb (by simpa using hr.2) h2 (fun x hx => hlt x (List.mem_append_right _ hx)), rfl⟩
theorem law_post {H : Type} {enc : TypeId × Value → H} {P : Program} {fn : Func} {s : ChangeSpec} {W W' : World} {args : Array Value} {ds : List (DataW H)} {before : List MemPlace} {tb : TypeId} (hl : laidOutB P = true)
    (hp : (fn.params.toList.all fun t => P.readableRec t && decide (t < P.types.size)) = true) (hs : s.vars = []) (hfn : s.fn H (ds ++ []) = { results := [.lit (.bool true)], args := ds })
    (hr : fn.resultTypes = #[tb]) (htb : P.underlying tb = some .bool) (hW : DataW.Whole enc P fn.params.toList s.vars false W args.toList ds [] before) (hb : Below W.heap.size W W') :
    s.post enc P fn false true false false W args (.bool true) W' := by
  have hlt : ∀ p ∈ before, p.block < W.heap.size := fun p hp => hW.lt p hp
  obtain ⟨p, q, hA, hV, hpq, hfz, hnd⟩ := id hW
  have hq : q = [] := by
    rw [hs] at hV
    exact hV
  subst hq
  rw [List.append_nil] at hpq
  subst hpq
  refine ⟨ds, [], before, [], before, [], hW, ?_, ?_, ?_, World.keptBut_mono (fun x hx => ⟨hx, .inr (.inl hx)⟩) (hb.frame (· ∈ before)), fun h => by cases h⟩
  · rw [hfn, hr]
    exact trodAll_cons_mk (shut_bool htb _) trodAll_mk0
  · rw [hfn]
    exact trodAll_below hl hb hp hA hlt
  · rw [hfn, hs]
    rfl
theorem no_spot {W : World} {a : Addr} {v : Value} (h : W.cell? a = some v) : a.spot = none := by
  unfold World.cell? at h
  split at h
  · split at h
    · cases h
    · rename_i hsp
      simpa using hsp
  · cases h
theorem add_plain {a : Addr} (hs : a.spot = none) (i : Nat) : a.add i = ⟨a.block, a.off + i, none⟩ := by
  unfold Addr.add
  split
  · rename_i h0
    subst h0
    cases a
    simp only at hs
    subst hs
    rfl
  · rfl
theorem cells_words {H : Type} {enc : TypeId × Value → H} {P : Program} {W : World} {t e : TypeId} {k : IntKind} {fuel : Nat} {cs : List Value} {x : DataW H × List MemPlace} (ht : P.underlying t = some (.slice e)) (he : P.underlying e = some (.int k)) (hc : P.cellsOf e = 1)
    (h : DataW.trod enc P W 0 (fun _ => true) true fuel t cs = some x) (hr : ∀ n ∈ x.1.weights P t, n ≤ reachBytes) :
    ∃ (v : Value) (l : List Int), cs = [v] ∧ SlRel (fun _ => False) W k l v ∧ v.oneCell' = true ∧ (∀ n ∈ l, (Lit.int k n).wf = true) ∧ l.length * P.bytesOf e ≤ reachBytes ∧
      ((l = [] ∧ x.1 = .nil) ∨ ∃ rest, x.1 = .slice (lits k l) rest) := by
  rcases open_ints ht he hc h with ⟨h1, h2⟩ | ⟨a, len, cap, zs, h1, _, h3, h4, h5, h6, h7, h8⟩
  · exact ⟨.slice none 0 0, [], h1, ⟨none, 0, rfl, Nat.le_refl _, Nat.zero_le _, fun _ => rfl, (fun i hi => by cases hi)⟩, rfl, (fun n hn => by cases hn), by simp, .inl ⟨rfl, by rw [h2]⟩⟩
  · subst h6
    simp only [if_true] at h5
    have hl : (zs.take len).length = len := by rw [List.length_take]; omega
    refine ⟨_, zs.take len, h1, ⟨some a, cap, by rw [hl], by omega, h4, (fun h => by cases h), fun i hi => ?_⟩, rfl, fun n hn => h8 n (List.mem_of_mem_take hn), ?_, .inr ⟨_, rfl⟩⟩
    · rw [hl] at hi
      have h0 := h7 0 (by omega)
      rw [Addr.add, if_pos rfl] at h0
      have hs := no_spot h0
      have h9 := h7 i (by omega)
      rw [add_plain hs] at h9
      refine ⟨a.block, a.off, ?_, fun h => h, ?_⟩
      · cases a
        simp only at hs
        subst hs
        rfl
      · rw [h9]
        congr 2
        rw [List.getD_eq_getElem?_getD, List.getD_eq_getElem?_getD, List.getElem?_take_of_lt hi]
    · have h10 := hr ((zs.take len).length * P.bytesOf e + (zs.drop len).length * P.bytesOf e) (by simp only [DataW.weights, ht, lits, List.length_map, Nat.add_mul]; exact List.mem_cons_self ..)
      omega
theorem choose_list {α : Type} {p : Nat → α → Prop} : ∀ {n : Nat}, (∀ i, i < n → ∃ x, p i x) → ∃ l : List α, l.length = n ∧ ∀ i x, l[i]? = some x → p i x
  | 0, _ => ⟨[], rfl, fun i x h => by cases h⟩
  | n + 1, h => by
    obtain ⟨l, h1, h2⟩ := choose_list (n := n) fun i hi => h i (by omega)
    obtain ⟨x, hx⟩ := h n (by omega)
    refine ⟨l ++ [x], by simp [h1], fun i y hy => ?_⟩
    by_cases hi : i < l.length
    · rw [List.getElem?_append_left hi] at hy
      exact h2 i y hy
    · rw [List.getElem?_append_right (by omega)] at hy
      have hi' : i - l.length = 0 := by
        have := (List.getElem?_eq_some_iff.1 hy).1
        simp at this
        omega
      rw [hi'] at hy
      simp only [List.getElem?_cons_zero, Option.some.injEq] at hy
      subst hy
      rw [show i = n from by omega]
      exact hx
theorem weights_all {H : Type} {P : Program} {e : TypeId} {d : DataW H} : ∀ {l : List (DataW H)}, d ∈ l → ∀ n ∈ d.weights P e, n ∈ DataW.weightsAll P e l
  | [], h, _, _ => by cases h
  | x :: l, h, n, hn => by
    simp only [DataW.weightsAll, List.mem_append]
    rcases List.mem_cons.1 h with rfl | h
    · exact .inl hn
    · exact .inr (weights_all h n hn)
theorem cells_wordss {H : Type} {enc : TypeId × Value → H} {P : Program} {W : World} {t u e : TypeId} {k : IntKind} {fuel : Nat} {cs : List Value} {x : DataW H × List MemPlace} (ht : P.underlying t = some (.slice u)) (hu : P.underlying u = some (.slice e)) (he : P.underlying e = some (.int k)) (hcu : P.cellsOf u = 1) (hc : P.cellsOf e = 1)
    (h : DataW.trod enc P W 0 (fun _ => true) true fuel t cs = some x) (hr : ∀ n ∈ x.1.weights P t, n ≤ reachBytes) :
    ∃ (v : Value) (ll : List (List Int)), cs = [v] ∧ SlsRel (fun _ => False) W k ll v ∧ v.oneCell' = true ∧ (∀ l ∈ ll, (∀ n ∈ l, (Lit.int k n).wf = true) ∧ l.length * P.bytesOf e ≤ reachBytes) ∧ ll.length * P.bytesOf u ≤ reachBytes ∧
      ((ll = [] ∧ x.1 = .nil) ∨ ∃ elems rest, x.1 = .slice elems rest ∧ elems.length = ll.length ∧ ∀ (i : Nat) l d, ll[i]? = some l → elems[i]? = some d → (l = [] ∧ d = .nil) ∨ ∃ r, d = .slice (lits k l) r) := by
  rcases DataW.trod_slice ht h with ⟨h1, h2⟩ | ⟨a, len, cap, elems, rest, m, _, h1, h2, _, h3, h4, h5, h6, h7, _⟩
  · exact ⟨.slice none 0 0, [], h1, ⟨none, 0, rfl, Nat.le_refl _, Nat.zero_le _, fun _ => rfl, (fun i hi => by cases hi)⟩, rfl, (fun n hn => by cases hn), by simp, .inl ⟨rfl, by rw [h2]⟩⟩
  · subst h2
    simp only [DataW.weights, ht] at hr
    have each : ∀ i, i < len → ∃ l : List Int, ∃ v y, elems[i]? = some y ∧ W.cell? (a.add i) = some v ∧ SlRel (fun _ => False) W k l v ∧ (∀ n ∈ l, (Lit.int k n).wf = true) ∧ l.length * P.bytesOf e ≤ reachBytes ∧ ((l = [] ∧ y.1 = .nil) ∨ ∃ r, y.1 = .slice (lits k l) r) := by
      intro i hi
      have he' := h6 i hi
      have hy : elems[i]? = some (elems[i]'(by omega)) := List.getElem?_eq_getElem (by omega)
      rw [hy, hcu, Nat.mul_one, Option.bind_eq_some_iff] at he'
      obtain ⟨cs', hcs, hy'⟩ := he'
      obtain ⟨v, l, g1, g2, _, g4, g5, g6⟩ := cells_words hu he hc hy' (fun n hn => hr n (List.mem_cons_of_mem _ (List.mem_append_left _ (weights_all (List.mem_map_of_mem (List.getElem_mem (by omega))) n hn))))
      subst g1
      exact ⟨l, v, _, hy, cell_of_cells?_one hcs, g2, g4, g5, g6⟩
    obtain ⟨ll, hl1, hl2⟩ := choose_list each
    refine ⟨_, ll, h1, ⟨some a, cap, by rw [hl1], by omega, h4, (fun h => by cases h), fun i hi => ?_⟩, rfl, fun l hl => ?_, ?_, .inr ⟨_, _, rfl, by rw [List.length_map, h5, hl1], fun i l d hl hd => ?_⟩⟩
    · obtain ⟨v, y, _, g2, g3, _⟩ := hl2 i (ll.getD i []) (by rw [List.getD_eq_getElem?_getD, List.getElem?_eq_getElem hi]; rfl)
      obtain ⟨v0, _, _, g0, _⟩ := hl2 0 _ (List.getElem?_eq_getElem (show 0 < ll.length by omega))
      rw [Addr.add, if_pos rfl] at g0
      have hs := no_spot g0
      rw [add_plain hs] at g2
      refine ⟨a.block, a.off, v, ?_, fun h => h, g2, g3⟩
      cases a
      simp only at hs
      subst hs
      rfl
    · obtain ⟨i, hi⟩ := List.getElem?_of_mem hl
      obtain ⟨_, _, _, _, _, g4, g5, _⟩ := hl2 i l hi
      exact ⟨g4, g5⟩
    · have := hr _ (List.mem_cons_self ..)
      rw [List.length_map, List.length_map, Nat.add_mul] at this
      rw [hl1, ← h5]
      omega
    · obtain ⟨_, y, g1, _, _, _, _, g6⟩ := hl2 i l hl
      rw [List.getElem?_map, g1] at hd
      simp only [Option.map_some, Option.some.injEq] at hd
      subst hd
      exact g6
theorem open_wordss {H : Type} {enc : TypeId × Value → H} {P : Program} {W : World} {base : Nat} {t u e : TypeId} {k : IntKind} {v : Value} {d : DataW H} {ps : List MemPlace} (ht : P.underlying t = some (.slice u)) (hu : P.underlying u = some (.slice e)) (he : P.underlying e = some (.int k)) (hcu : P.cellsOf u = 1) (hc : P.cellsOf e = 1)
    (hval : Value.okWide P W .any base t v) (hd : DataW.Trod enc P W 0 (fun _ => true) true t v d ps) (hr : ∀ n ∈ d.weights P t, n ≤ reachBytes) :
    ∃ ll : List (List Int), SlsRel (fun _ => False) W k ll v ∧ v.oneCell' = true ∧ (∀ l ∈ ll, (∀ n ∈ l, (Lit.int k n).wf = true) ∧ l.length * P.bytesOf e ≤ reachBytes) ∧ ll.length * P.bytesOf u ≤ reachBytes ∧
      ((ll = [] ∧ d = .nil) ∨ ∃ elems rest, d = .slice elems rest ∧ elems.length = ll.length ∧ ∀ (i : Nat) l d, ll[i]? = some l → elems[i]? = some d → (l = [] ∧ d = .nil) ∨ ∃ r, d = .slice (lits k l) r) := by
  obtain ⟨a0, len, cap, rfl⟩ := okWide_slice ht hval
  obtain ⟨fuel, hf⟩ := hd
  obtain ⟨v, ll, h1, h2, h3, h4, h5, h6⟩ := cells_wordss ht hu he hcu hc hf hr
  have h1' : [Value.slice a0 len cap] = [v] := h1
  simp only [List.cons.injEq, and_true] at h1'
  subst h1'
  exact ⟨ll, h2, h3, h4, h5, h6⟩
theorem wf_u8 {n : Int} (h : (Lit.int .u8 n).wf = true) : 0 ≤ n ∧ n < 256 := by
  have h1 : IntKind.u8.min = 0 := rfl
  have h2 : IntKind.u8.max = 255 := rfl
  simp only [Lit.wf, Bool.and_eq_true, decide_eq_true_eq] at h
  omega
theorem wf_i64 {n : Int} (h : (Lit.int .i64 n).wf = true) : -9223372036854775808 ≤ n ∧ n ≤ 9223372036854775807 := by
  have h1 : IntKind.i64.min = -9223372036854775808 := rfl
  have h2 : IntKind.i64.max = 9223372036854775807 := rfl
  simp only [Lit.wf, Bool.and_eq_true, decide_eq_true_eq] at h
  omega
theorem one_wordss {D : Dom} {W : World} {k : IntKind} {ll : List (List Int)} {v : Value} (h : SlsRel (fun _ => False) W k ll v) (h1 : v.oneCell' = true) : A0Rel D (cenv W) (.one (.wordss k ll)) v := ⟨h1, v, rfl, h⟩
theorem one_num {D : Dom} {W : World} {k : IntKind} {b : Bool} {n : Int} : A0Rel D (cenv W) (.one (.int k b n)) (.int k n) := ⟨rfl, rfl⟩
theorem rel_nil {D : Dom} {E : Env} : A0sRel D E [] [] := rfl
theorem rel_cons {D : Dom} {E : Env} {a : A0 D.τ} {v : Value} {xs : List (A0 D.τ)} {vs : List Value} (h : A0Rel D E a v) (k : A0sRel D E xs vs) : A0sRel D E (a :: xs) (v :: vs) := ⟨v, vs, rfl, h, k⟩
theorem law_calls {P : Program} {D : Dom} {Γ : Gam D} (hΓ : GamOK P D Γ) (hm : P.follows .mixedOrders = true) {f : FuncId} {fn : Func} (hf : P.funcs[f]? = some fn) {fuel : Nat} {xs : List (A0 D.τ)} {ds : List (Dec D.τ)} {b : Bool} {ps : List Prop}
    (h : runF P D Γ fuel fn xs ds = some (.v (.one (.bool b true)), ps)) (hps : AllQ ps) {W : World} {vs : List Value} (hG : GlobAt D W) (hx : A0sRel D (cenv W) xs vs) :
    Calls P f vs.toArray W fun e w' => e = .returned (.bool true) ∧ Below W.heap.size W w' := by
  refine (runF_calls hΓ hm hf h hps hG hx).mono ?_
  rintro e w' ⟨v, he, ⟨ν, _, hr⟩, hb⟩
  have hv : v = .bool true := by
    obtain ⟨_, h2⟩ := hr
    simpa [PartRel] using h2
  subst hv
  exact ⟨he, hb⟩
end Go.Laws
namespace Go.Laws
open Go.Abs Go.Proofs Go.Proofs.YthdhjbmgmfndhaaDoor Go.RowKit Go.Num
theorem gFirst : Tryd.prog.globalNamed "cresset/sha.first" = some 0 := by kernel_rfl
theorem gRoots : Tryd.prog.globalNamed "cresset/sha.roots" = some 1 := by kernel_rfl
theorem tFirst : (Tryd.prog.globals[0]?).map (·.type) = some 102 := by kernel_rfl
theorem tRoots : (Tryd.prog.globals[1]?).map (·.type) = some 125 := by kernel_rfl
theorem globAt {W : World} (h : laidMet Tryd.prog [("cresset/sha.first", Rows.laid_cresset_sha_first), ("cresset/sha.roots", Rows.laid_cresset_sha_roots)] W) : GlobAt DS W := by
  have h1 : Lib.TabIs Tryd.prog W "cresset/sha.first" .u32 firstL := Lib.tabIs_of_head gFirst tFirst Tryd.underlying102 Tryd.underlying94 (by kernel_rfl) (by kernel_rfl) h
  have h2 : Lib.TabIs Tryd.prog W "cresset/sha.roots" .u32 rootsL := Lib.tabIs_of_head gRoots tRoots Tryd.underlying125 Tryd.underlying94 (by kernel_rfl) (by kernel_rfl) (laidMet.tail h)
  have put : ∀ {g : Nat} {name : String} {l : List Int}, Tryd.prog.globalNamed name = some g → Lib.TabIs Tryd.prog W name .u32 l → 0 < l.length → g < W.heap.size ∧ ∀ i, i < l.length → W.cell? ⟨g, i, none⟩ = some (.int .u32 (l.getD i 0)) := by
    intro g name l hg ht hl
    refine ⟨?_, fun i hi => ht.cell hg i hi⟩
    have h0 := ht.cell hg 0 hl
    unfold World.cell? at h0
    split at h0
    · rename_i hh
      exact (Array.getElem?_eq_some_iff.1 hh).1
    · cases h0
  intro g k l hg
  have hg : (bif Nat.beq g 0 then some (IntKind.u32, firstL) else bif Nat.beq g 1 then some (IntKind.u32, rootsL) else none) = some (k, l) := hg
  cases e1 : Nat.beq g 0 <;> rw [e1] at hg
  · cases e2 : Nat.beq g 1 <;> rw [e2] at hg
    · cases hg
    · simp only [cond_false, cond_true, Option.some.injEq, Prod.mk.injEq] at hg
      obtain ⟨rfl, rfl⟩ := hg
      obtain rfl := Nat.eq_of_beq_eq_true e2
      exact put gRoots h2 (by decide)
  · simp only [cond_true, Option.some.injEq, Prod.mk.injEq] at hg
    obtain ⟨rfl, rfl⟩ := hg
    obtain rfl := Nat.eq_of_beq_eq_true e1
    exact put gFirst h1 (by decide)
def layTab (l : List Int) : Obj → Obj
  | .cells _ t frozen => .cells (l.map (.int .u32)).toArray t frozen
  | o => o
noncomputable def laidWorld (os : Os) : World :=
  { World.holding Tryd.prog os ⟨#[], #[], []⟩ with heap := ((World.holding Tryd.prog os ⟨#[], #[], []⟩).heap.modify 0 (layTab firstL)).modify 1 (layTab rootsL) }
end Go.Laws
