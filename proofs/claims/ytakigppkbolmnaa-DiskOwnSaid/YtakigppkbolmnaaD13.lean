/- Disk: the head; DiskSafe, DiskFull: the runs. -/
import Derived.Test.YtakigppkbolmnaaD12
namespace Go.Num
open Go.Abs Go.Proofs Go.Shelf Go.RowKit

noncomputable def newQ := mkF DF Try.f8.ntmps (fun bs xs => match bs, xs with | [], [.one (.int .i64 _ n)] => some n | _, _ => none) (fun n => ([], [.one (.int .i64 false n)]))
  (fun n => some (.v (.one (.ref 0 0)), dkBt (clampR n, 0, 0, false, []), []))
theorem new_ok : OpOK Try.prog DF 8 newQ := by
  refine opOK_mk gam_nil mixed Try.func8 (enters_of Try.func8 (by kernel_rfl) rfl) ?_
  intro n r' bs' ps h hps
  simp only [Option.some.injEq, Prod.mk.injEq] at h
  obtain ⟨rfl, rfl, rfl⟩ := h
  exact ⟨_, _, ne_run n _ rfl⟩

/-- What the disk's calls do. -/
noncomputable def gDk : Gam DF := [(8, .op [false] newQ), (10, .op [true, false, false] appendQ), (12, .op [true, false] syncQ), (21, .op [true, false, false] cutQ),
  (20, .op [true, false] dropQ), (15, .rd [true, false] readR), (18, .rd [true] imageR), (17, .rd [true] freeR),
  (23, .rd [true] stepsR), (24, .rd [true] downR), (13, .op [true, false] fuseQ), (14, .op [true, false] crashQ), (11, .fn (copyD DF)), (16, .fn (sameD DF))]
theorem gDk_ok : GamOK Try.prog DF gDk :=
  gam_op new_ok (gam_op append_ok (gam_op sync_ok (gam_op cut_ok (gam_op drop_ok (gam_rd read_ok (gam_rd image_ok (gam_rd freeR_ok (gam_rd steps_ok (gam_rd down_ok (gam_op fuse_ok (gam_op crash_ok (gam_cons (copy_ok DF) (gam_cons (same_ok DF) gam_nil)))))))))))))

abbrev hd_run_x1  := ((Go.Num.appendM ((Go.Num.syncM ((Go.Num.appendM ((Go.Num.clampR (4 : Int)), ((0 : Int), ((0 : Int), (Bool.false, ([] : List (Rec × Ob)))))) (ByteArray.mk (Array.mk [(97 : UInt8)])) ([(1 : Int), (2 : Int), (3 : Int)] : List Int))).2 (ByteArray.mk (Array.mk [(97 : UInt8)])))).2 (ByteArray.mk (Array.mk [(97 : UInt8)])) ([(4 : Int), (5 : Int)] : List Int)))
abbrev hd_run_x2  := ((Go.Num.appendM ((Go.Num.clampR (4 : Int)), ((0 : Int), ((0 : Int), (Bool.false, ([] : List (Rec × Ob)))))) (ByteArray.mk (Array.mk [(97 : UInt8)])) ([(1 : Int), (2 : Int), (3 : Int)] : List Int)))
abbrev hd_run_x3  := (Go.Num.crashM ((Go.Num.syncM (hd_run_x1 ).2 (ByteArray.mk (Array.mk [(97 : UInt8)])))).2 ([(9 : Int)] : List Int))
abbrev hd_run_x4  := (Go.Num.syncM (hd_run_x2 ).2 (ByteArray.mk (Array.mk [(97 : UInt8)])))
abbrev hd_run_x5  := (Go.Num.syncM (hd_run_x1 ).2 (ByteArray.mk (Array.mk [(97 : UInt8)])))
theorem hd_run 
 (h1 : (Go.Num.DkOK ((Go.Num.clampR (4 : Int)), ((0 : Int), ((0 : Int), (Bool.false, ([] : List (Rec × Ob))))))))
 (h2 : (((hd_run_x2 ).1 != (0 : Int)) = Bool.false))
 (h3 : (Go.Num.DkOK (hd_run_x2 ).2))
 (h4 : (((hd_run_x4 ).1 != (0 : Int)) = Bool.false))
 (h5 : (Go.Num.DkOK (hd_run_x4 ).2))
 (h6 : (((hd_run_x1 ).1 != (0 : Int)) = Bool.false))
 (h7 : (Go.Num.DkOK (hd_run_x1 ).2))
 (h8 : (((hd_run_x5 ).1 != (42 : Int)) = Bool.false))
 (h9 : (Go.Num.Okd (hd_run_x5 ).2))
 (h10 : (Go.Num.Okd (hd_run_x3 )))
 (h11 : ((((Go.Num.readM (hd_run_x3 ) (ByteArray.mk (Array.mk [(97 : UInt8)])))).1 == (0 : Int)) = Bool.true))
 (h12 : ((decide (((Go.Num.readM (hd_run_x3 ) (ByteArray.mk (Array.mk [(97 : UInt8)])))).2 = ([(1 : Int), (2 : Int), (3 : Int), (4 : Int)] : List Int))) = Bool.true))
 (h13 : ((List.length ((Go.Num.readM (hd_run_x3 ) (ByteArray.mk (Array.mk [(97 : UInt8)])))).2) ≤ (9223372036854775807 : Nat)))
 (h14 : (Go.Num.FreeOK (Option.none) (((((hd_run_x3 )).2).2).2).2 ((hd_run_x3 )).1))
 (h15 : (((((hd_run_x3 )).1 - (Go.Num.safeSum (Option.none) (((((hd_run_x3 )).2).2).2).2)) == (0 : Int)) = Bool.true))
 (h16 : (((((hd_run_x3 )).2).1 == (3 : Int)) = Bool.true)) :
 ∃ ps, runF Try.prog DF gDk 100 Try.f9 [] [.is false, .is false, .is false, .is false, .is true, .is true, .is true, .is true] = some ((Go.Abs.AV.v (Go.Abs.A0.one (Go.Abs.Part.bool Bool.true Bool.true))), ps) ∧ AllQ ps := ⟨_, by kernel_rfl, allQ_cons (show ((4 : Int) = (4 : Int)) from rfl) (allQ_cons (show ((ByteArray.mk (Array.mk [(97 : UInt8)])) = (ByteArray.mk (Array.mk [(97 : UInt8)]))) from rfl) (allQ_cons (show (([(1 : Int), (2 : Int), (3 : Int)] : List Int) = ([(1 : Int), (2 : Int), (3 : Int)] : List Int)) from rfl) (allQ_cons (show ((Go.Num.clampR (4 : Int)) = (Go.Num.clampR (4 : Int))) from rfl) (allQ_cons (show ((0 : Int) = (0 : Int)) from rfl) (allQ_cons (show ((0 : Int) = (0 : Int)) from rfl) (allQ_cons (show (Bool.false = Bool.false) from rfl) (allQ_cons (show (([] : List (Rec × Ob)) = ([] : List (Rec × Ob))) from rfl) (allQ_cons h1 (allQ_cons (show ((1 : Nat) ≤ (9223372036854775807 : Nat)) from by decide) (allQ_cons (show ((3 : Nat) ≤ (4611686018427387904 : Nat)) from by decide) (allQ_cons h2 (allQ_cons (show ((ByteArray.mk (Array.mk [(97 : UInt8)])) = (ByteArray.mk (Array.mk [(97 : UInt8)]))) from rfl) (allQ_cons (show (((hd_run_x2 ).2).1 = ((hd_run_x2 ).2).1) from rfl) (allQ_cons (show ((((hd_run_x2 ).2).2).1 = (((hd_run_x2 ).2).2).1) from rfl) (allQ_cons (show (((((hd_run_x2 ).2).2).2).1 = ((((hd_run_x2 ).2).2).2).1) from rfl) (allQ_cons (show ((((((hd_run_x2 ).2).2).2).2).1 = (((((hd_run_x2 ).2).2).2).2).1) from rfl) (allQ_cons (show ((((((hd_run_x2 ).2).2).2).2).2 = (((((hd_run_x2 ).2).2).2).2).2) from rfl) (allQ_cons h3 (allQ_cons (show ((1 : Nat) ≤ (9223372036854775807 : Nat)) from by decide) (allQ_cons h4 (allQ_cons (show ((ByteArray.mk (Array.mk [(97 : UInt8)])) = (ByteArray.mk (Array.mk [(97 : UInt8)]))) from rfl) (allQ_cons (show (([(4 : Int), (5 : Int)] : List Int) = ([(4 : Int), (5 : Int)] : List Int)) from rfl) (allQ_cons (show (((hd_run_x4 ).2).1 = ((hd_run_x4 ).2).1) from rfl) (allQ_cons (show ((((hd_run_x4 ).2).2).1 = (((hd_run_x4 ).2).2).1) from rfl) (allQ_cons (show (((((hd_run_x4 ).2).2).2).1 = ((((hd_run_x4 ).2).2).2).1) from rfl) (allQ_cons (show ((((((hd_run_x4 ).2).2).2).2).1 = (((((hd_run_x4 ).2).2).2).2).1) from rfl) (allQ_cons (show ((((((hd_run_x4 ).2).2).2).2).2 = (((((hd_run_x4 ).2).2).2).2).2) from rfl) (allQ_cons h5 (allQ_cons (show ((1 : Nat) ≤ (9223372036854775807 : Nat)) from by decide) (allQ_cons (show ((2 : Nat) ≤ (4611686018427387904 : Nat)) from by decide) (allQ_cons h6 (allQ_cons (show ((ByteArray.mk (Array.mk [(97 : UInt8)])) = (ByteArray.mk (Array.mk [(97 : UInt8)]))) from rfl) (allQ_cons (show (((hd_run_x1 ).2).1 = ((hd_run_x1 ).2).1) from rfl) (allQ_cons (show ((((hd_run_x1 ).2).2).1 = (((hd_run_x1 ).2).2).1) from rfl) (allQ_cons (show (((((hd_run_x1 ).2).2).2).1 = ((((hd_run_x1 ).2).2).2).1) from rfl) (allQ_cons (show ((((((hd_run_x1 ).2).2).2).2).1 = (((((hd_run_x1 ).2).2).2).2).1) from rfl) (allQ_cons (show ((((((hd_run_x1 ).2).2).2).2).2 = (((((hd_run_x1 ).2).2).2).2).2) from rfl) (allQ_cons h7 (allQ_cons (show ((1 : Nat) ≤ (9223372036854775807 : Nat)) from by decide) (allQ_cons h8 (allQ_cons (show (([(9 : Int)] : List Int) = ([(9 : Int)] : List Int)) from rfl) (allQ_cons (show (((hd_run_x5 ).2).1 = ((hd_run_x5 ).2).1) from rfl) (allQ_cons (show ((((hd_run_x5 ).2).2).1 = (((hd_run_x5 ).2).2).1) from rfl) (allQ_cons (show (((((hd_run_x5 ).2).2).2).1 = ((((hd_run_x5 ).2).2).2).1) from rfl) (allQ_cons (show ((((((hd_run_x5 ).2).2).2).2).1 = (((((hd_run_x5 ).2).2).2).2).1) from rfl) (allQ_cons (show ((((((hd_run_x5 ).2).2).2).2).2 = (((((hd_run_x5 ).2).2).2).2).2) from rfl) (allQ_cons h9 (allQ_cons (show ((ByteArray.mk (Array.mk [(97 : UInt8)])) = (ByteArray.mk (Array.mk [(97 : UInt8)]))) from rfl) (allQ_cons (show (((hd_run_x3 )).1 = ((hd_run_x3 )).1) from rfl) (allQ_cons (show ((((hd_run_x3 )).2).1 = (((hd_run_x3 )).2).1) from rfl) (allQ_cons (show (((((hd_run_x3 )).2).2).1 = ((((hd_run_x3 )).2).2).1) from rfl) (allQ_cons (show ((((((hd_run_x3 )).2).2).2).1 = (((((hd_run_x3 )).2).2).2).1) from rfl) (allQ_cons (show ((((((hd_run_x3 )).2).2).2).2 = (((((hd_run_x3 )).2).2).2).2) from rfl) (allQ_cons h10 (allQ_cons (show ((1 : Nat) ≤ (9223372036854775807 : Nat)) from by decide) (allQ_cons h11 (allQ_cons h12 (allQ_cons h13 (allQ_cons (show ((4 : Nat) ≤ (9223372036854775807 : Nat)) from by decide) (allQ_cons h14 (allQ_cons h15 (allQ_cons (show (((hd_run_x3 )).1 = ((hd_run_x3 )).1) from rfl) (allQ_cons (show ((((hd_run_x3 )).2).1 = (((hd_run_x3 )).2).1) from rfl) (allQ_cons (show (((((hd_run_x3 )).2).2).1 = ((((hd_run_x3 )).2).2).1) from rfl) (allQ_cons (show ((((((hd_run_x3 )).2).2).2).1 = (((((hd_run_x3 )).2).2).2).1) from rfl) (allQ_cons (show ((((((hd_run_x3 )).2).2).2).2 = (((((hd_run_x3 )).2).2).2).2) from rfl) (allQ_cons h16 (allQ_nil))))))))))))))))))))))))))))))))))))))))))))))))))))))))))))))))))))⟩

/-! The head -/

theorem sortK_one (s : ByteArray) (o : Ob) : sortK [([Fd.s s], o)] = [[Fd.s s]] := by
  unfold sortK keyL
  rw [show ([([Fd.s s], o)] : List (Rec × Ob)).map (fun e => (recS e.1 0).data.toList) = [s.data.toList] from rfl, List.mergeSort_singleton]
  show [[Fd.s ⟨s.data.toList.toArray⟩]] = _
  rw [ba_back]
theorem sortK_nil : sortK [] = [] := by
  unfold sortK keyL
  rw [List.map_nil, List.mergeSort_nil]
  rfl

theorem okd_new (n : Int) : Okd (clampR n, 0, 0, false, []) :=
  ⟨fun e he => (List.not_mem_nil he).elim, List.nodup_nil, fun e he => (List.not_mem_nil he).elim, Nat.zero_le _, clampR_ok n, (clampR_ok n).1, Int.le_refl _, ⟨Int.le_refl _, (by decide : (0 : Int) ≤ 9223372036854775807)⟩⟩

/-- A disk as it should be, of no more than so many steps. -/
def OkN (d : DkT) (n : Int) : Prop := Okd d ∧ d.2.1 ≤ n
theorem OkN.dk {d : DkT} {n : Int} (h : OkN d n) (hn : n ≤ 4611686018427387904) : DkOK d := ⟨h.1, by have := h.2; omega⟩
theorem OkN.nxt {d d' : DkT} {n : Int} (h : OkN d n) (hx : Nxt d d') : OkN d' (n + 1) := ⟨hx.1, by have := h.2; have := hx.2.1; omega⟩

abbrev cA : ByteArray := ⟨#[97]⟩
def hd0 : DkT := (clampR 4, 0, 0, false, [])
def hd4 : DkT := (syncM (appendM (syncM (appendM hd0 cA [1, 2, 3]).2 cA).2 cA [4, 5]).2 cA).2
theorem hd4_is : hd4 = (4, 3, 0, false, [([Fd.s cA], fileOb [1, 2, 3, 4, 5] 3)]) := by kernel_rfl
theorem hd5_is : crashM hd4 [9] = (4, 3, 0, false, [([Fd.s cA], fileOb [1, 2, 3, 4] 4)]) := by
  rw [hd4_is]
  unfold crashM
  simp only
  rw [sortK_one]
  kernel_rfl

def headD : FnD DF
  | [] => some (.v (.one (.bool true true)), [])
  | _ => none
theorem head_ok : FnOK Try.prog DF 9 headD := by
  refine fnOK_of gDk_ok mixed Try.func9 (enters_of Try.func9 (by kernel_rfl) rfl) ?_
  intro xs r ps h hps
  unfold headD at h
  split at h
  · cases h
    have o0 : OkN hd0 0 := ⟨okd_new 4, Int.le_refl _⟩
    have o1 := o0.nxt (append_nxt o0.1 cA [1, 2, 3])
    have o2 := o1.nxt (sync_nxt o1.1 cA)
    have o3 := o2.nxt (append_nxt o2.1 cA [4, 5])
    have o4 := o3.nxt (sync_nxt o3.1 cA)
    have o5 : Okd (crashM hd4 [9]) := crash_ok0 o4.1 [9]
    have e1 : ((readM (crashM hd4 [9]) cA).1 == 0) = true := by rw [hd5_is]; kernel_rfl
    have e2 : (readM (crashM hd4 [9]) cA).2 = [1, 2, 3, 4] := by rw [hd5_is]; kernel_rfl
    have e3 : ((crashM hd4 [9]).1 - safeSum none (crashM hd4 [9]).2.2.2.2 == 0) = true := by rw [hd5_is]; kernel_rfl
    have e4 : ((crashM hd4 [9]).2.1 == 3) = true := by rw [hd5_is]; kernel_rfl
    have e6 : (readM (crashM hd4 [9]) cA).2.length ≤ 9223372036854775807 := by rw [e2]; decide
    obtain ⟨ps, p1, p2⟩ := hd_run (o0.dk (by decide)) (by kernel_rfl) (o1.dk (by decide)) (by kernel_rfl) (o2.dk (by decide)) (by kernel_rfl) (o3.dk (by decide)) (by kernel_rfl) o4.1 o5 e1 (decide_eq_true e2) e6 o5.freeN e3 e4
    exact ⟨_, 100, _, _, _, fun w vs h => h, p1, p2, fun E v hv => hv⟩
  · cases h

end Go.Num
