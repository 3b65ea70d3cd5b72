/- Several texts put together: B20 B21 B22 B23 B24 BP1 BP2 BP3. -/
import Derived.Test.YtgfinnhfpiadiaaMrg11
namespace Go.Num
open Go.Abs Go.Proofs Go.Shelf Go.RowKit
def oSh : List FK := [.int .i64, .int .i64, .int .i64, .words .u8] ++ mSh
def sdX (sd : List Rec) : BoxSt DB.τ := .dyn 40 (.lrs oSh sd)
noncomputable def gPl : Gam DB := [(bornId, .fn (bornD DB [(5, 0, 3, 61)])), (freezeId, .fn (freezeD DB [14, 15, 19, 20])), (18, .fz (copyD DB)), (13, .rd [false] copy16R), (16, .op [true, false, false] sayHQ), (15, .op [true, false] inQ), (19, .op [true, false, false, false] doneQ), (11, .op [true, false] dlvQ)]
theorem gPl_ok : GamOK Try.prog DB gPl := gam_born (gam_freeze (gam_fz (copy_ok DB) (gam_rd copy16_ok (gam_op sayH_ok (gam_op in_ok (gam_op done_ok (gam_op dlv_ok gam_nil)))))))
def plSn (n g : Int) (sc : List Rec) (es : List (Rec × Ob)) (ml : List Rec) (td : List (List Rec)) (sd : List Rec) (i : Int) : Sn DB.τ where
  slots := [(0, .v (.one (.ref 0 0))), (1, .v (.one (.prs oSh sc))), (6, .v (.one (.own 3))), (7, .v (.one (.int .i64 false i)))]
  boxes := enumB 0 (ntB n g es ml td ++ [sdX sd])
  nt := 217
  np := 2
def plEd (n g : Int) (es : List (Rec × Ob)) (ml : List Rec) (td : List (List Rec)) (sd : List Rec) : Sn DB.τ where
  slots := [(0, .v (.one (.ref 0 0))), (6, .v (.one (.own 3)))]
  boxes := enumB 0 (ntB n g es ml td ++ [sdX sd])
  nt := 217
  np := 2
theorem pl_exit1 (n g : Int) (sc : List Rec) (es : List (Rec × Ob)) (ml : List Rec) (td : List (List Rec)) (sd : List Rec) (i : Int)
 (h1 : ((decide (i < (((List.length sc) : Nat) : Int))) = false)) :
 ∃ ps, stepPs Try.prog DB gPl 100 (bodyN Try.f8 0) 100 (plSn n g sc es ml td sd i).st [.is false] (.exit 0) (plEd n g es ml td sd) = some ps ∧ AllQ ps := ⟨_, by kernel_rfl, qc h1 (qc (er n) (qc (er g) (qc (er td) (qc (er es) (qc (er ml) (qc (er sd) (qn)))))))⟩
theorem pl_exit2 (n g : Int) (sc : List Rec) (es : List (Rec × Ob)) (ml : List Rec) (td : List (List Rec)) (sd : List Rec) (i : Int)
 (h1 : ((decide (i < (((List.length sc) : Nat) : Int))) = true))
 (h2 : ((decide (i < (300 : Int))) = false)) :
 ∃ ps, stepPs Try.prog DB gPl 100 (bodyN Try.f8 0) 100 (plSn n g sc es ml td sd i).st [.is true, .is false] (.exit 0) (plEd n g es ml td sd) = some ps ∧ AllQ ps := ⟨_, by kernel_rfl, qc h1 (qc h2 (qc (er n) (qc (er g) (qc (er td) (qc (er es) (qc (er ml) (qc (er sd) (qn))))))))⟩
theorem pl_other (n g : Int) (sc : List Rec) (es : List (Rec × Ob)) (ml : List Rec) (td : List (List Rec)) (sd : List Rec) (i i' : Int)
 (h1 : ((decide (i < (((List.length sc) : Nat) : Int))) = true))
 (h2 : ((decide (i < (300 : Int))) = true))
 (h3 : ((0 : Int) ≤ i))
 (h4 : (i < (((List.length sc) : Nat) : Int)))
 (h5 : (((recI (List.getD sc (Int.toNat i) ([] : List (Abs.Fd))) (0 : Nat)) == (0 : Int)) = false))
 (h6 : (((recI (List.getD sc (Int.toNat i) ([] : List (Abs.Fd))) (0 : Nat)) == (1 : Int)) = false))
 (h7 : (((recI (List.getD sc (Int.toNat i) ([] : List (Abs.Fd))) (0 : Nat)) == (3 : Int)) = false))
 (h8 : (((recI (List.getD sc (Int.toNat i) ([] : List (Abs.Fd))) (0 : Nat)) == (2 : Int)) = false))
 (h9 : (InI64 (i + (1 : Int))))
 (h10 : ((i + (1 : Int)) = i')) :
 ∃ ps, stepPs Try.prog DB gPl 100 (bodyN Try.f8 0) 100 (plSn n g sc es ml td sd i).st [.is true, .is true, .is false, .is false, .is false, .is false] .normal (plSn n g sc es ml td sd i') = some ps ∧ AllQ ps := ⟨_, by kernel_rfl, qc h1 (qc h2 (qc h3 (qc h4 (qc h5 (qc h6 (qc h7 (qc h8 (qc h9 (qc (er sc) (qc h10 (qc (er n) (qc (er g) (qc (er td) (qc (er es) (qc (er ml) (qc (er sd) (qn)))))))))))))))))⟩
theorem pl_dl1e (n g : Int) (sc : List Rec) (es : List (Rec × Ob)) (ml : List Rec) (td : List (List Rec)) (sd : List Rec) (i i' : Int)
 (h1 : ((decide (i < (((List.length sc) : Nat) : Int))) = true))
 (h2 : ((decide (i < (300 : Int))) = true))
 (h3 : ((0 : Int) ≤ i))
 (h4 : (i < (((List.length sc) : Nat) : Int)))
 (h5 : (((recI (List.getD sc (Int.toNat i) ([] : List (Abs.Fd))) (0 : Nat)) == (0 : Int)) = false))
 (h6 : (((recI (List.getD sc (Int.toNat i) ([] : List (Abs.Fd))) (0 : Nat)) == (1 : Int)) = true))
 (h7 : (((((List.length ml) : Nat) : Int) == (0 : Int)) = true))
 (h8 : (InI64 (i + (1 : Int))))
 (h9 : ((i + (1 : Int)) = i')) :
 ∃ ps, stepPs Try.prog DB gPl 100 (bodyN Try.f8 0) 100 (plSn n g sc es ml td sd i).st [.is true, .is true, .is false, .is true, .is true] .normal (plSn n g sc es ml td sd i') = some ps ∧ AllQ ps := ⟨_, by kernel_rfl, qc h1 (qc h2 (qc h3 (qc h4 (qc h5 (qc h6 (qc h7 (qc h8 (qc (er sc) (qc h9 (qc (er n) (qc (er g) (qc (er td) (qc (er es) (qc (er ml) (qc (er sd) (qn))))))))))))))))⟩
theorem pl_dl1 (n g : Int) (sc : List Rec) (es es' : List (Rec × Ob)) (ml ml' : List Rec) (td td' : List (List Rec)) (sd : List Rec) (i i' : Int)
 (h1 : ((decide (i < (((List.length sc) : Nat) : Int))) = true))
 (h2 : ((decide (i < (300 : Int))) = true))
 (h3 : ((0 : Int) ≤ i))
 (h4 : (i < (((List.length sc) : Nat) : Int)))
 (h5 : (((recI (List.getD sc (Int.toNat i) ([] : List (Abs.Fd))) (0 : Nat)) == (0 : Int)) = false))
 (h6 : (((recI (List.getD sc (Int.toNat i) ([] : List (Abs.Fd))) (0 : Nat)) == (1 : Int)) = true))
 (h7 : (((((List.length ml) : Nat) : Int) == (0 : Int)) = false))
 (h8 : ((((List.length ml) : Nat) : Int) ≠ (0 : Int)))
 (h9 : (((recI (List.getD sc (Int.toNat i) ([] : List (Abs.Fd))) (0 : Nat)) == (3 : Int)) = false))
 (h10 : (DlOK n g es ml td (Int.toNat (Int.tmod (bitsOf Go.BinOp.and Go.IntKind.i64 (recI (List.getD sc (Int.toNat i) ([] : List (Abs.Fd))) ((0 : Nat) + (1 : Nat))) (65535 : Int)) (((List.length ml) : Nat) : Int)))))
 (h11 : ((0 : Int) ≤ (Int.tmod (bitsOf Go.BinOp.and Go.IntKind.i64 (recI (List.getD sc (Int.toNat i) ([] : List (Abs.Fd))) ((0 : Nat) + (1 : Nat))) (65535 : Int)) (((List.length ml) : Nat) : Int))))
 (h12 : (InI64 (i + (1 : Int))))
 (h13 : ((i + (1 : Int)) = i'))
 (h14 : ((((dlM g es ml td (Int.toNat (Int.tmod (bitsOf Go.BinOp.and Go.IntKind.i64 (recI (List.getD sc (Int.toNat i) ([] : List (Abs.Fd))) ((0 : Nat) + (1 : Nat))) (65535 : Int)) (((List.length ml) : Nat) : Int))))).2).2 = td'))
 (h15 : (((dlM g es ml td (Int.toNat (Int.tmod (bitsOf Go.BinOp.and Go.IntKind.i64 (recI (List.getD sc (Int.toNat i) ([] : List (Abs.Fd))) ((0 : Nat) + (1 : Nat))) (65535 : Int)) (((List.length ml) : Nat) : Int))))).1 = es'))
 (h16 : ((((dlM g es ml td (Int.toNat (Int.tmod (bitsOf Go.BinOp.and Go.IntKind.i64 (recI (List.getD sc (Int.toNat i) ([] : List (Abs.Fd))) ((0 : Nat) + (1 : Nat))) (65535 : Int)) (((List.length ml) : Nat) : Int))))).2).1 = ml')) :
 ∃ ps, stepPs Try.prog DB gPl 100 (bodyN Try.f8 0) 100 (plSn n g sc es ml td sd i).st [.is true, .is true, .is false, .is true, .is false, .is false] .normal (plSn n g sc es' ml' td' sd i') = some ps ∧ AllQ ps := ⟨_, by kernel_rfl, qc h1 (qc h2 (qc h3 (qc h4 (qc h5 (qc h6 (qc h7 (qc h8 (qc h9 (qc (er ((Int.tmod (bitsOf Go.BinOp.and Go.IntKind.i64 (recI (List.getD sc (Int.toNat i) ([] : List (Abs.Fd))) ((0 : Nat) + (1 : Nat))) (65535 : Int)) (((List.length ml) : Nat) : Int)))) (qc (er n) (qc (er g) (qc (er td) (qc (er es) (qc (er ml) (qc h10 (qc h11 (qc h12 (qc (er sc) (qc h13 (qc (er n) (qc (er g) (qc h14 (qc h15 (qc h16 (qc (er sd) (qn))))))))))))))))))))))))))⟩
theorem pl_dl3e (n g : Int) (sc : List Rec) (es : List (Rec × Ob)) (ml : List Rec) (td : List (List Rec)) (sd : List Rec) (i i' : Int)
 (h1 : ((decide (i < (((List.length sc) : Nat) : Int))) = true))
 (h2 : ((decide (i < (300 : Int))) = true))
 (h3 : ((0 : Int) ≤ i))
 (h4 : (i < (((List.length sc) : Nat) : Int)))
 (h5 : (((recI (List.getD sc (Int.toNat i) ([] : List (Abs.Fd))) (0 : Nat)) == (0 : Int)) = false))
 (h6 : (((recI (List.getD sc (Int.toNat i) ([] : List (Abs.Fd))) (0 : Nat)) == (1 : Int)) = false))
 (h7 : (((recI (List.getD sc (Int.toNat i) ([] : List (Abs.Fd))) (0 : Nat)) == (3 : Int)) = true))
 (h8 : (((((List.length ml) : Nat) : Int) == (0 : Int)) = true))
 (h9 : (InI64 (i + (1 : Int))))
 (h10 : ((i + (1 : Int)) = i')) :
 ∃ ps, stepPs Try.prog DB gPl 100 (bodyN Try.f8 0) 100 (plSn n g sc es ml td sd i).st [.is true, .is true, .is false, .is false, .is true, .is true] .normal (plSn n g sc es ml td sd i') = some ps ∧ AllQ ps := ⟨_, by kernel_rfl, qc h1 (qc h2 (qc h3 (qc h4 (qc h5 (qc h6 (qc h7 (qc h8 (qc h9 (qc (er sc) (qc h10 (qc (er n) (qc (er g) (qc (er td) (qc (er es) (qc (er ml) (qc (er sd) (qn)))))))))))))))))⟩
theorem pl_dl3 (n g : Int) (sc : List Rec) (es es' : List (Rec × Ob)) (ml ml' : List Rec) (td td' : List (List Rec)) (sd : List Rec) (i i' : Int)
 (h1 : ((decide (i < (((List.length sc) : Nat) : Int))) = true))
 (h2 : ((decide (i < (300 : Int))) = true))
 (h3 : ((0 : Int) ≤ i))
 (h4 : (i < (((List.length sc) : Nat) : Int)))
 (h5 : (((recI (List.getD sc (Int.toNat i) ([] : List (Abs.Fd))) (0 : Nat)) == (0 : Int)) = false))
 (h6 : (((recI (List.getD sc (Int.toNat i) ([] : List (Abs.Fd))) (0 : Nat)) == (1 : Int)) = false))
 (h7 : (((recI (List.getD sc (Int.toNat i) ([] : List (Abs.Fd))) (0 : Nat)) == (3 : Int)) = true))
 (h8 : (((((List.length ml) : Nat) : Int) == (0 : Int)) = false))
 (h9 : ((((List.length ml) : Nat) : Int) ≠ (0 : Int)))
 (h10 : ((0 : Int) ≤ (Int.tmod (bitsOf Go.BinOp.and Go.IntKind.i64 (recI (List.getD sc (Int.toNat i) ([] : List (Abs.Fd))) ((0 : Nat) + (1 : Nat))) (65535 : Int)) (((List.length ml) : Nat) : Int))))
 (h11 : ((Int.tmod (bitsOf Go.BinOp.and Go.IntKind.i64 (recI (List.getD sc (Int.toNat i) ([] : List (Abs.Fd))) ((0 : Nat) + (1 : Nat))) (65535 : Int)) (((List.length ml) : Nat) : Int)) < (((List.length ml) : Nat) : Int)))
 (h12 : ((Int.toNat (Int.tmod (bitsOf Go.BinOp.and Go.IntKind.i64 (recI (List.getD sc (Int.toNat i) ([] : List (Abs.Fd))) ((0 : Nat) + (1 : Nat))) (65535 : Int)) (((List.length ml) : Nat) : Int))) < (List.length ml)))
 (h13 : ((((List.length ml) + (1 : Nat)) * (80 : Nat)) ≤ (140737488355328 : Nat)))
 (h14 : (((List.length ml) + (1 : Nat)) ≤ (9223372036854775807 : Nat)))
 (h15 : (DlOK n g es (ml ++ [[(Fd.i (recI (List.getD ml (Int.toNat (Int.tmod (bitsOf Go.BinOp.and Go.IntKind.i64 (recI (List.getD sc (Int.toNat i) ([] : List (Abs.Fd))) ((0 : Nat) + (1 : Nat))) (65535 : Int)) (((List.length ml) : Nat) : Int))) ([] : List (Abs.Fd))) (0 : Nat))), (Fd.i (recI (List.getD ml (Int.toNat (Int.tmod (bitsOf Go.BinOp.and Go.IntKind.i64 (recI (List.getD sc (Int.toNat i) ([] : List (Abs.Fd))) ((0 : Nat) + (1 : Nat))) (65535 : Int)) (((List.length ml) : Nat) : Int))) ([] : List (Abs.Fd))) ((0 : Nat) + (1 : Nat)))), (Fd.i (recI (List.getD ml (Int.toNat (Int.tmod (bitsOf Go.BinOp.and Go.IntKind.i64 (recI (List.getD sc (Int.toNat i) ([] : List (Abs.Fd))) ((0 : Nat) + (1 : Nat))) (65535 : Int)) (((List.length ml) : Nat) : Int))) ([] : List (Abs.Fd))) (((0 : Nat) + (1 : Nat)) + (1 : Nat)))), (Fd.i (recI (List.getD ml (Int.toNat (Int.tmod (bitsOf Go.BinOp.and Go.IntKind.i64 (recI (List.getD sc (Int.toNat i) ([] : List (Abs.Fd))) ((0 : Nat) + (1 : Nat))) (65535 : Int)) (((List.length ml) : Nat) : Int))) ([] : List (Abs.Fd))) ((((0 : Nat) + (1 : Nat)) + (1 : Nat)) + (1 : Nat)))), (Fd.i (recI (List.getD ml (Int.toNat (Int.tmod (bitsOf Go.BinOp.and Go.IntKind.i64 (recI (List.getD sc (Int.toNat i) ([] : List (Abs.Fd))) ((0 : Nat) + (1 : Nat))) (65535 : Int)) (((List.length ml) : Nat) : Int))) ([] : List (Abs.Fd))) (((((0 : Nat) + (1 : Nat)) + (1 : Nat)) + (1 : Nat)) + (1 : Nat)))), (Fd.i (recI (List.getD ml (Int.toNat (Int.tmod (bitsOf Go.BinOp.and Go.IntKind.i64 (recI (List.getD sc (Int.toNat i) ([] : List (Abs.Fd))) ((0 : Nat) + (1 : Nat))) (65535 : Int)) (((List.length ml) : Nat) : Int))) ([] : List (Abs.Fd))) ((((((0 : Nat) + (1 : Nat)) + (1 : Nat)) + (1 : Nat)) + (1 : Nat)) + (1 : Nat)))), (Fd.i (recI (List.getD ml (Int.toNat (Int.tmod (bitsOf Go.BinOp.and Go.IntKind.i64 (recI (List.getD sc (Int.toNat i) ([] : List (Abs.Fd))) ((0 : Nat) + (1 : Nat))) (65535 : Int)) (((List.length ml) : Nat) : Int))) ([] : List (Abs.Fd))) (((((((0 : Nat) + (1 : Nat)) + (1 : Nat)) + (1 : Nat)) + (1 : Nat)) + (1 : Nat)) + (1 : Nat)))), (Fd.w (recW (List.getD ml (Int.toNat (Int.tmod (bitsOf Go.BinOp.and Go.IntKind.i64 (recI (List.getD sc (Int.toNat i) ([] : List (Abs.Fd))) ((0 : Nat) + (1 : Nat))) (65535 : Int)) (((List.length ml) : Nat) : Int))) ([] : List (Abs.Fd))) ((((((((0 : Nat) + (1 : Nat)) + (1 : Nat)) + (1 : Nat)) + (1 : Nat)) + (1 : Nat)) + (1 : Nat)) + (1 : Nat))))]]) td (Int.toNat (Int.tmod (bitsOf Go.BinOp.and Go.IntKind.i64 (recI (List.getD sc (Int.toNat i) ([] : List (Abs.Fd))) ((0 : Nat) + (1 : Nat))) (65535 : Int)) (((List.length ml) : Nat) : Int)))))
 (h16 : (InI64 (i + (1 : Int))))
 (h17 : ((i + (1 : Int)) = i'))
 (h18 : ((((dlM g es (ml ++ [[(Fd.i (recI (List.getD ml (Int.toNat (Int.tmod (bitsOf Go.BinOp.and Go.IntKind.i64 (recI (List.getD sc (Int.toNat i) ([] : List (Abs.Fd))) ((0 : Nat) + (1 : Nat))) (65535 : Int)) (((List.length ml) : Nat) : Int))) ([] : List (Abs.Fd))) (0 : Nat))), (Fd.i (recI (List.getD ml (Int.toNat (Int.tmod (bitsOf Go.BinOp.and Go.IntKind.i64 (recI (List.getD sc (Int.toNat i) ([] : List (Abs.Fd))) ((0 : Nat) + (1 : Nat))) (65535 : Int)) (((List.length ml) : Nat) : Int))) ([] : List (Abs.Fd))) ((0 : Nat) + (1 : Nat)))), (Fd.i (recI (List.getD ml (Int.toNat (Int.tmod (bitsOf Go.BinOp.and Go.IntKind.i64 (recI (List.getD sc (Int.toNat i) ([] : List (Abs.Fd))) ((0 : Nat) + (1 : Nat))) (65535 : Int)) (((List.length ml) : Nat) : Int))) ([] : List (Abs.Fd))) (((0 : Nat) + (1 : Nat)) + (1 : Nat)))), (Fd.i (recI (List.getD ml (Int.toNat (Int.tmod (bitsOf Go.BinOp.and Go.IntKind.i64 (recI (List.getD sc (Int.toNat i) ([] : List (Abs.Fd))) ((0 : Nat) + (1 : Nat))) (65535 : Int)) (((List.length ml) : Nat) : Int))) ([] : List (Abs.Fd))) ((((0 : Nat) + (1 : Nat)) + (1 : Nat)) + (1 : Nat)))), (Fd.i (recI (List.getD ml (Int.toNat (Int.tmod (bitsOf Go.BinOp.and Go.IntKind.i64 (recI (List.getD sc (Int.toNat i) ([] : List (Abs.Fd))) ((0 : Nat) + (1 : Nat))) (65535 : Int)) (((List.length ml) : Nat) : Int))) ([] : List (Abs.Fd))) (((((0 : Nat) + (1 : Nat)) + (1 : Nat)) + (1 : Nat)) + (1 : Nat)))), (Fd.i (recI (List.getD ml (Int.toNat (Int.tmod (bitsOf Go.BinOp.and Go.IntKind.i64 (recI (List.getD sc (Int.toNat i) ([] : List (Abs.Fd))) ((0 : Nat) + (1 : Nat))) (65535 : Int)) (((List.length ml) : Nat) : Int))) ([] : List (Abs.Fd))) ((((((0 : Nat) + (1 : Nat)) + (1 : Nat)) + (1 : Nat)) + (1 : Nat)) + (1 : Nat)))), (Fd.i (recI (List.getD ml (Int.toNat (Int.tmod (bitsOf Go.BinOp.and Go.IntKind.i64 (recI (List.getD sc (Int.toNat i) ([] : List (Abs.Fd))) ((0 : Nat) + (1 : Nat))) (65535 : Int)) (((List.length ml) : Nat) : Int))) ([] : List (Abs.Fd))) (((((((0 : Nat) + (1 : Nat)) + (1 : Nat)) + (1 : Nat)) + (1 : Nat)) + (1 : Nat)) + (1 : Nat)))), (Fd.w (recW (List.getD ml (Int.toNat (Int.tmod (bitsOf Go.BinOp.and Go.IntKind.i64 (recI (List.getD sc (Int.toNat i) ([] : List (Abs.Fd))) ((0 : Nat) + (1 : Nat))) (65535 : Int)) (((List.length ml) : Nat) : Int))) ([] : List (Abs.Fd))) ((((((((0 : Nat) + (1 : Nat)) + (1 : Nat)) + (1 : Nat)) + (1 : Nat)) + (1 : Nat)) + (1 : Nat)) + (1 : Nat))))]]) td (Int.toNat (Int.tmod (bitsOf Go.BinOp.and Go.IntKind.i64 (recI (List.getD sc (Int.toNat i) ([] : List (Abs.Fd))) ((0 : Nat) + (1 : Nat))) (65535 : Int)) (((List.length ml) : Nat) : Int))))).2).2 = td'))
 (h19 : (((dlM g es (ml ++ [[(Fd.i (recI (List.getD ml (Int.toNat (Int.tmod (bitsOf Go.BinOp.and Go.IntKind.i64 (recI (List.getD sc (Int.toNat i) ([] : List (Abs.Fd))) ((0 : Nat) + (1 : Nat))) (65535 : Int)) (((List.length ml) : Nat) : Int))) ([] : List (Abs.Fd))) (0 : Nat))), (Fd.i (recI (List.getD ml (Int.toNat (Int.tmod (bitsOf Go.BinOp.and Go.IntKind.i64 (recI (List.getD sc (Int.toNat i) ([] : List (Abs.Fd))) ((0 : Nat) + (1 : Nat))) (65535 : Int)) (((List.length ml) : Nat) : Int))) ([] : List (Abs.Fd))) ((0 : Nat) + (1 : Nat)))), (Fd.i (recI (List.getD ml (Int.toNat (Int.tmod (bitsOf Go.BinOp.and Go.IntKind.i64 (recI (List.getD sc (Int.toNat i) ([] : List (Abs.Fd))) ((0 : Nat) + (1 : Nat))) (65535 : Int)) (((List.length ml) : Nat) : Int))) ([] : List (Abs.Fd))) (((0 : Nat) + (1 : Nat)) + (1 : Nat)))), (Fd.i (recI (List.getD ml (Int.toNat (Int.tmod (bitsOf Go.BinOp.and Go.IntKind.i64 (recI (List.getD sc (Int.toNat i) ([] : List (Abs.Fd))) ((0 : Nat) + (1 : Nat))) (65535 : Int)) (((List.length ml) : Nat) : Int))) ([] : List (Abs.Fd))) ((((0 : Nat) + (1 : Nat)) + (1 : Nat)) + (1 : Nat)))), (Fd.i (recI (List.getD ml (Int.toNat (Int.tmod (bitsOf Go.BinOp.and Go.IntKind.i64 (recI (List.getD sc (Int.toNat i) ([] : List (Abs.Fd))) ((0 : Nat) + (1 : Nat))) (65535 : Int)) (((List.length ml) : Nat) : Int))) ([] : List (Abs.Fd))) (((((0 : Nat) + (1 : Nat)) + (1 : Nat)) + (1 : Nat)) + (1 : Nat)))), (Fd.i (recI (List.getD ml (Int.toNat (Int.tmod (bitsOf Go.BinOp.and Go.IntKind.i64 (recI (List.getD sc (Int.toNat i) ([] : List (Abs.Fd))) ((0 : Nat) + (1 : Nat))) (65535 : Int)) (((List.length ml) : Nat) : Int))) ([] : List (Abs.Fd))) ((((((0 : Nat) + (1 : Nat)) + (1 : Nat)) + (1 : Nat)) + (1 : Nat)) + (1 : Nat)))), (Fd.i (recI (List.getD ml (Int.toNat (Int.tmod (bitsOf Go.BinOp.and Go.IntKind.i64 (recI (List.getD sc (Int.toNat i) ([] : List (Abs.Fd))) ((0 : Nat) + (1 : Nat))) (65535 : Int)) (((List.length ml) : Nat) : Int))) ([] : List (Abs.Fd))) (((((((0 : Nat) + (1 : Nat)) + (1 : Nat)) + (1 : Nat)) + (1 : Nat)) + (1 : Nat)) + (1 : Nat)))), (Fd.w (recW (List.getD ml (Int.toNat (Int.tmod (bitsOf Go.BinOp.and Go.IntKind.i64 (recI (List.getD sc (Int.toNat i) ([] : List (Abs.Fd))) ((0 : Nat) + (1 : Nat))) (65535 : Int)) (((List.length ml) : Nat) : Int))) ([] : List (Abs.Fd))) ((((((((0 : Nat) + (1 : Nat)) + (1 : Nat)) + (1 : Nat)) + (1 : Nat)) + (1 : Nat)) + (1 : Nat)) + (1 : Nat))))]]) td (Int.toNat (Int.tmod (bitsOf Go.BinOp.and Go.IntKind.i64 (recI (List.getD sc (Int.toNat i) ([] : List (Abs.Fd))) ((0 : Nat) + (1 : Nat))) (65535 : Int)) (((List.length ml) : Nat) : Int))))).1 = es'))
 (h20 : ((((dlM g es (ml ++ [[(Fd.i (recI (List.getD ml (Int.toNat (Int.tmod (bitsOf Go.BinOp.and Go.IntKind.i64 (recI (List.getD sc (Int.toNat i) ([] : List (Abs.Fd))) ((0 : Nat) + (1 : Nat))) (65535 : Int)) (((List.length ml) : Nat) : Int))) ([] : List (Abs.Fd))) (0 : Nat))), (Fd.i (recI (List.getD ml (Int.toNat (Int.tmod (bitsOf Go.BinOp.and Go.IntKind.i64 (recI (List.getD sc (Int.toNat i) ([] : List (Abs.Fd))) ((0 : Nat) + (1 : Nat))) (65535 : Int)) (((List.length ml) : Nat) : Int))) ([] : List (Abs.Fd))) ((0 : Nat) + (1 : Nat)))), (Fd.i (recI (List.getD ml (Int.toNat (Int.tmod (bitsOf Go.BinOp.and Go.IntKind.i64 (recI (List.getD sc (Int.toNat i) ([] : List (Abs.Fd))) ((0 : Nat) + (1 : Nat))) (65535 : Int)) (((List.length ml) : Nat) : Int))) ([] : List (Abs.Fd))) (((0 : Nat) + (1 : Nat)) + (1 : Nat)))), (Fd.i (recI (List.getD ml (Int.toNat (Int.tmod (bitsOf Go.BinOp.and Go.IntKind.i64 (recI (List.getD sc (Int.toNat i) ([] : List (Abs.Fd))) ((0 : Nat) + (1 : Nat))) (65535 : Int)) (((List.length ml) : Nat) : Int))) ([] : List (Abs.Fd))) ((((0 : Nat) + (1 : Nat)) + (1 : Nat)) + (1 : Nat)))), (Fd.i (recI (List.getD ml (Int.toNat (Int.tmod (bitsOf Go.BinOp.and Go.IntKind.i64 (recI (List.getD sc (Int.toNat i) ([] : List (Abs.Fd))) ((0 : Nat) + (1 : Nat))) (65535 : Int)) (((List.length ml) : Nat) : Int))) ([] : List (Abs.Fd))) (((((0 : Nat) + (1 : Nat)) + (1 : Nat)) + (1 : Nat)) + (1 : Nat)))), (Fd.i (recI (List.getD ml (Int.toNat (Int.tmod (bitsOf Go.BinOp.and Go.IntKind.i64 (recI (List.getD sc (Int.toNat i) ([] : List (Abs.Fd))) ((0 : Nat) + (1 : Nat))) (65535 : Int)) (((List.length ml) : Nat) : Int))) ([] : List (Abs.Fd))) ((((((0 : Nat) + (1 : Nat)) + (1 : Nat)) + (1 : Nat)) + (1 : Nat)) + (1 : Nat)))), (Fd.i (recI (List.getD ml (Int.toNat (Int.tmod (bitsOf Go.BinOp.and Go.IntKind.i64 (recI (List.getD sc (Int.toNat i) ([] : List (Abs.Fd))) ((0 : Nat) + (1 : Nat))) (65535 : Int)) (((List.length ml) : Nat) : Int))) ([] : List (Abs.Fd))) (((((((0 : Nat) + (1 : Nat)) + (1 : Nat)) + (1 : Nat)) + (1 : Nat)) + (1 : Nat)) + (1 : Nat)))), (Fd.w (recW (List.getD ml (Int.toNat (Int.tmod (bitsOf Go.BinOp.and Go.IntKind.i64 (recI (List.getD sc (Int.toNat i) ([] : List (Abs.Fd))) ((0 : Nat) + (1 : Nat))) (65535 : Int)) (((List.length ml) : Nat) : Int))) ([] : List (Abs.Fd))) ((((((((0 : Nat) + (1 : Nat)) + (1 : Nat)) + (1 : Nat)) + (1 : Nat)) + (1 : Nat)) + (1 : Nat)) + (1 : Nat))))]]) td (Int.toNat (Int.tmod (bitsOf Go.BinOp.and Go.IntKind.i64 (recI (List.getD sc (Int.toNat i) ([] : List (Abs.Fd))) ((0 : Nat) + (1 : Nat))) (65535 : Int)) (((List.length ml) : Nat) : Int))))).2).1 = ml')) :
 ∃ ps, stepPs Try.prog DB gPl 100 (bodyN Try.f8 0) 100 (plSn n g sc es ml td sd i).st [.is true, .is true, .is false, .is false, .is true, .is false, .is true] .normal (plSn n g sc es' ml' td' sd i') = some ps ∧ AllQ ps := ⟨_, by kernel_rfl, qc h1 (qc h2 (qc h3 (qc h4 (qc h5 (qc h6 (qc h7 (qc h8 (qc h9 (qc h7 (qc h10 (qc h11 (qc h12 (qc h13 (qc h14 (qc (er ((Int.tmod (bitsOf Go.BinOp.and Go.IntKind.i64 (recI (List.getD sc (Int.toNat i) ([] : List (Abs.Fd))) ((0 : Nat) + (1 : Nat))) (65535 : Int)) (((List.length ml) : Nat) : Int)))) (qc (er n) (qc (er g) (qc (er td) (qc (er es) (qc (er ((ml ++ [[(Fd.i (recI (List.getD ml (Int.toNat (Int.tmod (bitsOf Go.BinOp.and Go.IntKind.i64 (recI (List.getD sc (Int.toNat i) ([] : List (Abs.Fd))) ((0 : Nat) + (1 : Nat))) (65535 : Int)) (((List.length ml) : Nat) : Int))) ([] : List (Abs.Fd))) (0 : Nat))), (Fd.i (recI (List.getD ml (Int.toNat (Int.tmod (bitsOf Go.BinOp.and Go.IntKind.i64 (recI (List.getD sc (Int.toNat i) ([] : List (Abs.Fd))) ((0 : Nat) + (1 : Nat))) (65535 : Int)) (((List.length ml) : Nat) : Int))) ([] : List (Abs.Fd))) ((0 : Nat) + (1 : Nat)))), (Fd.i (recI (List.getD ml (Int.toNat (Int.tmod (bitsOf Go.BinOp.and Go.IntKind.i64 (recI (List.getD sc (Int.toNat i) ([] : List (Abs.Fd))) ((0 : Nat) + (1 : Nat))) (65535 : Int)) (((List.length ml) : Nat) : Int))) ([] : List (Abs.Fd))) (((0 : Nat) + (1 : Nat)) + (1 : Nat)))), (Fd.i (recI (List.getD ml (Int.toNat (Int.tmod (bitsOf Go.BinOp.and Go.IntKind.i64 (recI (List.getD sc (Int.toNat i) ([] : List (Abs.Fd))) ((0 : Nat) + (1 : Nat))) (65535 : Int)) (((List.length ml) : Nat) : Int))) ([] : List (Abs.Fd))) ((((0 : Nat) + (1 : Nat)) + (1 : Nat)) + (1 : Nat)))), (Fd.i (recI (List.getD ml (Int.toNat (Int.tmod (bitsOf Go.BinOp.and Go.IntKind.i64 (recI (List.getD sc (Int.toNat i) ([] : List (Abs.Fd))) ((0 : Nat) + (1 : Nat))) (65535 : Int)) (((List.length ml) : Nat) : Int))) ([] : List (Abs.Fd))) (((((0 : Nat) + (1 : Nat)) + (1 : Nat)) + (1 : Nat)) + (1 : Nat)))), (Fd.i (recI (List.getD ml (Int.toNat (Int.tmod (bitsOf Go.BinOp.and Go.IntKind.i64 (recI (List.getD sc (Int.toNat i) ([] : List (Abs.Fd))) ((0 : Nat) + (1 : Nat))) (65535 : Int)) (((List.length ml) : Nat) : Int))) ([] : List (Abs.Fd))) ((((((0 : Nat) + (1 : Nat)) + (1 : Nat)) + (1 : Nat)) + (1 : Nat)) + (1 : Nat)))), (Fd.i (recI (List.getD ml (Int.toNat (Int.tmod (bitsOf Go.BinOp.and Go.IntKind.i64 (recI (List.getD sc (Int.toNat i) ([] : List (Abs.Fd))) ((0 : Nat) + (1 : Nat))) (65535 : Int)) (((List.length ml) : Nat) : Int))) ([] : List (Abs.Fd))) (((((((0 : Nat) + (1 : Nat)) + (1 : Nat)) + (1 : Nat)) + (1 : Nat)) + (1 : Nat)) + (1 : Nat)))), (Fd.w (recW (List.getD ml (Int.toNat (Int.tmod (bitsOf Go.BinOp.and Go.IntKind.i64 (recI (List.getD sc (Int.toNat i) ([] : List (Abs.Fd))) ((0 : Nat) + (1 : Nat))) (65535 : Int)) (((List.length ml) : Nat) : Int))) ([] : List (Abs.Fd))) ((((((((0 : Nat) + (1 : Nat)) + (1 : Nat)) + (1 : Nat)) + (1 : Nat)) + (1 : Nat)) + (1 : Nat)) + (1 : Nat))))]]))) (qc h15 (qc h10 (qc h16 (qc (er sc) (qc h17 (qc (er n) (qc (er g) (qc h18 (qc h19 (qc h20 (qc (er sd) (qn))))))))))))))))))))))))))))))))⟩
theorem pl_in0 (n g : Int) (sc : List Rec) (es : List (Rec × Ob)) (ml : List Rec) (td : List (List Rec)) (sd : List Rec) (i i' : Int)
 (h1 : ((decide (i < (((List.length sc) : Nat) : Int))) = true))
 (h2 : ((decide (i < (300 : Int))) = true))
 (h3 : ((0 : Int) ≤ i))
 (h4 : (i < (((List.length sc) : Nat) : Int)))
 (h5 : (((recI (List.getD sc (Int.toNat i) ([] : List (Abs.Fd))) (0 : Nat)) == (0 : Int)) = false))
 (h6 : (((recI (List.getD sc (Int.toNat i) ([] : List (Abs.Fd))) (0 : Nat)) == (1 : Int)) = false))
 (h7 : (((recI (List.getD sc (Int.toNat i) ([] : List (Abs.Fd))) (0 : Nat)) == (3 : Int)) = false))
 (h8 : (((recI (List.getD sc (Int.toNat i) ([] : List (Abs.Fd))) (0 : Nat)) == (2 : Int)) = true))
 (h9 : ((g == n) = true))
 (h10 : (InI64 (i + (1 : Int))))
 (h11 : ((i + (1 : Int)) = i')) :
 ∃ ps, stepPs Try.prog DB gPl 100 (bodyN Try.f8 0) 100 (plSn n g sc es ml td sd i).st [.is true, .is true, .is false, .is false, .is false, .is true, .is true] .normal (plSn n g sc es ml td sd i') = some ps ∧ AllQ ps := ⟨_, by kernel_rfl, qc h1 (qc h2 (qc h3 (qc h4 (qc h5 (qc h6 (qc h7 (qc h8 (qc h9 (qc h10 (qc (er sc) (qc h11 (qc (er n) (qc (er g) (qc (er td) (qc (er es) (qc (er ml) (qc (er sd) (qn))))))))))))))))))⟩
abbrev pl_in_x1 (n g : Int) (sc : List Rec) (es : List (Rec × Ob)) (i : Int) := ((inM (recI (Ob.r (obE es [(Fd.i (((Int.toNat (((1 : Int) + (Int.tmod (bitsOf Go.BinOp.and Go.IntKind.i64 (recI (List.getD sc (Int.toNat i) ([] : List (Abs.Fd))) ((0 : Nat) + (1 : Nat))) (1023 : Int)) g)) - (1 : Int))) : Nat) : Int))])) (0 : Nat)) (recW (Ob.r (obE es [(Fd.i (((Int.toNat (((1 : Int) + (Int.tmod (bitsOf Go.BinOp.and Go.IntKind.i64 (recI (List.getD sc (Int.toNat i) ([] : List (Abs.Fd))) ((0 : Nat) + (1 : Nat))) (1023 : Int)) g)) - (1 : Int))) : Nat) : Int))])) (1 : Nat)) (Ob.c (obE es [(Fd.i (((Int.toNat (((1 : Int) + (Int.tmod (bitsOf Go.BinOp.and Go.IntKind.i64 (recI (List.getD sc (Int.toNat i) ([] : List (Abs.Fd))) ((0 : Nat) + (1 : Nat))) (1023 : Int)) g)) - (1 : Int))) : Nat) : Int))]) (0 : Nat)) (MsT.mk (recI (List.getD sc (Int.toNat i) ([] : List (Abs.Fd))) (((((0 : Nat) + (1 : Nat)) + (1 : Nat)) + (1 : Nat)) + (1 : Nat))) (recI (List.getD sc (Int.toNat i) ([] : List (Abs.Fd))) ((((((0 : Nat) + (1 : Nat)) + (1 : Nat)) + (1 : Nat)) + (1 : Nat)) + (1 : Nat))) ((g + (1 : Int)) + (Int.tmod (bitsOf Go.BinOp.and Go.IntKind.i64 (recI (List.getD sc (Int.toNat i) ([] : List (Abs.Fd))) (((((((0 : Nat) + (1 : Nat)) + (1 : Nat)) + (1 : Nat)) + (1 : Nat)) + (1 : Nat)) + (1 : Nat))) (1023 : Int)) (n - g))) (recI (List.getD sc (Int.toNat i) ([] : List (Abs.Fd))) ((((((((0 : Nat) + (1 : Nat)) + (1 : Nat)) + (1 : Nat)) + (1 : Nat)) + (1 : Nat)) + (1 : Nat)) + (1 : Nat))) (recI (List.getD sc (Int.toNat i) ([] : List (Abs.Fd))) (((((((((0 : Nat) + (1 : Nat)) + (1 : Nat)) + (1 : Nat)) + (1 : Nat)) + (1 : Nat)) + (1 : Nat)) + (1 : Nat)) + (1 : Nat))) (recI (List.getD sc (Int.toNat i) ([] : List (Abs.Fd))) ((((((((((0 : Nat) + (1 : Nat)) + (1 : Nat)) + (1 : Nat)) + (1 : Nat)) + (1 : Nat)) + (1 : Nat)) + (1 : Nat)) + (1 : Nat)) + (1 : Nat))) (recW (List.getD sc (Int.toNat i) ([] : List (Abs.Fd))) (((((((((((0 : Nat) + (1 : Nat)) + (1 : Nat)) + (1 : Nat)) + (1 : Nat)) + (1 : Nat)) + (1 : Nat)) + (1 : Nat)) + (1 : Nat)) + (1 : Nat)) + (1 : Nat))))))
abbrev pl_in_x2 (g : Int) (sc : List Rec) (i : Int) := ((1 : Int) + (Int.tmod (bitsOf Go.BinOp.and Go.IntKind.i64 (recI (List.getD sc (Int.toNat i) ([] : List (Abs.Fd))) ((0 : Nat) + (1 : Nat))) (1023 : Int)) g))
abbrev pl_in_x3  := (((((((0 : Nat) + (1 : Nat)) + (1 : Nat)) + (1 : Nat)) + (1 : Nat)) + (1 : Nat)) + (1 : Nat))
abbrev pl_in_x4 (g : Int) (sc : List Rec) (i : Int) := (Fd.i (((Int.toNat ((pl_in_x2 g sc i) - (1 : Int))) : Nat) : Int))
abbrev pl_in_x5 (sc : List Rec) (i : Int) := (recW (List.getD sc (Int.toNat i) ([] : List (Abs.Fd))) (((((pl_in_x3 ) + (1 : Nat)) + (1 : Nat)) + (1 : Nat)) + (1 : Nat)))
theorem pl_in (n g : Int) (sc : List Rec) (es es' : List (Rec × Ob)) (ml ml' : List Rec) (td td' : List (List Rec)) (sd : List Rec) (i i' : Int)
 (h1 : ((decide (i < (((List.length sc) : Nat) : Int))) = true))
 (h2 : ((decide (i < (300 : Int))) = true))
 (h3 : ((0 : Int) ≤ i))
 (h4 : (i < (((List.length sc) : Nat) : Int)))
 (h5 : (((recI (List.getD sc (Int.toNat i) ([] : List (Abs.Fd))) (0 : Nat)) == (0 : Int)) = false))
 (h6 : (((recI (List.getD sc (Int.toNat i) ([] : List (Abs.Fd))) (0 : Nat)) == (1 : Int)) = false))
 (h7 : (((recI (List.getD sc (Int.toNat i) ([] : List (Abs.Fd))) (0 : Nat)) == (3 : Int)) = false))
 (h8 : (((recI (List.getD sc (Int.toNat i) ([] : List (Abs.Fd))) (0 : Nat)) == (2 : Int)) = true))
 (h9 : ((g == n) = false))
 (h10 : ((List.length (pl_in_x5 sc i)) ≤ (281474976710656 : Nat)))
 (h11 : (InI64 (g + (1 : Int))))
 (h12 : (InI64 (n - g)))
 (h13 : ((n - g) ≠ (0 : Int)))
 (h14 : (InI64 ((g + (1 : Int)) + (Int.tmod (bitsOf Go.BinOp.and Go.IntKind.i64 (recI (List.getD sc (Int.toNat i) ([] : List (Abs.Fd))) (pl_in_x3 )) (1023 : Int)) (n - g)))))
 (h15 : (g ≠ (0 : Int)))
 (h16 : (InI64 (pl_in_x2 g sc i)))
 (h17 : (InI64 ((pl_in_x2 g sc i) - (1 : Int))))
 (h18 : ((0 : Int) ≤ ((pl_in_x2 g sc i) - (1 : Int))))
 (h19 : (((pl_in_x2 g sc i) - (1 : Int)) < (((List.length es) : Nat) : Int)))
 (h20 : ((hasE es [(pl_in_x4 g sc i)]) = true))
 (h21 : (HbOK (recI (Ob.r (obE es [(pl_in_x4 g sc i)])) (0 : Nat)) (recW (Ob.r (obE es [(pl_in_x4 g sc i)])) (1 : Nat))))
 (h22 : (EsOK (30000 : Nat) (Ob.c (obE es [(pl_in_x4 g sc i)]) (0 : Nat))))
 (h23 : (InB (pl_in_x5 sc i)))
 (h24 : (DnOK n g (pl_in_x2 g sc i) ml td ((pl_in_x1 n g sc es i).2).1 ((pl_in_x1 n g sc es i).2).2))
 (h25 : ((List.length ((pl_in_x1 n g sc es i).2).2) ≤ (1000000 : Nat)))
 (h26 : (InI64 (i + (1 : Int))))
 (h27 : ((i + (1 : Int)) = i'))
 (h28 : ((tellM (pl_in_x2 g sc i) ((pl_in_x1 n g sc es i).2).2 td) = td'))
 (h29 : ((setE es [(pl_in_x4 g sc i)] (hubOb (recI (Ob.r (obE es [(pl_in_x4 g sc i)])) (0 : Nat)) (recW (Ob.r (obE es [(pl_in_x4 g sc i)])) (1 : Nat)) (pl_in_x1 n g sc es i).1)) = es'))
 (h30 : ((ml ++ (sendM g (pl_in_x2 g sc i) ((pl_in_x1 n g sc es i).2).1)) = ml')) :
 ∃ ps, stepPs Try.prog DB gPl 100 (bodyN Try.f8 0) 100 (plSn n g sc es ml td sd i).st [.is true, .is true, .is false, .is false, .is false, .is true, .is false] .normal (plSn n g sc es' ml' td' sd i') = some ps ∧ AllQ ps := ⟨_, by kernel_rfl, qc h1 (qc h2 (qc h3 (qc h4 (qc h5 (qc h6 (qc h7 (qc h8 (qc h9 (qc (er ((recI (List.getD sc (Int.toNat i) ([] : List (Abs.Fd))) (((((0 : Nat) + (1 : Nat)) + (1 : Nat)) + (1 : Nat)) + (1 : Nat))))) (qc (er ((recI (List.getD sc (Int.toNat i) ([] : List (Abs.Fd))) ((((((0 : Nat) + (1 : Nat)) + (1 : Nat)) + (1 : Nat)) + (1 : Nat)) + (1 : Nat))))) (qc (er ((recI (List.getD sc (Int.toNat i) ([] : List (Abs.Fd))) (pl_in_x3 )))) (qc (er ((recI (List.getD sc (Int.toNat i) ([] : List (Abs.Fd))) ((pl_in_x3 ) + (1 : Nat))))) (qc (er ((recI (List.getD sc (Int.toNat i) ([] : List (Abs.Fd))) (((pl_in_x3 ) + (1 : Nat)) + (1 : Nat))))) (qc (er ((recI (List.getD sc (Int.toNat i) ([] : List (Abs.Fd))) ((((pl_in_x3 ) + (1 : Nat)) + (1 : Nat)) + (1 : Nat))))) (qc (er ((pl_in_x5 sc i))) (qc h10 (qc h11 (qc h12 (qc h13 (qc h14 (qc h15 (qc h16 (qc h17 (qc h18 (qc h19 (qc h20 (qc (er ((recI (List.getD sc (Int.toNat i) ([] : List (Abs.Fd))) (((((0 : Nat) + (1 : Nat)) + (1 : Nat)) + (1 : Nat)) + (1 : Nat))))) (qc (er ((recI (List.getD sc (Int.toNat i) ([] : List (Abs.Fd))) ((((((0 : Nat) + (1 : Nat)) + (1 : Nat)) + (1 : Nat)) + (1 : Nat)) + (1 : Nat))))) (qc (er (((g + (1 : Int)) + (Int.tmod (bitsOf Go.BinOp.and Go.IntKind.i64 (recI (List.getD sc (Int.toNat i) ([] : List (Abs.Fd))) (pl_in_x3 )) (1023 : Int)) (n - g))))) (qc (er ((recI (List.getD sc (Int.toNat i) ([] : List (Abs.Fd))) ((pl_in_x3 ) + (1 : Nat))))) (qc (er ((recI (List.getD sc (Int.toNat i) ([] : List (Abs.Fd))) (((pl_in_x3 ) + (1 : Nat)) + (1 : Nat))))) (qc (er ((recI (List.getD sc (Int.toNat i) ([] : List (Abs.Fd))) ((((pl_in_x3 ) + (1 : Nat)) + (1 : Nat)) + (1 : Nat))))) (qc (er ((pl_in_x5 sc i))) (qc (er ((recI (Ob.r (obE es [(pl_in_x4 g sc i)])) (0 : Nat)))) (qc (er ((recW (Ob.r (obE es [(pl_in_x4 g sc i)])) (1 : Nat)))) (qc (er ((Ob.c (obE es [(pl_in_x4 g sc i)]) (0 : Nat)))) (qc h21 (qc h22 (qc h23 (qc (er ((pl_in_x2 g sc i))) (qc (er (((pl_in_x1 n g sc es i).2).1)) (qc (er (((pl_in_x1 n g sc es i).2).2)) (qc (er n) (qc (er g) (qc (er td) (qc (er ([(pl_in_x4 g sc i)])) (qc (er es) (qc (er ml) (qc (er ((recI (Ob.r (obE es [(pl_in_x4 g sc i)])) (0 : Nat)))) (qc (er ((recW (Ob.r (obE es [(pl_in_x4 g sc i)])) (1 : Nat)))) (qc (er ((pl_in_x1 n g sc es i).1)) (qc h24 (qc h25 (qc h26 (qc (er sc) (qc h27 (qc (er n) (qc (er g) (qc h28 (qc h29 (qc h30 (qc (er sd) (qn)))))))))))))))))))))))))))))))))))))))))))))))))))))))))))))))⟩
def opP (r : Rec) : List (Part DB.τ) := [.int .i64 false (recI r 0), .int .i64 false (recI r 1), .int .i64 false (recI r 2), .pw .u8 (recW r 3), .int .i64 false (recI r 4), .int .i64 false (recI r 5), .int .i64 false (recI r 6), .int .i64 false (recI r 7), .int .i64 false (recI r 8), .int .i64 false (recI r 9), .pw .u8 (recW r 10)]
def twSn (n g : Int) (sc : List Rec) (es : List (Rec × Ob)) (ml : List Rec) (td : List (List Rec)) (sd : List Rec) (i : Int) (r : Rec) (who tp : Int) (tw : Bool) (k : Int) : Sn DB.τ where
  slots := [(0, .v (.one (.ref 0 0))), (1, .v (.one (.prs oSh sc))), (6, .v (.one (.own 3))), (7, .v (.one (.int .i64 false i))), (8, .v (.one (.ref 4 0))), (9, .v (.one (.int .i64 false who))), (10, .v (.one (.int .i64 false tp))), (11, .v (.one (.bool false tw))), (53, .v (.one (.own 3))), (54, .v (.one (.int .i64 false sd.length))), (55, .v (.one (.int .i64 false k)))]
  boxes := enumB 0 (ntB n g es ml td ++ [sdX sd, .fixed 40 (opP r)])
  nt := 217
  np := 2
def twEd (n g : Int) (sc : List Rec) (es : List (Rec × Ob)) (ml : List Rec) (td : List (List Rec)) (sd : List Rec) (i : Int) (r : Rec) (who tp : Int) (tw : Bool) : Sn DB.τ where
  slots := [(0, .v (.one (.ref 0 0))), (1, .v (.one (.prs oSh sc))), (6, .v (.one (.own 3))), (7, .v (.one (.int .i64 false i))), (8, .v (.one (.ref 4 0))), (9, .v (.one (.int .i64 false who))), (10, .v (.one (.int .i64 false tp))), (11, .v (.one (.bool false tw)))]
  boxes := enumB 0 (ntB n g es ml td ++ [sdX sd, .fixed 40 (opP r)])
  nt := 217
  np := 2
theorem tw_t (n g : Int) (sc : List Rec) (es : List (Rec × Ob)) (ml : List Rec) (td : List (List Rec)) (sd : List Rec) (i : Int) (r : Rec) (who tp : Int) (k k' : Int)
 (h1 : ((decide (k < (((List.length sd) : Nat) : Int))) = true))
 (h2 : ((0 : Int) ≤ k))
 (h3 : (k < (((List.length sd) : Nat) : Int)))
 (h4 : ((Int.toNat k) < (List.length sd)))
 (h5 : (InI64 (k + (1 : Int))))
 (h6 : ((k + (1 : Int)) = k')) :
 ∃ ps, stepPs Try.prog DB gPl 100 (bodyN Try.f8 1) 100 (twSn n g sc es ml td sd i r who tp true k).st [.is true, .is true] .normal (twSn n g sc es ml td sd i r who tp true k') = some ps ∧ AllQ ps := ⟨_, by kernel_rfl, qc h1 (qc h2 (qc h3 (qc h4 (qc (er true) (qc h5 (qc (er sc) (qc (er i) (qc (er who) (qc (er tp) (qc (er true) (qc (er ((((List.length sd) : Nat) : Int))) (qc h6 (qc (er n) (qc (er g) (qc (er td) (qc (er es) (qc (er ml) (qc (er sd) (qc (er ((recI r (0 : Nat)))) (qc (er ((recI r (1 : Nat)))) (qc (er ((recI r (2 : Nat)))) (qc (er ((recW r (3 : Nat)))) (qc (er ((recI r (4 : Nat)))) (qc (er ((recI r (5 : Nat)))) (qc (er ((recI r (6 : Nat)))) (qc (er ((recI r (7 : Nat)))) (qc (er ((recI r (8 : Nat)))) (qc (er ((recI r (9 : Nat)))) (qc (er ((recW r (10 : Nat)))) (qn))))))))))))))))))))))))))))))⟩
theorem tw_n1 (n g : Int) (sc : List Rec) (es : List (Rec × Ob)) (ml : List Rec) (td : List (List Rec)) (sd : List Rec) (i : Int) (r : Rec) (who tp : Int) (k k' : Int)
 (h1 : ((decide (k < (((List.length sd) : Nat) : Int))) = true))
 (h2 : ((0 : Int) ≤ k))
 (h3 : (k < (((List.length sd) : Nat) : Int)))
 (h4 : ((Int.toNat k) < (List.length sd)))
 (h5 : (((recI (List.getD sd (Int.toNat k) ([] : List (Abs.Fd))) ((0 : Nat) + (1 : Nat))) == who) = false))
 (h6 : (InI64 (k + (1 : Int))))
 (h7 : ((k + (1 : Int)) = k')) :
 ∃ ps, stepPs Try.prog DB gPl 100 (bodyN Try.f8 1) 100 (twSn n g sc es ml td sd i r who tp false k).st [.is true, .is false, .is false] .normal (twSn n g sc es ml td sd i r who tp false k') = some ps ∧ AllQ ps := ⟨_, by kernel_rfl, qc h1 (qc h2 (qc h3 (qc h4 (qc (er false) (qc h5 (qc h6 (qc (er sc) (qc (er i) (qc (er who) (qc (er tp) (qc (er false) (qc (er ((((List.length sd) : Nat) : Int))) (qc h7 (qc (er n) (qc (er g) (qc (er td) (qc (er es) (qc (er ml) (qc (er sd) (qc (er ((recI r (0 : Nat)))) (qc (er ((recI r (1 : Nat)))) (qc (er ((recI r (2 : Nat)))) (qc (er ((recW r (3 : Nat)))) (qc (er ((recI r (4 : Nat)))) (qc (er ((recI r (5 : Nat)))) (qc (er ((recI r (6 : Nat)))) (qc (er ((recI r (7 : Nat)))) (qc (er ((recI r (8 : Nat)))) (qc (er ((recI r (9 : Nat)))) (qc (er ((recW r (10 : Nat)))) (qn)))))))))))))))))))))))))))))))⟩
theorem tw_n2 (n g : Int) (sc : List Rec) (es : List (Rec × Ob)) (ml : List Rec) (td : List (List Rec)) (sd : List Rec) (i : Int) (r : Rec) (who tp : Int) (k k' : Int)
 (h1 : ((decide (k < (((List.length sd) : Nat) : Int))) = true))
 (h2 : ((0 : Int) ≤ k))
 (h3 : (k < (((List.length sd) : Nat) : Int)))
 (h4 : ((Int.toNat k) < (List.length sd)))
 (h5 : (((recI (List.getD sd (Int.toNat k) ([] : List (Abs.Fd))) ((0 : Nat) + (1 : Nat))) == who) = true))
 (h6 : (((recI (List.getD sd (Int.toNat k) ([] : List (Abs.Fd))) (((0 : Nat) + (1 : Nat)) + (1 : Nat))) == tp) = false))
 (h7 : (InI64 (k + (1 : Int))))
 (h8 : ((k + (1 : Int)) = k')) :
 ∃ ps, stepPs Try.prog DB gPl 100 (bodyN Try.f8 1) 100 (twSn n g sc es ml td sd i r who tp false k).st [.is true, .is false, .is true, .is false] .normal (twSn n g sc es ml td sd i r who tp false k') = some ps ∧ AllQ ps := ⟨_, by kernel_rfl, qc h1 (qc h2 (qc h3 (qc h4 (qc (er false) (qc h5 (qc h6 (qc h7 (qc (er sc) (qc (er i) (qc (er who) (qc (er tp) (qc (er false) (qc (er ((((List.length sd) : Nat) : Int))) (qc h8 (qc (er n) (qc (er g) (qc (er td) (qc (er es) (qc (er ml) (qc (er sd) (qc (er ((recI r (0 : Nat)))) (qc (er ((recI r (1 : Nat)))) (qc (er ((recI r (2 : Nat)))) (qc (er ((recW r (3 : Nat)))) (qc (er ((recI r (4 : Nat)))) (qc (er ((recI r (5 : Nat)))) (qc (er ((recI r (6 : Nat)))) (qc (er ((recI r (7 : Nat)))) (qc (er ((recI r (8 : Nat)))) (qc (er ((recI r (9 : Nat)))) (qc (er ((recW r (10 : Nat)))) (qn))))))))))))))))))))))))))))))))⟩
theorem tw_y (n g : Int) (sc : List Rec) (es : List (Rec × Ob)) (ml : List Rec) (td : List (List Rec)) (sd : List Rec) (i : Int) (r : Rec) (who tp : Int) (k k' : Int)
 (h1 : ((decide (k < (((List.length sd) : Nat) : Int))) = true))
 (h2 : ((0 : Int) ≤ k))
 (h3 : (k < (((List.length sd) : Nat) : Int)))
 (h4 : ((Int.toNat k) < (List.length sd)))
 (h5 : (((recI (List.getD sd (Int.toNat k) ([] : List (Abs.Fd))) ((0 : Nat) + (1 : Nat))) == who) = true))
 (h6 : (((recI (List.getD sd (Int.toNat k) ([] : List (Abs.Fd))) (((0 : Nat) + (1 : Nat)) + (1 : Nat))) == tp) = true))
 (h7 : (InI64 (k + (1 : Int))))
 (h8 : ((k + (1 : Int)) = k')) :
 ∃ ps, stepPs Try.prog DB gPl 100 (bodyN Try.f8 1) 100 (twSn n g sc es ml td sd i r who tp false k).st [.is true, .is false, .is true, .is true] .normal (twSn n g sc es ml td sd i r who tp true k') = some ps ∧ AllQ ps := ⟨_, by kernel_rfl, qc h1 (qc h2 (qc h3 (qc h4 (qc (er false) (qc h5 (qc h6 (qc h7 (qc (er sc) (qc (er i) (qc (er who) (qc (er tp) (qc (er true) (qc (er ((((List.length sd) : Nat) : Int))) (qc h8 (qc (er n) (qc (er g) (qc (er td) (qc (er es) (qc (er ml) (qc (er sd) (qc (er ((recI r (0 : Nat)))) (qc (er ((recI r (1 : Nat)))) (qc (er ((recI r (2 : Nat)))) (qc (er ((recW r (3 : Nat)))) (qc (er ((recI r (4 : Nat)))) (qc (er ((recI r (5 : Nat)))) (qc (er ((recI r (6 : Nat)))) (qc (er ((recI r (7 : Nat)))) (qc (er ((recI r (8 : Nat)))) (qc (er ((recI r (9 : Nat)))) (qc (er ((recW r (10 : Nat)))) (qn))))))))))))))))))))))))))))))))⟩
theorem tw_exit (n g : Int) (sc : List Rec) (es : List (Rec × Ob)) (ml : List Rec) (td : List (List Rec)) (sd : List Rec) (i : Int) (r : Rec) (who tp : Int) (tw : Bool) (k : Int)
 (h1 : ((decide (k < (((List.length sd) : Nat) : Int))) = false)) :
 ∃ ps, stepPs Try.prog DB gPl 100 (bodyN Try.f8 1) 100 (twSn n g sc es ml td sd i r who tp tw k).st [.is false] (.exit 3) (twEd n g sc es ml td sd i r who tp tw) = some ps ∧ AllQ ps := ⟨_, by kernel_rfl, qc h1 (qc (er sc) (qc (er i) (qc (er who) (qc (er tp) (qc (er tw) (qc (er n) (qc (er g) (qc (er td) (qc (er es) (qc (er ml) (qc (er sd) (qc (er ((recI r (0 : Nat)))) (qc (er ((recI r (1 : Nat)))) (qc (er ((recI r (2 : Nat)))) (qc (er ((recW r (3 : Nat)))) (qc (er ((recI r (4 : Nat)))) (qc (er ((recI r (5 : Nat)))) (qc (er ((recI r (6 : Nat)))) (qc (er ((recI r (7 : Nat)))) (qc (er ((recI r (8 : Nat)))) (qc (er ((recI r (9 : Nat)))) (qc (er ((recW r (10 : Nat)))) (qn)))))))))))))))))))))))⟩
theorem pl_say2 (n g : Int) (sc : List Rec) (es : List (Rec × Ob)) (ml : List Rec) (td : List (List Rec)) (sd : List Rec) (i : Int) (r : Rec) (who tp : Int) (i' : Int)
 (h1 : ((decide (i < (((List.length sc) : Nat) : Int))) = true))
 (h2 : ((decide (i < (300 : Int))) = true))
 (h3 : ((0 : Int) ≤ i))
 (h4 : (i < (((List.length sc) : Nat) : Int)))
 (h5 : (((recI (List.getD sc (Int.toNat i) ([] : List (Abs.Fd))) (0 : Nat)) == (0 : Int)) = true))
 (h6 : (g ≠ (0 : Int)))
 (h7 : (InI64 ((1 : Int) + (Int.tmod (bitsOf Go.BinOp.and Go.IntKind.i64 (recI (List.getD sc (Int.toNat i) ([] : List (Abs.Fd))) ((0 : Nat) + (1 : Nat))) (1023 : Int)) g))))
 (h8 : (InI64 ((1 : Int) + (bitsOf Go.BinOp.and Go.IntKind.i64 (recI (List.getD sc (Int.toNat i) ([] : List (Abs.Fd))) (((0 : Nat) + (1 : Nat)) + (1 : Nat))) (1 : Int)))))
 (h9 : SumOK Try.prog DB (bodyN Try.f8 1) (loopL DB (twSn n g sc es ml td sd i r who tp false (0 : Nat)) (.exit 3) (twEd n g sc es ml td sd i r who tp true)))
 (h10 : (((1 : Int) + (Int.tmod (bitsOf Go.BinOp.and Go.IntKind.i64 (recI (List.getD sc (Int.toNat i) ([] : List (Abs.Fd))) ((0 : Nat) + (1 : Nat))) (1023 : Int)) g)) = who))
 (h11 : (((1 : Int) + (bitsOf Go.BinOp.and Go.IntKind.i64 (recI (List.getD sc (Int.toNat i) ([] : List (Abs.Fd))) (((0 : Nat) + (1 : Nat)) + (1 : Nat))) (1 : Int))) = tp))
 (h12 : ((recI (List.getD sc (Int.toNat i) ([] : List (Abs.Fd))) (0 : Nat)) = (recI r (0 : Nat))))
 (h13 : ((recI (List.getD sc (Int.toNat i) ([] : List (Abs.Fd))) ((0 : Nat) + (1 : Nat))) = (recI r (1 : Nat))))
 (h14 : ((recI (List.getD sc (Int.toNat i) ([] : List (Abs.Fd))) (((0 : Nat) + (1 : Nat)) + (1 : Nat))) = (recI r (2 : Nat))))
 (h15 : ((recW (List.getD sc (Int.toNat i) ([] : List (Abs.Fd))) ((((0 : Nat) + (1 : Nat)) + (1 : Nat)) + (1 : Nat))) = (recW r (3 : Nat))))
 (h16 : ((recI (List.getD sc (Int.toNat i) ([] : List (Abs.Fd))) (((((0 : Nat) + (1 : Nat)) + (1 : Nat)) + (1 : Nat)) + (1 : Nat))) = (recI r (4 : Nat))))
 (h17 : ((recI (List.getD sc (Int.toNat i) ([] : List (Abs.Fd))) ((((((0 : Nat) + (1 : Nat)) + (1 : Nat)) + (1 : Nat)) + (1 : Nat)) + (1 : Nat))) = (recI r (5 : Nat))))
 (h18 : ((recI (List.getD sc (Int.toNat i) ([] : List (Abs.Fd))) (((((((0 : Nat) + (1 : Nat)) + (1 : Nat)) + (1 : Nat)) + (1 : Nat)) + (1 : Nat)) + (1 : Nat))) = (recI r (6 : Nat))))
 (h19 : ((recI (List.getD sc (Int.toNat i) ([] : List (Abs.Fd))) ((((((((0 : Nat) + (1 : Nat)) + (1 : Nat)) + (1 : Nat)) + (1 : Nat)) + (1 : Nat)) + (1 : Nat)) + (1 : Nat))) = (recI r (7 : Nat))))
 (h20 : ((recI (List.getD sc (Int.toNat i) ([] : List (Abs.Fd))) (((((((((0 : Nat) + (1 : Nat)) + (1 : Nat)) + (1 : Nat)) + (1 : Nat)) + (1 : Nat)) + (1 : Nat)) + (1 : Nat)) + (1 : Nat))) = (recI r (8 : Nat))))
 (h21 : ((recI (List.getD sc (Int.toNat i) ([] : List (Abs.Fd))) ((((((((((0 : Nat) + (1 : Nat)) + (1 : Nat)) + (1 : Nat)) + (1 : Nat)) + (1 : Nat)) + (1 : Nat)) + (1 : Nat)) + (1 : Nat)) + (1 : Nat))) = (recI r (9 : Nat))))
 (h22 : ((recW (List.getD sc (Int.toNat i) ([] : List (Abs.Fd))) (((((((((((0 : Nat) + (1 : Nat)) + (1 : Nat)) + (1 : Nat)) + (1 : Nat)) + (1 : Nat)) + (1 : Nat)) + (1 : Nat)) + (1 : Nat)) + (1 : Nat)) + (1 : Nat))) = (recW r (10 : Nat))))
 (h23 : (InI64 (i + (1 : Int))))
 (h24 : ((i + (1 : Int)) = i')) :
 ∃ ps, stepPs Try.prog DB gPl 100 (bodyN Try.f8 0) 100 (plSn n g sc es ml td sd i).st [.is true, .is true, .is true, .loop (loopL DB (twSn n g sc es ml td sd i r who tp false (0 : Nat)) (.exit 3) (twEd n g sc es ml td sd i r who tp true)), .is true] .normal (plSn n g sc es ml td sd i') = some ps ∧ AllQ ps := ⟨_, by kernel_rfl, qc h1 (qc h2 (qc h3 (qc h4 (qc h5 (qc h6 (qc h7 (qc h8 (qc h9 (qc (er sc) (qc (er i) (qc h10 (qc h11 (qc (er false) (qc (er ((((List.length sd) : Nat) : Int))) (qc (show ((0 : Int) = (((0 : Nat) : Nat) : Int)) from by decide) (qc (er n) (qc (er g) (qc (er td) (qc (er es) (qc (er ml) (qc (er sd) (qc h12 (qc h13 (qc h14 (qc h15 (qc h16 (qc h17 (qc h18 (qc h19 (qc h20 (qc h21 (qc h22 (qc (er true) (qc h23 (qc (er sc) (qc h24 (qc (er n) (qc (er g) (qc (er td) (qc (er es) (qc (er ml) (qc (er sd) (qn)))))))))))))))))))))))))))))))))))))))))))⟩
theorem pl_sayl (n g : Int) (sc : List Rec) (es : List (Rec × Ob)) (ml : List Rec) (td : List (List Rec)) (sd : List Rec) (i : Int) (r : Rec) (who tp : Int) (i' : Int)
 (h1 : ((decide (i < (((List.length sc) : Nat) : Int))) = true))
 (h2 : ((decide (i < (300 : Int))) = true))
 (h3 : ((0 : Int) ≤ i))
 (h4 : (i < (((List.length sc) : Nat) : Int)))
 (h5 : (((recI (List.getD sc (Int.toNat i) ([] : List (Abs.Fd))) (0 : Nat)) == (0 : Int)) = true))
 (h6 : (g ≠ (0 : Int)))
 (h7 : (InI64 ((1 : Int) + (Int.tmod (bitsOf Go.BinOp.and Go.IntKind.i64 (recI (List.getD sc (Int.toNat i) ([] : List (Abs.Fd))) ((0 : Nat) + (1 : Nat))) (1023 : Int)) g))))
 (h8 : (InI64 ((1 : Int) + (bitsOf Go.BinOp.and Go.IntKind.i64 (recI (List.getD sc (Int.toNat i) ([] : List (Abs.Fd))) (((0 : Nat) + (1 : Nat)) + (1 : Nat))) (1 : Int)))))
 (h9 : SumOK Try.prog DB (bodyN Try.f8 1) (loopL DB (twSn n g sc es ml td sd i r who tp false (0 : Nat)) (.exit 3) (twEd n g sc es ml td sd i r who tp false)))
 (h10 : (((1 : Int) + (Int.tmod (bitsOf Go.BinOp.and Go.IntKind.i64 (recI (List.getD sc (Int.toNat i) ([] : List (Abs.Fd))) ((0 : Nat) + (1 : Nat))) (1023 : Int)) g)) = who))
 (h11 : (((1 : Int) + (bitsOf Go.BinOp.and Go.IntKind.i64 (recI (List.getD sc (Int.toNat i) ([] : List (Abs.Fd))) (((0 : Nat) + (1 : Nat)) + (1 : Nat))) (1 : Int))) = tp))
 (h12 : ((recI (List.getD sc (Int.toNat i) ([] : List (Abs.Fd))) (0 : Nat)) = (recI r (0 : Nat))))
 (h13 : ((recI (List.getD sc (Int.toNat i) ([] : List (Abs.Fd))) ((0 : Nat) + (1 : Nat))) = (recI r (1 : Nat))))
 (h14 : ((recI (List.getD sc (Int.toNat i) ([] : List (Abs.Fd))) (((0 : Nat) + (1 : Nat)) + (1 : Nat))) = (recI r (2 : Nat))))
 (h15 : ((recW (List.getD sc (Int.toNat i) ([] : List (Abs.Fd))) ((((0 : Nat) + (1 : Nat)) + (1 : Nat)) + (1 : Nat))) = (recW r (3 : Nat))))
 (h16 : ((recI (List.getD sc (Int.toNat i) ([] : List (Abs.Fd))) (((((0 : Nat) + (1 : Nat)) + (1 : Nat)) + (1 : Nat)) + (1 : Nat))) = (recI r (4 : Nat))))
 (h17 : ((recI (List.getD sc (Int.toNat i) ([] : List (Abs.Fd))) ((((((0 : Nat) + (1 : Nat)) + (1 : Nat)) + (1 : Nat)) + (1 : Nat)) + (1 : Nat))) = (recI r (5 : Nat))))
 (h18 : ((recI (List.getD sc (Int.toNat i) ([] : List (Abs.Fd))) (((((((0 : Nat) + (1 : Nat)) + (1 : Nat)) + (1 : Nat)) + (1 : Nat)) + (1 : Nat)) + (1 : Nat))) = (recI r (6 : Nat))))
 (h19 : ((recI (List.getD sc (Int.toNat i) ([] : List (Abs.Fd))) ((((((((0 : Nat) + (1 : Nat)) + (1 : Nat)) + (1 : Nat)) + (1 : Nat)) + (1 : Nat)) + (1 : Nat)) + (1 : Nat))) = (recI r (7 : Nat))))
 (h20 : ((recI (List.getD sc (Int.toNat i) ([] : List (Abs.Fd))) (((((((((0 : Nat) + (1 : Nat)) + (1 : Nat)) + (1 : Nat)) + (1 : Nat)) + (1 : Nat)) + (1 : Nat)) + (1 : Nat)) + (1 : Nat))) = (recI r (8 : Nat))))
 (h21 : ((recI (List.getD sc (Int.toNat i) ([] : List (Abs.Fd))) ((((((((((0 : Nat) + (1 : Nat)) + (1 : Nat)) + (1 : Nat)) + (1 : Nat)) + (1 : Nat)) + (1 : Nat)) + (1 : Nat)) + (1 : Nat)) + (1 : Nat))) = (recI r (9 : Nat))))
 (h22 : ((recW (List.getD sc (Int.toNat i) ([] : List (Abs.Fd))) (((((((((((0 : Nat) + (1 : Nat)) + (1 : Nat)) + (1 : Nat)) + (1 : Nat)) + (1 : Nat)) + (1 : Nat)) + (1 : Nat)) + (1 : Nat)) + (1 : Nat)) + (1 : Nat))) = (recW r (10 : Nat))))
 (h23 : ((decide ((((List.length (recW r (3 : Nat))) : Nat) : Int) > (4096 : Int))) = true))
 (h24 : (InI64 (i + (1 : Int))))
 (h25 : ((i + (1 : Int)) = i')) :
 ∃ ps, stepPs Try.prog DB gPl 100 (bodyN Try.f8 0) 100 (plSn n g sc es ml td sd i).st [.is true, .is true, .is true, .loop (loopL DB (twSn n g sc es ml td sd i r who tp false (0 : Nat)) (.exit 3) (twEd n g sc es ml td sd i r who tp false)), .is false, .is true] .normal (plSn n g sc es ml td sd i') = some ps ∧ AllQ ps := ⟨_, by kernel_rfl, qc h1 (qc h2 (qc h3 (qc h4 (qc h5 (qc h6 (qc h7 (qc h8 (qc h9 (qc (er sc) (qc (er i) (qc h10 (qc h11 (qc (er false) (qc (er ((((List.length sd) : Nat) : Int))) (qc (show ((0 : Int) = (((0 : Nat) : Nat) : Int)) from by decide) (qc (er n) (qc (er g) (qc (er td) (qc (er es) (qc (er ml) (qc (er sd) (qc h12 (qc h13 (qc h14 (qc h15 (qc h16 (qc h17 (qc h18 (qc h19 (qc h20 (qc h21 (qc h22 (qc (er false) (qc h23 (qc h24 (qc (er sc) (qc h25 (qc (er n) (qc (er g) (qc (er td) (qc (er es) (qc (er ml) (qc (er sd) (qn))))))))))))))))))))))))))))))))))))))))))))⟩
abbrev pl_say_x1 (es : List (Rec × Ob)) (i : Int) (r : Rec) (who tp : Int) := ((sayHM (recI (Ob.r (obE es [(Fd.i (((Int.toNat (who - (1 : Int))) : Nat) : Int))])) (0 : Nat)) (recW (Ob.r (obE es [(Fd.i (((Int.toNat (who - (1 : Int))) : Nat) : Int))])) (1 : Nat)) (Ob.c (obE es [(Fd.i (((Int.toNat (who - (1 : Int))) : Nat) : Int))]) (0 : Nat)) tp (recW r (3 : Nat))))
abbrev pl_say_x2 (es : List (Rec × Ob)) (i : Int) (who : Int) := (obE es [(Fd.i (((Int.toNat (who - (1 : Int))) : Nat) : Int))])
theorem pl_say (n g : Int) (sc : List Rec) (es : List (Rec × Ob)) (ml : List Rec) (td : List (List Rec)) (sd : List Rec) (i : Int) (r : Rec) (who tp : Int) (i' : Int) (es' : List (Rec × Ob)) (ml' : List Rec) (td' : List (List Rec)) (sd' : List Rec)
 (h1 : ((decide (i < (((List.length sc) : Nat) : Int))) = true))
 (h2 : ((decide (i < (300 : Int))) = true))
 (h3 : ((0 : Int) ≤ i))
 (h4 : (i < (((List.length sc) : Nat) : Int)))
 (h5 : (((recI (List.getD sc (Int.toNat i) ([] : List (Abs.Fd))) (0 : Nat)) == (0 : Int)) = true))
 (h6 : (g ≠ (0 : Int)))
 (h7 : (InI64 ((1 : Int) + (Int.tmod (bitsOf Go.BinOp.and Go.IntKind.i64 (recI (List.getD sc (Int.toNat i) ([] : List (Abs.Fd))) ((0 : Nat) + (1 : Nat))) (1023 : Int)) g))))
 (h8 : (InI64 ((1 : Int) + (bitsOf Go.BinOp.and Go.IntKind.i64 (recI (List.getD sc (Int.toNat i) ([] : List (Abs.Fd))) (((0 : Nat) + (1 : Nat)) + (1 : Nat))) (1 : Int)))))
 (h9 : SumOK Try.prog DB (bodyN Try.f8 1) (loopL DB (twSn n g sc es ml td sd i r who tp false (0 : Nat)) (.exit 3) (twEd n g sc es ml td sd i r who tp false)))
 (h10 : (((1 : Int) + (Int.tmod (bitsOf Go.BinOp.and Go.IntKind.i64 (recI (List.getD sc (Int.toNat i) ([] : List (Abs.Fd))) ((0 : Nat) + (1 : Nat))) (1023 : Int)) g)) = who))
 (h11 : (((1 : Int) + (bitsOf Go.BinOp.and Go.IntKind.i64 (recI (List.getD sc (Int.toNat i) ([] : List (Abs.Fd))) (((0 : Nat) + (1 : Nat)) + (1 : Nat))) (1 : Int))) = tp))
 (h12 : ((recI (List.getD sc (Int.toNat i) ([] : List (Abs.Fd))) (0 : Nat)) = (recI r (0 : Nat))))
 (h13 : ((recI (List.getD sc (Int.toNat i) ([] : List (Abs.Fd))) ((0 : Nat) + (1 : Nat))) = (recI r (1 : Nat))))
 (h14 : ((recI (List.getD sc (Int.toNat i) ([] : List (Abs.Fd))) (((0 : Nat) + (1 : Nat)) + (1 : Nat))) = (recI r (2 : Nat))))
 (h15 : ((recW (List.getD sc (Int.toNat i) ([] : List (Abs.Fd))) ((((0 : Nat) + (1 : Nat)) + (1 : Nat)) + (1 : Nat))) = (recW r (3 : Nat))))
 (h16 : ((recI (List.getD sc (Int.toNat i) ([] : List (Abs.Fd))) (((((0 : Nat) + (1 : Nat)) + (1 : Nat)) + (1 : Nat)) + (1 : Nat))) = (recI r (4 : Nat))))
 (h17 : ((recI (List.getD sc (Int.toNat i) ([] : List (Abs.Fd))) ((((((0 : Nat) + (1 : Nat)) + (1 : Nat)) + (1 : Nat)) + (1 : Nat)) + (1 : Nat))) = (recI r (5 : Nat))))
 (h18 : ((recI (List.getD sc (Int.toNat i) ([] : List (Abs.Fd))) (((((((0 : Nat) + (1 : Nat)) + (1 : Nat)) + (1 : Nat)) + (1 : Nat)) + (1 : Nat)) + (1 : Nat))) = (recI r (6 : Nat))))
 (h19 : ((recI (List.getD sc (Int.toNat i) ([] : List (Abs.Fd))) ((((((((0 : Nat) + (1 : Nat)) + (1 : Nat)) + (1 : Nat)) + (1 : Nat)) + (1 : Nat)) + (1 : Nat)) + (1 : Nat))) = (recI r (7 : Nat))))
 (h20 : ((recI (List.getD sc (Int.toNat i) ([] : List (Abs.Fd))) (((((((((0 : Nat) + (1 : Nat)) + (1 : Nat)) + (1 : Nat)) + (1 : Nat)) + (1 : Nat)) + (1 : Nat)) + (1 : Nat)) + (1 : Nat))) = (recI r (8 : Nat))))
 (h21 : ((recI (List.getD sc (Int.toNat i) ([] : List (Abs.Fd))) ((((((((((0 : Nat) + (1 : Nat)) + (1 : Nat)) + (1 : Nat)) + (1 : Nat)) + (1 : Nat)) + (1 : Nat)) + (1 : Nat)) + (1 : Nat)) + (1 : Nat))) = (recI r (9 : Nat))))
 (h22 : ((recW (List.getD sc (Int.toNat i) ([] : List (Abs.Fd))) (((((((((((0 : Nat) + (1 : Nat)) + (1 : Nat)) + (1 : Nat)) + (1 : Nat)) + (1 : Nat)) + (1 : Nat)) + (1 : Nat)) + (1 : Nat)) + (1 : Nat)) + (1 : Nat))) = (recW r (10 : Nat))))
 (h23 : ((decide ((((List.length (recW r (3 : Nat))) : Nat) : Int) > (4096 : Int))) = false))
 (h24 : ((((List.length sd) + (1 : Nat)) * (120 : Nat)) ≤ (140737488355328 : Nat)))
 (h25 : (((List.length sd) + (1 : Nat)) ≤ (9223372036854775807 : Nat)))
 (h26 : (InI64 (who - (1 : Int))))
 (h27 : ((0 : Int) ≤ (who - (1 : Int))))
 (h28 : ((who - (1 : Int)) < (((List.length es) : Nat) : Int)))
 (h29 : ((hasE es [(Fd.i (((Int.toNat (who - (1 : Int))) : Nat) : Int))]) = true))
 (h30 : ((List.length (recW r (3 : Nat))) ≤ (281474976710656 : Nat)))
 (h31 : (HbOK (recI (Ob.r (pl_say_x2 es i who)) (0 : Nat)) (recW (Ob.r (pl_say_x2 es i who)) (1 : Nat))))
 (h32 : (EsOK (30000 : Nat) (Ob.c (pl_say_x2 es i who) (0 : Nat))))
 (h33 : (InB (recW r (3 : Nat))))
 (h34 : ((((1 : Int) ≤ tp) ∧ (tp ≤ (3 : Int))) ∧ ((List.length (recW r (3 : Nat))) ≤ (4096 : Nat))))
 (h35 : (DnOK n g who ml td ((pl_say_x1 es i r who tp).2).1 ((pl_say_x1 es i r who tp).2).2))
 (h36 : ((List.length ((pl_say_x1 es i r who tp).2).2) ≤ (1000000 : Nat)))
 (h37 : (InI64 (i + (1 : Int))))
 (h38 : ((i + (1 : Int)) = i'))
 (h39 : ((tellM who ((pl_say_x1 es i r who tp).2).2 td) = td'))
 (h40 : ((setE es [(Fd.i (((Int.toNat (who - (1 : Int))) : Nat) : Int))] (hubOb (recI (Ob.r (pl_say_x2 es i who)) (0 : Nat)) (recW (Ob.r (pl_say_x2 es i who)) (1 : Nat)) (pl_say_x1 es i r who tp).1)) = es'))
 (h41 : ((ml ++ (sendM g who ((pl_say_x1 es i r who tp).2).1)) = ml'))
 (h42 : ((sd ++ [[(Fd.i (0 : Int)), (Fd.i who), (Fd.i tp), (Fd.w (recW r (3 : Nat))), (Fd.i (0 : Int)), (Fd.i (0 : Int)), (Fd.i (0 : Int)), (Fd.i (0 : Int)), (Fd.i (0 : Int)), (Fd.i (0 : Int)), (Fd.w ([] : List (Int)))]]) = sd')) :
 ∃ ps, stepPs Try.prog DB gPl 100 (bodyN Try.f8 0) 100 (plSn n g sc es ml td sd i).st [.is true, .is true, .is true, .loop (loopL DB (twSn n g sc es ml td sd i r who tp false (0 : Nat)) (.exit 3) (twEd n g sc es ml td sd i r who tp false)), .is false, .is false] .normal (plSn n g sc es' ml' td' sd' i') = some ps ∧ AllQ ps := ⟨_, by kernel_rfl, qc h1 (qc h2 (qc h3 (qc h4 (qc h5 (qc h6 (qc h7 (qc h8 (qc h9 (qc (er sc) (qc (er i) (qc h10 (qc h11 (qc (er false) (qc (er ((((List.length sd) : Nat) : Int))) (qc (show ((0 : Int) = (((0 : Nat) : Nat) : Int)) from by decide) (qc (er n) (qc (er g) (qc (er td) (qc (er es) (qc (er ml) (qc (er sd) (qc h12 (qc h13 (qc h14 (qc h15 (qc h16 (qc h17 (qc h18 (qc h19 (qc h20 (qc h21 (qc h22 (qc (er false) (qc h23 (qc h24 (qc h25 (qc h26 (qc h27 (qc h28 (qc h29 (qc h30 (qc (er tp) (qc (er ((recW r (3 : Nat)))) (qc (er ((recI (Ob.r (pl_say_x2 es i who)) (0 : Nat)))) (qc (er ((recW (Ob.r (pl_say_x2 es i who)) (1 : Nat)))) (qc (er ((Ob.c (pl_say_x2 es i who) (0 : Nat)))) (qc h31 (qc h32 (qc h33 (qc h34 (qc (er who) (qc (er (((pl_say_x1 es i r who tp).2).1)) (qc (er (((pl_say_x1 es i r who tp).2).2)) (qc (er n) (qc (er g) (qc (er td) (qc (er ([(Fd.i (((Int.toNat (who - (1 : Int))) : Nat) : Int))])) (qc (er es) (qc (er ml) (qc (er ((recI (Ob.r (pl_say_x2 es i who)) (0 : Nat)))) (qc (er ((recW (Ob.r (pl_say_x2 es i who)) (1 : Nat)))) (qc (er ((pl_say_x1 es i r who tp).1)) (qc h35 (qc h36 (qc h37 (qc (er sc) (qc h38 (qc (er n) (qc (er g) (qc h39 (qc h40 (qc h41 (qc h42 (qn))))))))))))))))))))))))))))))))))))))))))))))))))))))))))))))))))))))))))⟩
theorem pl_run (n g : Int) (sc : List Rec) (es es' : List (Rec × Ob)) (ml' : List Rec) (td td' : List (List Rec)) (sd' : List Rec)
 (h1 : SumOK Try.prog DB (bodyN Try.f8 0) (loopL DB (plSn n g sc es [] td [] (0 : Nat)) (.exit 0) (plEd n g es' ml' td' sd'))) :
 ∃ ps, runO Try.prog DB gPl 100 Try.f8 ([netX n g (.own 1) .nil td, .fam 2 es none], [.one (.ref 0 0), .one (.prs oSh sc)]) [.loop (loopL DB (plSn n g sc es [] td [] (0 : Nat)) (.exit 0) (plEd n g es' ml' td' sd'))] (.tup [.one (.own 3), .one (.bool true true)]) [netX n g (.own 1) (.own 2) td', .fam 2 es' none, mlX ml', sdX sd'] = some ps ∧ AllQ ps := ⟨_, by kernel_rfl, qc h1 (qc (er sc) (qc (show ((0 : Int) = (((0 : Nat) : Nat) : Int)) from by decide) (qc (er n) (qc (er g) (qc (er td) (qc (er es) (qc (er (([] : List (Rec)))) (qc (er (([] : List (Rec)))) (qc (er n) (qc (er g) (qc (er (td')) (qc (er (es')) (qc (er (ml')) (qc (er (sd')) (qn)))))))))))))))⟩
end Go.Num
namespace Go.Num
open Go.Abs Go.Proofs Go.Shelf Go.RowKit
def modM (x g : Int) : Int := Int.tmod (bitsOf .and .i64 x 1023) g
def whoP (g : Int) (r : Rec) : Int := 1 + modM (recI r 1) g
def tpP (r : Rec) : Int := 1 + bitsOf .and .i64 (recI r 2) 1
def twP (sd : List Rec) (who tp : Int) : Bool := sd.any fun s => recI s 1 == who && recI s 2 == tp
def sdR (who tp : Int) (b : List Int) : Rec := [.i 0, .i who, .i tp, .w b, .i 0, .i 0, .i 0, .i 0, .i 0, .i 0, .w []]
def outS (es : List (Rec × Ob)) (who tp : Int) (b : List Int) : List (Rec × Ob) × List Rec × List Rec := sayHM (recI (obI es who).r 0) (recW (obI es who).r 1) ((obI es who).c 0) tp b
def kthP (ml : List Rec) (r : Rec) : Nat := (Int.tmod (bitsOf .and .i64 (recI r 1) 65535) ml.length).toNat
def falseM (n g : Int) (r : Rec) : MsT := ⟨recI r 4, recI r 5, g + 1 + modM (recI r 6) (n - g), recI r 7, recI r 8, recI r 9, recW r 10⟩
abbrev PlT := NetM × List Rec
def putP (g : Int) (es : List (Rec × Ob)) (ml : List Rec) (td : List (List Rec)) (i : Int) (o : List (Rec × Ob) × List Rec × List Rec) : NetM := (putM es i o.1, ml ++ sendM g i o.2.1, tellM i o.2.2 td)
def dupR (l : Rec) : Rec := ltR (recI l 0) (lM l)
def stepP (n g : Int) (S : PlT) (r : Rec) : PlT :=
  if recI r 0 = 0 then
    if twP S.2 (whoP g r) (tpP r) = true ∨ 4096 < (recW r 3).length then S
    else (putP g S.1.1 S.1.2.1 S.1.2.2 (whoP g r) (outS S.1.1 (whoP g r) (tpP r) (recW r 3)), S.2 ++ [sdR (whoP g r) (tpP r) (recW r 3)])
  else if recI r 0 = 1 then if S.1.2.1 = [] then S else (dlM g S.1.1 S.1.2.1 S.1.2.2 (kthP S.1.2.1 r), S.2)
  else if recI r 0 = 3 then if S.1.2.1 = [] then S else (dlM g S.1.1 (S.1.2.1 ++ [dupR (S.1.2.1.getD (kthP S.1.2.1 r) [])]) S.1.2.2 (kthP S.1.2.1 r), S.2)
  else if recI r 0 = 2 then if g = n then S else (putP g S.1.1 S.1.2.1 S.1.2.2 (whoP g r) (goM S.1.1 (whoP g r) (falseM n g r)), S.2)
  else S
theorem twP_snoc (sd : List Rec) (x : Rec) (who tp : Int) : twP (sd ++ [x]) who tp = (twP sd who tp || (recI x 1 == who && recI x 2 == tp)) := by
  unfold twP
  rw [List.any_append]
  simp
theorem tw_sum (n g : Int) (sc : List Rec) (es : List (Rec × Ob)) (ml : List Rec) (td : List (List Rec)) (sd : List Rec) (i : Int) (r : Rec) (who tp : Int) (hs : sd.length ≤ 1000000) (tw : Bool) (htw : twP sd who tp = tw) :
    SumOK Try.prog DB (bodyN Try.f8 1) (loopL DB (twSn n g sc es ml td sd i r who tp false (0 : Nat)) (.exit 3) (twEd n g sc es ml td sd i r who tp tw)) := by
  subst htw
  refine sum_loop gPl_ok mixed (c := bodyN Try.f8 1) (fun k => twSn n g sc es ml td sd i r who tp (twP (sd.take k) who tp) (k : Nat)) sd.length (e := .exit 3) (s := twEd n g sc es ml td sd i r who tp (twP sd who tp)) rfl (fun k hk => ?_) ⟨_, _, _, by
    have := tw_exit n g sc es ml td sd i r who tp (twP (sd.take sd.length) who tp) (sd.length : Nat) (decide_eq_false (by omega))
    rw [List.take_length] at this ⊢
    exact this⟩
  have e : twP (sd.take (k + 1)) who tp = (twP (sd.take k) who tp || (recI (sd.getD k []) 1 == who && recI (sd.getD k []) 2 == tp)) := by rw [take_snoc hk [] rfl, twP_snoc]
  simp only [e]
  cases h1 : twP (sd.take k) who tp
  · cases h2 : recI (sd.getD k []) 1 == who
    · exact ⟨_, _, _, tw_n1 n g sc es ml td sd i r who tp (k : Nat) _ (decide_eq_true (by omega)) (by omega) (by omega) (by omega) (by rw [Int.toNat_natCast]; exact h2) ⟨by omega, by omega⟩ rfl⟩
    · cases h3 : recI (sd.getD k []) 2 == tp
      · exact ⟨_, _, _, tw_n2 n g sc es ml td sd i r who tp (k : Nat) _ (decide_eq_true (by omega)) (by omega) (by omega) (by omega) (by rw [Int.toNat_natCast]; exact h2) (by rw [Int.toNat_natCast]; exact h3) ⟨by omega, by omega⟩ rfl⟩
      · exact ⟨_, _, _, tw_y n g sc es ml td sd i r who tp (k : Nat) _ (decide_eq_true (by omega)) (by omega) (by omega) (by omega) (by rw [Int.toNat_natCast]; exact h2) (by rw [Int.toNat_natCast]; exact h3) ⟨by omega, by omega⟩ rfl⟩
  · exact ⟨_, _, _, tw_t n g sc es ml td sd i r who tp (k : Nat) _ (decide_eq_true (by omega)) (by omega) (by omega) (by omega) ⟨by omega, by omega⟩ rfl⟩
def StepOK (n g : Int) (S : PlT) (r : Rec) : Prop :=
  (recI r 0 = 0 → ¬ (twP S.2 (whoP g r) (tpP r) = true ∨ 4096 < (recW r 3).length) → HuOK S.1.1 (whoP g r) ∧ InB (recW r 3) ∧ DnOK n g (whoP g r) S.1.2.1 S.1.2.2 (outS S.1.1 (whoP g r) (tpP r) (recW r 3)).2.1 (outS S.1.1 (whoP g r) (tpP r) (recW r 3)).2.2 ∧ (outS S.1.1 (whoP g r) (tpP r) (recW r 3)).2.2.length ≤ 1000000) ∧
  (recI r 0 = 1 → S.1.2.1 ≠ [] → DlOK n g S.1.1 S.1.2.1 S.1.2.2 (kthP S.1.2.1 r)) ∧
  (recI r 0 = 3 → S.1.2.1 ≠ [] → DlOK n g S.1.1 (S.1.2.1 ++ [dupR (S.1.2.1.getD (kthP S.1.2.1 r) [])]) S.1.2.2 (kthP S.1.2.1 r)) ∧
  (recI r 0 = 2 → g ≠ n → HuOK S.1.1 (whoP g r) ∧ InB (recW r 10) ∧ (recW r 10).length ≤ 281474976710656 ∧ DnOK n g (whoP g r) S.1.2.1 S.1.2.2 (goM S.1.1 (whoP g r) (falseM n g r)).2.1 (goM S.1.1 (whoP g r) (falseM n g r)).2.2 ∧ (goM S.1.1 (whoP g r) (falseM n g r)).2.2.length ≤ 1000000)
theorem bits_low (n : Int) (m : Nat) (hm : m < 9223372036854775808) : 0 ≤ bitsOf .and .i64 n m ∧ bitsOf .and .i64 n m ≤ m := by
  have h1 : (BitVec.ofInt 64 n &&& BitVec.ofInt 64 m).toNat ≤ m := by
    rw [BitVec.toNat_and]
    refine Nat.le_trans Nat.and_le_right ?_
    rw [BitVec.toNat_ofInt]
    omega
  have h2 : bitsOf .and .i64 n m = (((BitVec.ofInt 64 n &&& BitVec.ofInt 64 m).toNat : Nat) : Int) := by
    show IntKind.i64.wrap (((BitVec.ofInt 64 n &&& BitVec.ofInt 64 m).toNat : Nat) : Int) = _
    rw [IntKind.wrap_i64]
    omega
  rw [h2]
  omega
theorem modM_rng {x g : Int} (h : 1 ≤ g) : 0 ≤ modM x g ∧ modM x g < g := by
  obtain ⟨b1, b2⟩ : 0 ≤ bitsOf .and .i64 x 1023 ∧ _ := bits_low x 1023 (by omega)
  exact ⟨Int.tmod_nonneg g b1, Int.tmod_lt_of_pos _ (by omega)⟩
theorem whoP_rng {g : Int} (r : Rec) (h : 1 ≤ g) : 1 ≤ whoP g r ∧ whoP g r ≤ g := by
  obtain ⟨b1, b2⟩ := modM_rng (x := recI r 1) h
  unfold whoP
  omega
theorem tpP_rng (r : Rec) : 1 ≤ tpP r ∧ tpP r ≤ 2 := by
  obtain ⟨b1, b2⟩ : 0 ≤ bitsOf .and .i64 (recI r 2) 1 ∧ bitsOf .and .i64 (recI r 2) 1 ≤ 1 := bits_low (recI r 2) 1 (by omega)
  unfold tpP
  omega
theorem kthP_rng {ml : List Rec} (r : Rec) (h : ml ≠ []) : ((kthP ml r : Nat) : Int) = Int.tmod (bitsOf .and .i64 (recI r 1) 65535) ml.length ∧ kthP ml r < ml.length := by
  obtain ⟨b1, b2⟩ : 0 ≤ bitsOf .and .i64 (recI r 1) 65535 ∧ bitsOf .and .i64 (recI r 1) 65535 ≤ 65535 := bits_low (recI r 1) 65535 (by omega)
  have hl : 0 < ml.length := List.length_pos_iff.2 h
  have h1 := Int.tmod_nonneg (ml.length : Int) b1
  have h2 := Int.tmod_lt_of_pos (bitsOf .and .i64 (recI r 1) 65535) (show (0 : Int) < ml.length by omega)
  unfold kthP
  omega
end Go.Num
namespace Go.Num
open Go.Abs Go.Proofs Go.Shelf Go.RowKit
theorem msg11 (sc : List Rec) (k : Nat) : sc.getD ((k : Int)).toNat [] = sc.getD k [] := by rw [Int.toNat_natCast]
def RoundOK (n g : Int) (sc : List Rec) (S S' : PlT) (k : Nat) : Prop :=
  ∃ fuel nid ds ps, stepPs Try.prog DB gPl fuel (bodyN Try.f8 0) nid (plSn n g sc S.1.1 S.1.2.1 S.1.2.2 S.2 (k : Nat)).st ds .normal (plSn n g sc S'.1.1 S'.1.2.1 S'.1.2.2 S'.2 ((k + 1 : Nat) : Int)) = some ps ∧ AllQ ps
theorem rd_other {n g : Int} {sc : List Rec} {S : PlT} {k : Nat} (hk : k < sc.length) (h3 : k < 300) (c0 : recI (sc.getD k []) 0 ≠ 0) (c1 : recI (sc.getD k []) 0 ≠ 1) (c3 : recI (sc.getD k []) 0 ≠ 3) (c2 : recI (sc.getD k []) 0 ≠ 2) : RoundOK n g sc S S k :=
  ⟨_, _, _, pl_other n g sc _ _ _ _ k _ (decide_eq_true (by omega)) (decide_eq_true (by omega)) (by omega) (by omega) (by rw [msg11]; exact beq_eq_false_iff_ne.2 c0) (by rw [msg11]; exact beq_eq_false_iff_ne.2 c1) (by rw [msg11]; exact beq_eq_false_iff_ne.2 c3) (by rw [msg11]; exact beq_eq_false_iff_ne.2 c2) ⟨by omega, by omega⟩ rfl⟩
theorem rd_dl1 {n g : Int} {sc : List Rec} {S : PlT} {k : Nat} (hk : k < sc.length) (h3 : k < 300) (c1 : recI (sc.getD k []) 0 = 1) (hne : S.1.2.1 ≠ []) (hd : DlOK n g S.1.1 S.1.2.1 S.1.2.2 (kthP S.1.2.1 (sc.getD k []))) : RoundOK n g sc S (dlM g S.1.1 S.1.2.1 S.1.2.2 (kthP S.1.2.1 (sc.getD k [])), S.2) k := by
  obtain ⟨e1, e2⟩ := kthP_rng (sc.getD k []) hne
  have hl : 0 < S.1.2.1.length := List.length_pos_iff.2 hne
  refine ⟨_, _, _, pl_dl1 n g sc _ _ _ _ _ _ _ k _ (decide_eq_true (by omega)) (decide_eq_true (by omega)) (by omega) (by omega) (by rw [msg11, c1]; rfl) (by rw [msg11, c1]; rfl) (beq_eq_false_iff_ne.2 (by omega)) (by omega) (by rw [msg11, c1]; rfl) ?_ ?_ ⟨by omega, by omega⟩ rfl ?_ ?_ ?_⟩
  all_goals simp only [msg11]
  · exact hd
  · exact e1 ▸ Int.natCast_nonneg _
  all_goals rfl
theorem rd_dl3 {n g : Int} {sc : List Rec} {S : PlT} {k : Nat} (hk : k < sc.length) (h3 : k < 300) (c3 : recI (sc.getD k []) 0 = 3) (hne : S.1.2.1 ≠ []) (hl1 : S.1.2.1.length ≤ 1000000) (hd : DlOK n g S.1.1 (S.1.2.1 ++ [dupR (S.1.2.1.getD (kthP S.1.2.1 (sc.getD k [])) [])]) S.1.2.2 (kthP S.1.2.1 (sc.getD k []))) : RoundOK n g sc S (dlM g S.1.1 (S.1.2.1 ++ [dupR (S.1.2.1.getD (kthP S.1.2.1 (sc.getD k [])) [])]) S.1.2.2 (kthP S.1.2.1 (sc.getD k [])), S.2) k := by
  obtain ⟨e1, e2⟩ := kthP_rng (sc.getD k []) hne
  have hl : 0 < S.1.2.1.length := List.length_pos_iff.2 hne
  refine ⟨_, _, _, pl_dl3 n g sc _ _ _ _ _ _ _ k _ (decide_eq_true (by omega)) (decide_eq_true (by omega)) (by omega) (by omega) (by rw [msg11, c3]; rfl) (by rw [msg11, c3]; rfl) (by rw [msg11, c3]; rfl) (beq_eq_false_iff_ne.2 (by omega)) (by omega) ?_ ?_ ?_ (by omega) (by omega) ?_ ⟨by omega, by omega⟩ rfl ?_ ?_ ?_⟩
  all_goals simp only [msg11]
  · exact e1 ▸ Int.natCast_nonneg _
  · rw [← e1]; omega
  · exact e2
  · exact hd
  all_goals rfl
theorem rd_in0 {g : Int} {sc : List Rec} {S : PlT} {k : Nat} (hk : k < sc.length) (h3 : k < 300) (c2 : recI (sc.getD k []) 0 = 2) : RoundOK g g sc S S k :=
  ⟨_, _, _, pl_in0 g g sc _ _ _ _ k _ (decide_eq_true (by omega)) (decide_eq_true (by omega)) (by omega) (by omega) (by rw [msg11, c2]; rfl) (by rw [msg11, c2]; rfl) (by rw [msg11, c2]; rfl) (by rw [msg11, c2]; rfl) (beq_self_eq_true g) ⟨by omega, by omega⟩ rfl⟩
theorem rd_dl1e {n g : Int} {sc : List Rec} {S : PlT} {k : Nat} (hk : k < sc.length) (h3 : k < 300) (c1 : recI (sc.getD k []) 0 = 1) (he : S.1.2.1 = []) : RoundOK n g sc S S k :=
  ⟨_, _, _, pl_dl1e n g sc _ _ _ _ k _ (decide_eq_true (by omega)) (decide_eq_true (by omega)) (by omega) (by omega) (by rw [msg11, c1]; rfl) (by rw [msg11, c1]; rfl) (by rw [he]; rfl) ⟨by omega, by omega⟩ rfl⟩
theorem rd_dl3e {n g : Int} {sc : List Rec} {S : PlT} {k : Nat} (hk : k < sc.length) (h3 : k < 300) (c1 : recI (sc.getD k []) 0 = 3) (he : S.1.2.1 = []) : RoundOK n g sc S S k :=
  ⟨_, _, _, pl_dl3e n g sc _ _ _ _ k _ (decide_eq_true (by omega)) (decide_eq_true (by omega)) (by omega) (by omega) (by rw [msg11, c1]; rfl) (by rw [msg11, c1]; rfl) (by rw [msg11, c1]; rfl) (by rw [he]; rfl) ⟨by omega, by omega⟩ rfl⟩
theorem rd_in {n g : Int} {sc : List Rec} {S : PlT} {k : Nat} (hk : k < sc.length) (h3 : k < 300) (c2 : recI (sc.getD k []) 0 = 2) (hgn : g ≠ n) (hg : 1 ≤ g ∧ g ≤ n ∧ n ≤ 9) (hu : HuOK S.1.1 (whoP g (sc.getD k []))) (hb : InB (recW (sc.getD k []) 10)) (hbl : (recW (sc.getD k []) 10).length ≤ 281474976710656)
    (hd : DnOK n g (whoP g (sc.getD k [])) S.1.2.1 S.1.2.2 (goM S.1.1 (whoP g (sc.getD k [])) (falseM n g (sc.getD k []))).2.1 (goM S.1.1 (whoP g (sc.getD k [])) (falseM n g (sc.getD k []))).2.2) (ht : (goM S.1.1 (whoP g (sc.getD k [])) (falseM n g (sc.getD k []))).2.2.length ≤ 1000000) :
    RoundOK n g sc S (putP g S.1.1 S.1.2.1 S.1.2.2 (whoP g (sc.getD k [])) (goM S.1.1 (whoP g (sc.getD k [])) (falseM n g (sc.getD k []))), S.2) k := by
  obtain ⟨⟨u1, u2, u3⟩, u4, u5, u6⟩ := hu
  have w1 := whoP_rng (sc.getD k []) hg.1
  have w2 := modM_rng (x := recI (sc.getD k []) 6) (g := n - g) (by omega)
  have ew : pl_in_x2 g sc (k : Nat) = whoP g (sc.getD k []) := by unfold pl_in_x2 whoP modM; rw [msg11]
  refine ⟨_, _, _, pl_in n g sc _ _ _ _ _ _ _ k _ (decide_eq_true (by omega)) (decide_eq_true (by omega)) (by omega) (by omega) (by rw [msg11, c2]; rfl) (by rw [msg11, c2]; rfl) (by rw [msg11, c2]; rfl) (by rw [msg11, c2]; rfl) (beq_eq_false_iff_ne.2 hgn) ?_ ⟨by omega, by omega⟩ ⟨by omega, by omega⟩ (by omega) ?_ (by omega) ?_ ?_ ?_ ?_ ?_ ?_ ?_ ?_ ?_ ?_ ⟨by omega, by omega⟩ rfl ?_ ?_ ?_⟩
  · unfold pl_in_x5; rw [msg11]; exact hbl
  · rw [msg11]
    show InI64 (g + 1 + modM (recI (sc.getD k []) 6) (n - g))
    exact ⟨by omega, by omega⟩
  · rw [ew]; exact ⟨by omega, by omega⟩
  · rw [ew]; exact ⟨by omega, by omega⟩
  · rw [ew]; omega
  · rw [ew]; omega
  · unfold pl_in_x4; rw [ew]; exact u4
  · unfold pl_in_x4; rw [ew]; exact u5
  · unfold pl_in_x4; rw [ew]; exact u6
  · unfold pl_in_x5; rw [msg11]; exact hb
  · rw [ew]; exact hd
  · exact ht
  · rw [ew]; rfl
  · rfl
  · rw [ew]; rfl
theorem rd_say2 {n g : Int} {sc : List Rec} {S : PlT} {k : Nat} (hk : k < sc.length) (h3 : k < 300) (c0 : recI (sc.getD k []) 0 = 0) (hg : 1 ≤ g ∧ g ≤ 9) (hs : S.2.length ≤ 1000000) (htw : twP S.2 (whoP g (sc.getD k [])) (tpP (sc.getD k [])) = true) : RoundOK n g sc S S k := by
  have w1 := whoP_rng (sc.getD k []) hg.1
  have w2 := tpP_rng (sc.getD k [])
  refine ⟨_, _, _, pl_say2 n g sc _ _ _ _ k (sc.getD k []) (whoP g (sc.getD k [])) (tpP (sc.getD k [])) _ (decide_eq_true (by omega)) (decide_eq_true (by omega)) (by omega) (by omega) (by rw [msg11, c0]; rfl) (by omega) ?_ ?_ (tw_sum n g sc _ _ _ _ k _ _ _ hs true htw) ?_ ?_ ?_ ?_ ?_ ?_ ?_ ?_ ?_ ?_ ?_ ?_ ?_ ⟨by omega, by omega⟩ rfl⟩
  all_goals simp only [msg11]
  · show InI64 (whoP g (sc.getD k [])); exact ⟨by omega, by omega⟩
  · show InI64 (tpP (sc.getD k [])); exact ⟨by omega, by omega⟩
  all_goals rfl
theorem rd_sayl {n g : Int} {sc : List Rec} {S : PlT} {k : Nat} (hk : k < sc.length) (h3 : k < 300) (c0 : recI (sc.getD k []) 0 = 0) (hg : 1 ≤ g ∧ g ≤ 9) (hs : S.2.length ≤ 1000000) (htw : twP S.2 (whoP g (sc.getD k [])) (tpP (sc.getD k [])) = false) (hl : 4096 < (recW (sc.getD k []) 3).length) : RoundOK n g sc S S k := by
  have w1 := whoP_rng (sc.getD k []) hg.1
  have w2 := tpP_rng (sc.getD k [])
  refine ⟨_, _, _, pl_sayl n g sc _ _ _ _ k (sc.getD k []) (whoP g (sc.getD k [])) (tpP (sc.getD k [])) _ (decide_eq_true (by omega)) (decide_eq_true (by omega)) (by omega) (by omega) (by rw [msg11, c0]; rfl) (by omega) ?_ ?_ (tw_sum n g sc _ _ _ _ k _ _ _ hs false htw) ?_ ?_ ?_ ?_ ?_ ?_ ?_ ?_ ?_ ?_ ?_ ?_ ?_ (decide_eq_true (by omega)) ⟨by omega, by omega⟩ rfl⟩
  all_goals simp only [msg11]
  · show InI64 (whoP g (sc.getD k [])); exact ⟨by omega, by omega⟩
  · show InI64 (tpP (sc.getD k [])); exact ⟨by omega, by omega⟩
  all_goals rfl
theorem rd_say {n g : Int} {sc : List Rec} {S : PlT} {k : Nat} (hk : k < sc.length) (h3 : k < 300) (c0 : recI (sc.getD k []) 0 = 0) (hg : 1 ≤ g ∧ g ≤ 9) (hs : S.2.length ≤ 1000000) (htw : twP S.2 (whoP g (sc.getD k [])) (tpP (sc.getD k [])) = false) (hl : (recW (sc.getD k []) 3).length ≤ 4096)
    (hu : HuOK S.1.1 (whoP g (sc.getD k []))) (hb : InB (recW (sc.getD k []) 3)) (hd : DnOK n g (whoP g (sc.getD k [])) S.1.2.1 S.1.2.2 (outS S.1.1 (whoP g (sc.getD k [])) (tpP (sc.getD k [])) (recW (sc.getD k []) 3)).2.1 (outS S.1.1 (whoP g (sc.getD k [])) (tpP (sc.getD k [])) (recW (sc.getD k []) 3)).2.2) (ht : (outS S.1.1 (whoP g (sc.getD k [])) (tpP (sc.getD k [])) (recW (sc.getD k []) 3)).2.2.length ≤ 1000000) :
    RoundOK n g sc S (putP g S.1.1 S.1.2.1 S.1.2.2 (whoP g (sc.getD k [])) (outS S.1.1 (whoP g (sc.getD k [])) (tpP (sc.getD k [])) (recW (sc.getD k []) 3)), S.2 ++ [sdR (whoP g (sc.getD k [])) (tpP (sc.getD k [])) (recW (sc.getD k []) 3)]) k := by
  obtain ⟨⟨u1, u2, u3⟩, u4, u5, u6⟩ := hu
  have w1 := whoP_rng (sc.getD k []) hg.1
  have w2 := tpP_rng (sc.getD k [])
  refine ⟨_, _, _, pl_say n g sc _ _ _ _ k (sc.getD k []) (whoP g (sc.getD k [])) (tpP (sc.getD k [])) _ _ _ _ _ (decide_eq_true (by omega)) (decide_eq_true (by omega)) (by omega) (by omega) (by rw [msg11, c0]; rfl) (by omega) ?_ ?_ (tw_sum n g sc _ _ _ _ k _ _ _ hs false htw) ?_ ?_ ?_ ?_ ?_ ?_ ?_ ?_ ?_ ?_ ?_ ?_ ?_ (decide_eq_false (by omega)) (by omega) (by omega) ⟨by omega, by omega⟩ (by omega) (by omega) u4 (by omega) u5 u6 hb ⟨⟨w2.1, by omega⟩, hl⟩ hd ht ⟨by omega, by omega⟩ rfl rfl rfl rfl rfl⟩
  all_goals simp only [msg11]
  · show InI64 (whoP g (sc.getD k [])); exact ⟨by omega, by omega⟩
  · show InI64 (tpP (sc.getD k [])); exact ⟨by omega, by omega⟩
  all_goals rfl
theorem round_ok {n g : Int} {sc : List Rec} {S : PlT} {k : Nat} (hk : k < sc.length) (h3 : k < 300) (hg : 1 ≤ g ∧ g ≤ n ∧ n ≤ 9) (hs : S.2.length ≤ 1000000) (hl1 : S.1.2.1.length ≤ 1000000) (h : StepOK n g S (sc.getD k [])) : RoundOK n g sc S (stepP n g S (sc.getD k [])) k := by
  obtain ⟨h0, h1, h4, h2⟩ := h
  unfold stepP
  by_cases c0 : recI (sc.getD k []) 0 = 0
  · rw [if_pos c0]
    by_cases hc : twP S.2 (whoP g (sc.getD k [])) (tpP (sc.getD k [])) = true ∨ 4096 < (recW (sc.getD k []) 3).length
    · rw [if_pos hc]
      cases htw : twP S.2 (whoP g (sc.getD k [])) (tpP (sc.getD k []))
      · exact rd_sayl hk h3 c0 ⟨hg.1, by omega⟩ hs htw (hc.resolve_left (by rw [htw]; decide))
      · exact rd_say2 hk h3 c0 ⟨hg.1, by omega⟩ hs htw
    · rw [if_neg hc]
      obtain ⟨a1, a2, a3, a4⟩ := h0 c0 hc
      refine rd_say hk h3 c0 ⟨hg.1, by omega⟩ hs ?_ ?_ a1 a2 a3 a4
      · cases htw : twP S.2 (whoP g (sc.getD k [])) (tpP (sc.getD k []))
        · rfl
        · exact (hc (Or.inl htw)).elim
      · exact Nat.le_of_not_lt fun h => hc (Or.inr h)
  · rw [if_neg c0]
    by_cases c1 : recI (sc.getD k []) 0 = 1
    · rw [if_pos c1]
      by_cases he : S.1.2.1 = []
      · rw [if_pos he]; exact rd_dl1e hk h3 c1 he
      · rw [if_neg he]; exact rd_dl1 hk h3 c1 he (h1 c1 he)
    · rw [if_neg c1]
      by_cases c3 : recI (sc.getD k []) 0 = 3
      · rw [if_pos c3]
        by_cases he : S.1.2.1 = []
        · rw [if_pos he]; exact rd_dl3e hk h3 c3 he
        · rw [if_neg he]; exact rd_dl3 hk h3 c3 he hl1 (h4 c3 he)
      · rw [if_neg c3]
        by_cases c2 : recI (sc.getD k []) 0 = 2
        · rw [if_pos c2]
          by_cases he : g = n
          · rw [if_pos he]
            subst he
            exact rd_in0 hk h3 c2
          · rw [if_neg he]
            obtain ⟨a1, a2, a3, a4, a5⟩ := h2 c2 he
            exact rd_in hk h3 c2 he hg a1 a2 a3 a4 a5
        · rw [if_neg c2]
          exact rd_other hk h3 c0 c1 c3 c2
end Go.Num
namespace Go.Num
open Go.Abs Go.Proofs Go.Shelf Go.RowKit
def plK (n g : Int) (es : List (Rec × Ob)) (td : List (List Rec)) (sc : List Rec) : Nat → PlT
  | 0 => ((es, [], td), [])
  | k + 1 => stepP n g (plK n g es td sc k) (sc.getD k [])
def plN (sc : List Rec) : Nat := min sc.length 300
def plE (n g : Int) (es : List (Rec × Ob)) (td : List (List Rec)) (sc : List Rec) : PlT := plK n g es td sc (plN sc)
def PlOK (n g : Int) (es : List (Rec × Ob)) (td : List (List Rec)) (sc : List Rec) : Prop :=
  (1 ≤ g ∧ g ≤ n ∧ n ≤ 9) ∧ ∀ k, k < plN sc → (plK n g es td sc k).2.length ≤ 1000000 ∧ (plK n g es td sc k).1.2.1.length ≤ 1000000 ∧ StepOK n g (plK n g es td sc k) (sc.getD k [])
theorem pl_sum {n g : Int} {es : List (Rec × Ob)} {td : List (List Rec)} {sc : List Rec} (h : PlOK n g es td sc) :
    SumOK Try.prog DB (bodyN Try.f8 0) (loopL DB (plSn n g sc es [] td [] (0 : Nat)) (.exit 0) (plEd n g (plE n g es td sc).1.1 (plE n g es td sc).1.2.1 (plE n g es td sc).1.2.2 (plE n g es td sc).2)) := by
  have hN : plN sc ≤ sc.length ∧ plN sc ≤ 300 ∧ (plN sc = sc.length ∨ (plN sc < sc.length ∧ plN sc = 300)) := by unfold plN; omega
  have := sum_loop gPl_ok mixed (c := bodyN Try.f8 0) (fun k => plSn n g sc (plK n g es td sc k).1.1 (plK n g es td sc k).1.2.1 (plK n g es td sc k).1.2.2 (plK n g es td sc k).2 (k : Nat)) (plN sc) (e := .exit 0) (s := plEd n g (plE n g es td sc).1.1 (plE n g es td sc).1.2.1 (plE n g es td sc).1.2.2 (plE n g es td sc).2) rfl (fun k hk => ?_) ?_
  · exact this
  · obtain ⟨h1, h2, h3⟩ := h.2 k hk
    exact round_ok (by omega) (by omega) h.1 h1 h2 h3
  · rcases hN.2.2 with h1 | ⟨h1, h2⟩
    · exact ⟨_, _, _, pl_exit1 n g sc _ _ _ _ (plN sc : Nat) (decide_eq_false (by omega))⟩
    · exact ⟨_, _, _, pl_exit2 n g sc _ _ _ _ (plN sc : Nat) (decide_eq_true (by omega)) (decide_eq_false (by omega))⟩
def plRd : List (BoxSt DB.τ) → List (A0 DB.τ) → Option (Int × Int × (List (Rec × Ob) × List (List Rec)) × List Rec)
  | [.fixed _ [.int .i64 _ n, .int .i64 _ g, .own 1, .nil, .prss _ _ td], .fam _ es none], [.one (.ref 0 0), .one (.prs _ sc)] => some (n, g, (es, td), sc)
  | _, _ => none
noncomputable def playQ := mkF DB Try.f8.ntmps plRd (fun t => ([netX t.1 t.2.1 (.own 1) .nil t.2.2.1.2, .fam 2 t.2.2.1.1 none], [.one (.ref 0 0), .one (.prs oSh t.2.2.2)]))
  (fun t => some (.tup [.one (.own 3), .one (.bool true true)], [netX t.1 t.2.1 (.own 1) (.own 2) (plE t.1 t.2.1 t.2.2.1.1 t.2.2.1.2 t.2.2.2).1.2.2, .fam 2 (plE t.1 t.2.1 t.2.2.1.1 t.2.2.1.2 t.2.2.2).1.1 none, mlX (plE t.1 t.2.1 t.2.2.1.1 t.2.2.1.2 t.2.2.2).1.2.1, sdX (plE t.1 t.2.1 t.2.2.1.1 t.2.2.1.2 t.2.2.2).2], [PlOK t.1 t.2.1 t.2.2.1.1 t.2.2.1.2 t.2.2.2]))
theorem play_ok : OpOK Try.prog DB 8 playQ := by
  refine opOK_mkG mixed Try.func8 (enters_of Try.func8 (by kernel_rfl) rfl) ?_
  rintro ⟨n, g, ⟨es, td⟩, sc⟩ r' bs' ps h hps
  simp only [Option.some.injEq, Prod.mk.injEq] at h
  obtain ⟨rfl, rfl, rfl⟩ := h
  have h1 : PlOK n g es td sc := hps (PlOK n g es td sc) (by simp)
  exact ⟨_, _, _, gPl_ok, pl_run n g sc es _ _ td _ _ (pl_sum h1)⟩
end Go.Num
namespace Go.Num
open Go.Abs Go.Proofs Go.Shelf Go.RowKit
noncomputable def gAr : Gam DB := [(freezeId, .fn (freezeD DB [46, 58])), (6, .fn headBD), (7, .op [false] buildQ), (8, .op [true, false] playQ), (9, .op [true] agrQ), (10, .fn (sameD DB))]
theorem gAr_ok : GamOK Try.prog DB gAr := gam_freeze (gam_cons headB_ok (gam_op build_ok (gam_op play_ok (gam_op agr_ok (gam_cons (same_ok DB) gam_nil)))))
def ar1Sn (n g : Int) (es : List (Rec × Ob)) (ml : List Rec) (td : List (List Rec)) (sd : List Rec) (i : Int) : Sn DB.τ where
  slots := [(5, .v (.one (.ref 0 0))), (6, .v (.one (.own 3))), (8, .v (.one (.int .i64 false i)))]
  boxes := enumB 0 (ntB n g es ml td ++ [sdX sd])
  nt := 71
def ar1Ed : Sn DB.τ where
  slots := []
  boxes := []
  nt := 71
def ar2Sn (n g : Int) (es : List (Rec × Ob)) (ml : List Rec) (td : List (List Rec)) (sd : List Rec) (i k : Int) : Sn DB.τ where
  slots := [(5, .v (.one (.ref 0 0))), (6, .v (.one (.own 3))), (8, .v (.one (.int .i64 false i))), (41, .v (.one (.own 3))), (42, .v (.one (.int .i64 false sd.length))), (43, .v (.one (.int .i64 false k)))]
  boxes := enumB 0 (ntB n g es ml td ++ [sdX sd])
  nt := 71
theorem ar2_exit (n g : Int) (es : List (Rec × Ob)) (ml : List Rec) (td : List (List Rec)) (sd : List Rec) (i k : Int)
 (h1 : ((decide (k < (((List.length sd) : Nat) : Int))) = false)) :
 ∃ ps, stepPs Try.prog DB gAr 100 (bodyN Try.f3 1) 100 (ar2Sn n g es ml td sd i k).st [.is false] (.exit 2) (ar1Sn n g es ml td sd i) = some ps ∧ AllQ ps := ⟨_, by kernel_rfl, qc h1 (qc (er i) (qc (er n) (qc (er g) (qc (er td) (qc (er es) (qc (er ml) (qc (er sd) (qn))))))))⟩
theorem ar2_none (n g : Int) (es : List (Rec × Ob)) (ml : List Rec) (td : List (List Rec)) (sd : List Rec) (i k k' : Int)
 (h1 : ((decide (k < (((List.length sd) : Nat) : Int))) = true))
 (h2 : ((0 : Int) ≤ k))
 (h3 : (k < (((List.length sd) : Nat) : Int)))
 (h4 : ((Int.toNat k) < (List.length sd)))
 (h5 : ((0 : Int) ≤ i))
 (h6 : (i < (((10 : Nat) : Nat) : Int)))
 (h7 : ((0 : Int) ≤ (recI (List.getD sd (Int.toNat k) ([] : List (Abs.Fd))) (((0 : Nat) + (1 : Nat)) + (1 : Nat)))))
 (h8 : ((recI (List.getD sd (Int.toNat k) ([] : List (Abs.Fd))) (((0 : Nat) + (1 : Nat)) + (1 : Nat))) < (((4 : Nat) : Nat) : Int)))
 (h9 : ((0 : Int) ≤ (recI (List.getD sd (Int.toNat k) ([] : List (Abs.Fd))) ((0 : Nat) + (1 : Nat)))))
 (h10 : ((recI (List.getD sd (Int.toNat k) ([] : List (Abs.Fd))) ((0 : Nat) + (1 : Nat))) < (((10 : Nat) : Nat) : Int)))
 (h11 : ((4 : Nat) ≤ (((((0 : Nat) + (4 : Nat)) + ((Int.toNat i) * (40 : Nat))) + ((Int.toNat (recI (List.getD sd (Int.toNat k) ([] : List (Abs.Fd))) (((0 : Nat) + (1 : Nat)) + (1 : Nat)))) * (10 : Nat))) + (Int.toNat (recI (List.getD sd (Int.toNat k) ([] : List (Abs.Fd))) ((0 : Nat) + (1 : Nat)))))))
 (h12 : ((((((0 : Nat) + (4 : Nat)) + ((Int.toNat i) * (40 : Nat))) + ((Int.toNat (recI (List.getD sd (Int.toNat k) ([] : List (Abs.Fd))) (((0 : Nat) + (1 : Nat)) + (1 : Nat)))) * (10 : Nat))) + (Int.toNat (recI (List.getD sd (Int.toNat k) ([] : List (Abs.Fd))) ((0 : Nat) + (1 : Nat))))) < ((4 : Nat) + (400 : Nat))))
 (h13 : ((decide ((0 : Int) < (((List.length (List.getD td ((((((0 : Nat) + (4 : Nat)) + ((Int.toNat i) * (40 : Nat))) + ((Int.toNat (recI (List.getD sd (Int.toNat k) ([] : List (Abs.Fd))) (((0 : Nat) + (1 : Nat)) + (1 : Nat)))) * (10 : Nat))) + (Int.toNat (recI (List.getD sd (Int.toNat k) ([] : List (Abs.Fd))) ((0 : Nat) + (1 : Nat))))) - (4 : Nat)) ([] : List (Rec)))) : Nat) : Int))) = false))
 (h14 : (InI64 (k + (1 : Int))))
 (h15 : ((k + (1 : Int)) = k')) :
 ∃ ps, stepPs Try.prog DB gAr 100 (bodyN Try.f3 1) 100 (ar2Sn n g es ml td sd i k).st [.is true, .roll, .is false] .normal (ar2Sn n g es ml td sd i k') = some ps ∧ AllQ ps := ⟨_, by kernel_rfl, qc h1 (qc h2 (qc h3 (qc h4 (qc h5 (qc h6 (qc h7 (qc h8 (qc h9 (qc h10 (qc h11 (qc h12 (qc h13 (qc h14 (qc (er i) (qc (er ((((List.length sd) : Nat) : Int))) (qc h15 (qc (er n) (qc (er g) (qc (er td) (qc (er es) (qc (er ml) (qc (er sd) (qn)))))))))))))))))))))))⟩
theorem ar2_one (n g : Int) (es : List (Rec × Ob)) (ml : List Rec) (td : List (List Rec)) (sd : List Rec) (i k k' : Int)
 (h1 : ((decide (k < (((List.length sd) : Nat) : Int))) = true))
 (h2 : ((0 : Int) ≤ k))
 (h3 : (k < (((List.length sd) : Nat) : Int)))
 (h4 : ((Int.toNat k) < (List.length sd)))
 (h5 : ((0 : Int) ≤ i))
 (h6 : (i < (((10 : Nat) : Nat) : Int)))
 (h7 : ((0 : Int) ≤ (recI (List.getD sd (Int.toNat k) ([] : List (Abs.Fd))) (((0 : Nat) + (1 : Nat)) + (1 : Nat)))))
 (h8 : ((recI (List.getD sd (Int.toNat k) ([] : List (Abs.Fd))) (((0 : Nat) + (1 : Nat)) + (1 : Nat))) < (((4 : Nat) : Nat) : Int)))
 (h9 : ((0 : Int) ≤ (recI (List.getD sd (Int.toNat k) ([] : List (Abs.Fd))) ((0 : Nat) + (1 : Nat)))))
 (h10 : ((recI (List.getD sd (Int.toNat k) ([] : List (Abs.Fd))) ((0 : Nat) + (1 : Nat))) < (((10 : Nat) : Nat) : Int)))
 (h11 : ((4 : Nat) ≤ (((((0 : Nat) + (4 : Nat)) + ((Int.toNat i) * (40 : Nat))) + ((Int.toNat (recI (List.getD sd (Int.toNat k) ([] : List (Abs.Fd))) (((0 : Nat) + (1 : Nat)) + (1 : Nat)))) * (10 : Nat))) + (Int.toNat (recI (List.getD sd (Int.toNat k) ([] : List (Abs.Fd))) ((0 : Nat) + (1 : Nat)))))))
 (h12 : ((((((0 : Nat) + (4 : Nat)) + ((Int.toNat i) * (40 : Nat))) + ((Int.toNat (recI (List.getD sd (Int.toNat k) ([] : List (Abs.Fd))) (((0 : Nat) + (1 : Nat)) + (1 : Nat)))) * (10 : Nat))) + (Int.toNat (recI (List.getD sd (Int.toNat k) ([] : List (Abs.Fd))) ((0 : Nat) + (1 : Nat))))) < ((4 : Nat) + (400 : Nat))))
 (h13 : ((decide ((0 : Int) < (((List.length (List.getD td ((((((0 : Nat) + (4 : Nat)) + ((Int.toNat i) * (40 : Nat))) + ((Int.toNat (recI (List.getD sd (Int.toNat k) ([] : List (Abs.Fd))) (((0 : Nat) + (1 : Nat)) + (1 : Nat)))) * (10 : Nat))) + (Int.toNat (recI (List.getD sd (Int.toNat k) ([] : List (Abs.Fd))) ((0 : Nat) + (1 : Nat))))) - (4 : Nat)) ([] : List (Rec)))) : Nat) : Int))) = true))
 (h14 : ((0 : Int) < (((List.length (List.getD td ((((((0 : Nat) + (4 : Nat)) + ((Int.toNat i) * (40 : Nat))) + ((Int.toNat (recI (List.getD sd (Int.toNat k) ([] : List (Abs.Fd))) (((0 : Nat) + (1 : Nat)) + (1 : Nat)))) * (10 : Nat))) + (Int.toNat (recI (List.getD sd (Int.toNat k) ([] : List (Abs.Fd))) ((0 : Nat) + (1 : Nat))))) - (4 : Nat)) ([] : List (Rec)))) : Nat) : Int)))
 (h15 : ((decide ((recW (List.getD (List.getD td ((((((0 : Nat) + (4 : Nat)) + ((Int.toNat i) * (40 : Nat))) + ((Int.toNat (recI (List.getD sd (Int.toNat k) ([] : List (Abs.Fd))) (((0 : Nat) + (1 : Nat)) + (1 : Nat)))) * (10 : Nat))) + (Int.toNat (recI (List.getD sd (Int.toNat k) ([] : List (Abs.Fd))) ((0 : Nat) + (1 : Nat))))) - (4 : Nat)) ([] : List (Rec))) (0 : Nat) ([] : List (Abs.Fd))) (0 : Nat)) = (recW (List.getD sd (Int.toNat k) ([] : List (Abs.Fd))) ((((0 : Nat) + (1 : Nat)) + (1 : Nat)) + (1 : Nat))))) = true))
 (h16 : ((List.length (recW (List.getD (List.getD td ((((((0 : Nat) + (4 : Nat)) + ((Int.toNat i) * (40 : Nat))) + ((Int.toNat (recI (List.getD sd (Int.toNat k) ([] : List (Abs.Fd))) (((0 : Nat) + (1 : Nat)) + (1 : Nat)))) * (10 : Nat))) + (Int.toNat (recI (List.getD sd (Int.toNat k) ([] : List (Abs.Fd))) ((0 : Nat) + (1 : Nat))))) - (4 : Nat)) ([] : List (Rec))) (0 : Nat) ([] : List (Abs.Fd))) (0 : Nat))) ≤ (9223372036854775807 : Nat)))
 (h17 : ((List.length (recW (List.getD sd (Int.toNat k) ([] : List (Abs.Fd))) ((((0 : Nat) + (1 : Nat)) + (1 : Nat)) + (1 : Nat)))) ≤ (9223372036854775807 : Nat)))
 (h18 : ((decide ((Go.IntKind.wrap Go.IntKind.i64 ((0 : Int) + (1 : Int))) < (((List.length (List.getD td ((((((0 : Nat) + (4 : Nat)) + ((Int.toNat i) * (40 : Nat))) + ((Int.toNat (recI (List.getD sd (Int.toNat k) ([] : List (Abs.Fd))) (((0 : Nat) + (1 : Nat)) + (1 : Nat)))) * (10 : Nat))) + (Int.toNat (recI (List.getD sd (Int.toNat k) ([] : List (Abs.Fd))) ((0 : Nat) + (1 : Nat))))) - (4 : Nat)) ([] : List (Rec)))) : Nat) : Int))) = false))
 (h19 : (InI64 (k + (1 : Int))))
 (h20 : ((k + (1 : Int)) = k')) :
 ∃ ps, stepPs Try.prog DB gAr 100 (bodyN Try.f3 1) 100 (ar2Sn n g es ml td sd i k).st [.is true, .roll, .is true, .is true, .is false] .normal (ar2Sn n g es ml td sd i k') = some ps ∧ AllQ ps := ⟨_, by kernel_rfl, qc h1 (qc h2 (qc h3 (qc h4 (qc h5 (qc h6 (qc h7 (qc h8 (qc h9 (qc h10 (qc h11 (qc h12 (qc h13 (qc (show ((0 : Int) ≤ (0 : Int)) from by decide) (qc h14 (qc h15 (qc h16 (qc h17 (qc h18 (qc h19 (qc (er i) (qc (er ((((List.length sd) : Nat) : Int))) (qc h20 (qc (er n) (qc (er g) (qc (er td) (qc (er es) (qc (er ml) (qc (er sd) (qn)))))))))))))))))))))))))))))⟩
theorem ar1_exit (n g : Int) (es : List (Rec × Ob)) (ml : List Rec) (td : List (List Rec)) (sd : List Rec) (i : Int)
 (h1 : ((decide (i ≤ g)) = false)) :
 ∃ ps, stepPs Try.prog DB gAr 100 (bodyN Try.f3 0) 100 (ar1Sn n g es ml td sd i).st [.is false] (.exit 0) ar1Ed = some ps ∧ AllQ ps := ⟨_, by kernel_rfl, qc h1 (qn)⟩
theorem ar1_step (n g : Int) (es : List (Rec × Ob)) (ml : List Rec) (td : List (List Rec)) (sd : List Rec) (i i' : Int)
 (h1 : ((decide (i ≤ g)) = true))
 (h2 : SumOK Try.prog DB (bodyN Try.f3 1) (loopL DB (ar2Sn n g es ml td sd i (0 : Nat)) (.exit 2) (ar1Sn n g es ml td sd i)))
 (h3 : (InI64 (i + (1 : Int))))
 (h4 : ((i + (1 : Int)) = i')) :
 ∃ ps, stepPs Try.prog DB gAr 100 (bodyN Try.f3 0) 100 (ar1Sn n g es ml td sd i).st [.is true, .loop (loopL DB (ar2Sn n g es ml td sd i (0 : Nat)) (.exit 2) (ar1Sn n g es ml td sd i))] .normal (ar1Sn n g es ml td sd i') = some ps ∧ AllQ ps := ⟨_, by kernel_rfl, qc h1 (qc h2 (qc (er i) (qc (er ((((List.length sd) : Nat) : Int))) (qc (show ((0 : Int) = (((0 : Nat) : Nat) : Int)) from by decide) (qc (er n) (qc (er g) (qc (er td) (qc (er es) (qc (er ml) (qc (er sd) (qc h3 (qc h4 (qc (er n) (qc (er g) (qc (er td) (qc (er es) (qc (er ml) (qc (er sd) (qn)))))))))))))))))))⟩
theorem ar_run (n m g : Int) (sc : List Rec) (es : List (Rec × Ob)) (ml : List Rec) (td : List (List Rec)) (sd : List Rec)
 (h1 : (InI64 ((1 : Int) + (Int.tmod (bitsOf Go.BinOp.and Go.IntKind.i64 n (1023 : Int)) (7 : Int)))))
 (h2 : (((1 : Int) ≤ ((1 : Int) + (Int.tmod (bitsOf Go.BinOp.and Go.IntKind.i64 n (1023 : Int)) (7 : Int)))) ∧ (((1 : Int) + (Int.tmod (bitsOf Go.BinOp.and Go.IntKind.i64 n (1023 : Int)) (7 : Int))) ≤ (9 : Int))))
 (h3 : (PlOK ((1 : Int) + (Int.tmod (bitsOf Go.BinOp.and Go.IntKind.i64 n (1023 : Int)) (7 : Int))) (((nGood (Int.toNat ((1 : Int) + (Int.tmod (bitsOf Go.BinOp.and Go.IntKind.i64 n (1023 : Int)) (7 : Int))))) : Nat) : Int) (hubsE (Int.toNat ((1 : Int) + (Int.tmod (bitsOf Go.BinOp.and Go.IntKind.i64 n (1023 : Int)) (7 : Int)))) (nGood (Int.toNat ((1 : Int) + (Int.tmod (bitsOf Go.BinOp.and Go.IntKind.i64 n (1023 : Int)) (7 : Int))))) (fun x => [])) (List.replicate (400 : Nat) ([] : List (Rec))) sc))
 (h4 : (AgOK ((1 : Int) + (Int.tmod (bitsOf Go.BinOp.and Go.IntKind.i64 n (1023 : Int)) (7 : Int))) (((nGood (Int.toNat ((1 : Int) + (Int.tmod (bitsOf Go.BinOp.and Go.IntKind.i64 n (1023 : Int)) (7 : Int))))) : Nat) : Int) ((((plE ((1 : Int) + (Int.tmod (bitsOf Go.BinOp.and Go.IntKind.i64 n (1023 : Int)) (7 : Int))) (((nGood (Int.toNat ((1 : Int) + (Int.tmod (bitsOf Go.BinOp.and Go.IntKind.i64 n (1023 : Int)) (7 : Int))))) : Nat) : Int) (hubsE (Int.toNat ((1 : Int) + (Int.tmod (bitsOf Go.BinOp.and Go.IntKind.i64 n (1023 : Int)) (7 : Int)))) (nGood (Int.toNat ((1 : Int) + (Int.tmod (bitsOf Go.BinOp.and Go.IntKind.i64 n (1023 : Int)) (7 : Int))))) (fun x => [])) (List.replicate (400 : Nat) ([] : List (Rec))) sc)).1).2).2))
 (h5 : ((((1 : Int) ≤ ((1 : Int) + (Int.tmod (bitsOf Go.BinOp.and Go.IntKind.i64 n (1023 : Int)) (7 : Int)))) ∧ (((1 : Int) + (Int.tmod (bitsOf Go.BinOp.and Go.IntKind.i64 n (1023 : Int)) (7 : Int))) ≤ (9 : Int))) ∧ (((0 : Int) ≤ (((nGood (Int.toNat ((1 : Int) + (Int.tmod (bitsOf Go.BinOp.and Go.IntKind.i64 n (1023 : Int)) (7 : Int))))) : Nat) : Int)) ∧ ((((nGood (Int.toNat ((1 : Int) + (Int.tmod (bitsOf Go.BinOp.and Go.IntKind.i64 n (1023 : Int)) (7 : Int))))) : Nat) : Int) ≤ (9 : Int)))))
 (h6 : SumOK Try.prog DB (bodyN Try.f3 0) (loopL DB (ar1Sn m g es ml td sd 1) (.exit 0) ar1Ed))
 (h7 : (((1 : Int) + (Int.tmod (bitsOf Go.BinOp.and Go.IntKind.i64 n (1023 : Int)) (7 : Int))) = m))
 (h8 : ((((nGood (Int.toNat ((1 : Int) + (Int.tmod (bitsOf Go.BinOp.and Go.IntKind.i64 n (1023 : Int)) (7 : Int))))) : Nat) : Int) = g))
 (h9 : (((((plE ((1 : Int) + (Int.tmod (bitsOf Go.BinOp.and Go.IntKind.i64 n (1023 : Int)) (7 : Int))) (((nGood (Int.toNat ((1 : Int) + (Int.tmod (bitsOf Go.BinOp.and Go.IntKind.i64 n (1023 : Int)) (7 : Int))))) : Nat) : Int) (hubsE (Int.toNat ((1 : Int) + (Int.tmod (bitsOf Go.BinOp.and Go.IntKind.i64 n (1023 : Int)) (7 : Int)))) (nGood (Int.toNat ((1 : Int) + (Int.tmod (bitsOf Go.BinOp.and Go.IntKind.i64 n (1023 : Int)) (7 : Int))))) (fun x => [])) (List.replicate (400 : Nat) ([] : List (Rec))) sc)).1).2).2 = td))
 (h10 : ((((plE ((1 : Int) + (Int.tmod (bitsOf Go.BinOp.and Go.IntKind.i64 n (1023 : Int)) (7 : Int))) (((nGood (Int.toNat ((1 : Int) + (Int.tmod (bitsOf Go.BinOp.and Go.IntKind.i64 n (1023 : Int)) (7 : Int))))) : Nat) : Int) (hubsE (Int.toNat ((1 : Int) + (Int.tmod (bitsOf Go.BinOp.and Go.IntKind.i64 n (1023 : Int)) (7 : Int)))) (nGood (Int.toNat ((1 : Int) + (Int.tmod (bitsOf Go.BinOp.and Go.IntKind.i64 n (1023 : Int)) (7 : Int))))) (fun x => [])) (List.replicate (400 : Nat) ([] : List (Rec))) sc)).1).1 = es))
 (h11 : (((((plE ((1 : Int) + (Int.tmod (bitsOf Go.BinOp.and Go.IntKind.i64 n (1023 : Int)) (7 : Int))) (((nGood (Int.toNat ((1 : Int) + (Int.tmod (bitsOf Go.BinOp.and Go.IntKind.i64 n (1023 : Int)) (7 : Int))))) : Nat) : Int) (hubsE (Int.toNat ((1 : Int) + (Int.tmod (bitsOf Go.BinOp.and Go.IntKind.i64 n (1023 : Int)) (7 : Int)))) (nGood (Int.toNat ((1 : Int) + (Int.tmod (bitsOf Go.BinOp.and Go.IntKind.i64 n (1023 : Int)) (7 : Int))))) (fun x => [])) (List.replicate (400 : Nat) ([] : List (Rec))) sc)).1).2).1 = ml))
 (h12 : (((plE ((1 : Int) + (Int.tmod (bitsOf Go.BinOp.and Go.IntKind.i64 n (1023 : Int)) (7 : Int))) (((nGood (Int.toNat ((1 : Int) + (Int.tmod (bitsOf Go.BinOp.and Go.IntKind.i64 n (1023 : Int)) (7 : Int))))) : Nat) : Int) (hubsE (Int.toNat ((1 : Int) + (Int.tmod (bitsOf Go.BinOp.and Go.IntKind.i64 n (1023 : Int)) (7 : Int)))) (nGood (Int.toNat ((1 : Int) + (Int.tmod (bitsOf Go.BinOp.and Go.IntKind.i64 n (1023 : Int)) (7 : Int))))) (fun x => [])) (List.replicate (400 : Nat) ([] : List (Rec))) sc)).2 = sd)) :
 ∃ ps, runF Try.prog DB gAr 100 Try.f3 [.one (.int .i64 false n), .one (.prs oSh sc)] [.loop (loopL DB (ar1Sn m g es ml td sd 1) (.exit 0) ar1Ed)] = some ((AV.v (A0.one (Part.bool true true))), ps) ∧ AllQ ps := ⟨_, by kernel_rfl, qc h1 (qc (er (((1 : Int) + (Int.tmod (bitsOf Go.BinOp.and Go.IntKind.i64 n (1023 : Int)) (7 : Int))))) (qc h2 (qc (er sc) (qc (er (((1 : Int) + (Int.tmod (bitsOf Go.BinOp.and Go.IntKind.i64 n (1023 : Int)) (7 : Int))))) (qc (er ((((nGood (Int.toNat ((1 : Int) + (Int.tmod (bitsOf Go.BinOp.and Go.IntKind.i64 n (1023 : Int)) (7 : Int))))) : Nat) : Int))) (qc (er ((List.replicate (400 : Nat) ([] : List (Rec))))) (qc (er ((hubsE (Int.toNat ((1 : Int) + (Int.tmod (bitsOf Go.BinOp.and Go.IntKind.i64 n (1023 : Int)) (7 : Int)))) (nGood (Int.toNat ((1 : Int) + (Int.tmod (bitsOf Go.BinOp.and Go.IntKind.i64 n (1023 : Int)) (7 : Int))))) (fun x => [])))) (qc h3 (qc (er (((1 : Int) + (Int.tmod (bitsOf Go.BinOp.and Go.IntKind.i64 n (1023 : Int)) (7 : Int))))) (qc (er ((((nGood (Int.toNat ((1 : Int) + (Int.tmod (bitsOf Go.BinOp.and Go.IntKind.i64 n (1023 : Int)) (7 : Int))))) : Nat) : Int))) (qc (er (((((plE ((1 : Int) + (Int.tmod (bitsOf Go.BinOp.and Go.IntKind.i64 n (1023 : Int)) (7 : Int))) (((nGood (Int.toNat ((1 : Int) + (Int.tmod (bitsOf Go.BinOp.and Go.IntKind.i64 n (1023 : Int)) (7 : Int))))) : Nat) : Int) (hubsE (Int.toNat ((1 : Int) + (Int.tmod (bitsOf Go.BinOp.and Go.IntKind.i64 n (1023 : Int)) (7 : Int)))) (nGood (Int.toNat ((1 : Int) + (Int.tmod (bitsOf Go.BinOp.and Go.IntKind.i64 n (1023 : Int)) (7 : Int))))) (fun x => [])) (List.replicate (400 : Nat) ([] : List (Rec))) sc)).1).2).2)) (qc (er ((((plE ((1 : Int) + (Int.tmod (bitsOf Go.BinOp.and Go.IntKind.i64 n (1023 : Int)) (7 : Int))) (((nGood (Int.toNat ((1 : Int) + (Int.tmod (bitsOf Go.BinOp.and Go.IntKind.i64 n (1023 : Int)) (7 : Int))))) : Nat) : Int) (hubsE (Int.toNat ((1 : Int) + (Int.tmod (bitsOf Go.BinOp.and Go.IntKind.i64 n (1023 : Int)) (7 : Int)))) (nGood (Int.toNat ((1 : Int) + (Int.tmod (bitsOf Go.BinOp.and Go.IntKind.i64 n (1023 : Int)) (7 : Int))))) (fun x => [])) (List.replicate (400 : Nat) ([] : List (Rec))) sc)).1).1)) (qc (er (((((plE ((1 : Int) + (Int.tmod (bitsOf Go.BinOp.and Go.IntKind.i64 n (1023 : Int)) (7 : Int))) (((nGood (Int.toNat ((1 : Int) + (Int.tmod (bitsOf Go.BinOp.and Go.IntKind.i64 n (1023 : Int)) (7 : Int))))) : Nat) : Int) (hubsE (Int.toNat ((1 : Int) + (Int.tmod (bitsOf Go.BinOp.and Go.IntKind.i64 n (1023 : Int)) (7 : Int)))) (nGood (Int.toNat ((1 : Int) + (Int.tmod (bitsOf Go.BinOp.and Go.IntKind.i64 n (1023 : Int)) (7 : Int))))) (fun x => [])) (List.replicate (400 : Nat) ([] : List (Rec))) sc)).1).2).1)) (qc h4 (qc h5 (qc h6 (qc (er ((1 : Int))) (qc h7 (qc h8 (qc h9 (qc h10 (qc h11 (qc h12 (qn))))))))))))))))))))))))⟩
abbrev Nt := Int → Option (List Int)
def saidB (e : Nt) (x : List Int) (j : Int) : Bool := decide (e j = some x)
def cn (n : Nat) (e : Nt) (x : List Int) : Nat := (mbN n).countP (saidB e x)
theorem countP_or {α : Type} (p q : α → Bool) (l : List α) : l.countP p + l.countP q ≤ l.length + l.countP (fun a => p a && q a) := by
  induction l with
  | nil => simp
  | cons a l ih =>
    simp only [List.countP_cons, List.length_cons]
    cases hp : p a <;> cases hq : q a <;> simp <;> omega
theorem countP_le {α : Type} {p q : α → Bool} {l : List α} (h : ∀ a ∈ l, p a = true → q a = true) : l.countP p ≤ l.countP q := List.countP_mono_left h
theorem countP_part (p : Int → Bool) (g : Nat) : ∀ d : Nat, (mbN (g + d)).countP p ≤ (mbN g).countP p + d ∧ (mbN g).countP p ≤ (mbN (g + d)).countP p
  | 0 => ⟨Nat.le_refl _, Nat.le_refl _⟩
  | d + 1 => by
    obtain ⟨h1, h2⟩ := countP_part p g d
    rw [← Nat.add_assoc, mbN_snoc, List.countP_append]
    have : [((g + d : Nat) : Int) + 1].countP p ≤ 1 := List.countP_le_length
    omega
structure Par (n g f half : Nat) : Prop where
  gn : g + f = n
  n9 : n ≤ 9
  n1 : 1 ≤ n
  h1 : n + f ≤ 2 * half + 1
  h2 : half < g
  f3 : 3 * f < n
theorem par_of {n : Nat} (h1 : 1 ≤ n) (h9 : n ≤ 9) : Par n (n - (n - 1) / 3) ((n - 1) / 3) ((n + (n - 1) / 3) / 2) := by
  constructor <;> omega
def Good (g : Nat) (j : Int) : Prop := 1 ≤ j ∧ j ≤ g
theorem good_of {n g f half : Nat} (hp : Par n g f half) {p : Int → Bool} (h : f < (mbN n).countP p) : ∃ j, Good g j ∧ p j = true := by
  have hn := hp.gn
  have h1 := (countP_part p g f).1
  rw [hn] at h1
  have h2 : 0 < (mbN g).countP p := by omega
  obtain ⟨j, hj, h3⟩ := List.countP_pos_iff.1 h2
  exact ⟨j, mbN_mem.1 hj, h3⟩
theorem quo_meet {n g f half : Nat} (hp : Par n g f half) {p q : Int → Bool} (h1 : half < (mbN n).countP p) (h2 : half < (mbN n).countP q) : ∃ j, Good g j ∧ p j = true ∧ q j = true := by
  have h3 := countP_or p q (mbN n)
  rw [mbN_len] at h3
  have := hp.h1
  obtain ⟨j, hj, hpq⟩ := good_of hp (p := fun a => p a && q a) (by omega)
  rw [Bool.and_eq_true] at hpq
  exact ⟨j, hj, hpq⟩
theorem saidB_iff {e : Nt} {x : List Int} {j : Int} : saidB e x j = true ↔ e j = some x := by unfold saidB; simp
structure Tk where
  b : Bool
  r : Bool
  t : Bool
  e : Nt
  q : Nt
structure Loc (n f half : Nat) (me : Int) (t : Tk) : Prop where
  bo : t.b = true ↔ t.e me ≠ none
  ro : t.r = true ↔ t.q me ≠ none
  cr : ∀ x, half < cn n t.e x ∨ f < cn n t.q x → t.r = true
  ct : ∀ x, 2 * f < cn n t.q x → t.t = true
structure Hs (n f half : Nat) (me : Int) (m : MsT) (t0 t1 : Tk) : Prop where
  em : ∀ j x, t0.e j = some x → t1.e j = some x
  en : ∀ j x, t1.e j = some x → t0.e j = some x ∨ (x = m.bd ∧ ((j = me ∧ m.k = 1 ∧ m.fr = m.wh) ∨ (j = m.fr ∧ m.k = 2)))
  qm : ∀ j x, t0.q j = some x → t1.q j = some x
  qn : ∀ j x, t1.q j = some x → t0.q j = some x ∨ (x = m.bd ∧ ((j = me ∧ t0.r = false ∧ t1.r = true) ∨ (j = m.fr ∧ m.k = 3)))
  bm : t0.b = true → t1.b = true
  rm : t0.r = true → t1.r = true
  tm : t0.t = true → t1.t = true
  bn : t0.b = false → t1.b = true → t1.e me = some m.bd
  rn : t0.r = false → t1.r = true → t1.q me = some m.bd
  o1 : m.k = 1 → m.fr = m.wh → t1.b = true
  o2 : m.k = 2 → t1.e m.fr ≠ none
  o3 : m.k = 3 → t1.q m.fr ≠ none
  loc : Loc n f half me t1
  rdy : t0.r = false → t1.r = true → half < cn n t1.e m.bd ∨ ∃ q' : Nt, f < cn n q' m.bd ∧ ∀ j x, q' j = some x → j ≠ me ∧ t1.q j = some x
  tld : t0.t = false → t1.t = true → 2 * f < cn n t1.q m.bd
structure Ns where
  tk : Int → Int → Int → Tk
  ml : List (Int × MsT)
  sd : List (Int × Int × List Int)
  td : Int → Int → Int → Option (List Int)
structure LtOK (g n : Nat) (S : Ns) (p : Int × MsT) : Prop where
  to : Good g p.1
  fr : Good g p.2.fr
  ne : p.2.fr ≠ p.1 ∨ p.2.k = 1
  k : p.2.k = 1 ∨ p.2.k = 2 ∨ p.2.k = 3
  k1 : p.2.k = 1 → p.2.fr = p.2.wh ∧ (p.2.wh, p.2.tp, p.2.bd) ∈ S.sd
  k2 : p.2.k = 2 → (S.tk p.2.fr p.2.tp p.2.wh).e p.2.fr = some p.2.bd
  k3 : p.2.k = 3 → (S.tk p.2.fr p.2.tp p.2.wh).q p.2.fr = some p.2.bd
  tp : 1 ≤ p.2.tp ∧ p.2.tp ≤ 3
  wh : 1 ≤ p.2.wh ∧ p.2.wh ≤ n
def Way (ml : List (Int × MsT)) (i k fr t w : Int) : Prop := ∃ p ∈ ml, p.1 = i ∧ p.2.k = k ∧ p.2.fr = fr ∧ p.2.tp = t ∧ p.2.wh = w
structure Inv (n g f half : Nat) (S : Ns) : Prop where
  loc : ∀ i t w, Good g i → Loc n f half i (S.tk i t w)
  es : ∀ i j t w x, Good g i → Good g j → (S.tk i t w).e j = some x → (S.tk j t w).e j = some x
  qs : ∀ i j t w x, Good g i → Good g j → (S.tk i t w).q j = some x → (S.tk j t w).q j = some x
  ei : ∀ j t w x, Good g j → Good g w → (S.tk j t w).e j = some x → (w, t, x) ∈ S.sd
  qq : ∀ j t w x, Good g j → (S.tk j t w).q j = some x → ∃ k, Good g k ∧ half < cn n (S.tk k t w).e x
  tt : ∀ i t w, Good g i → ((S.tk i t w).t = true ↔ S.td i t w ≠ none)
  tq : ∀ i t w x, Good g i → S.td i t w = some x → 2 * f < cn n (S.tk i t w).q x
  lt : ∀ p ∈ S.ml, LtOK g n S p
  sg : ∀ s ∈ S.sd, Good g s.1 ∧ 1 ≤ s.2.1 ∧ s.2.1 ≤ 3
  su : ∀ s ∈ S.sd, ∀ s' ∈ S.sd, s.1 = s'.1 → s.2.1 = s'.2.1 → s.2.2 = s'.2.2
  w1 : ∀ s ∈ S.sd, ∀ i, Good g i → (S.tk i s.2.1 s.1).b = true ∨ Way S.ml i 1 s.1 s.2.1 s.1
  w2 : ∀ i j t w, Good g i → Good g j → (S.tk j t w).e j ≠ none → (S.tk i t w).e j ≠ none ∨ Way S.ml i 2 j t w
  w3 : ∀ i j t w, Good g i → Good g j → (S.tk j t w).q j ≠ none → (S.tk i t w).q j ≠ none ∨ Way S.ml i 3 j t w
theorem ready_agree {n g f half : Nat} (hp : Par n g f half) {S : Ns} (h : Inv n g f half S) {i j t w : Int} {x y : List Int} (hi : Good g i) (hj : Good g j) (hx : (S.tk i t w).q i = some x) (hy : (S.tk j t w).q j = some y) : x = y := by
  obtain ⟨a, ha, h1⟩ := h.qq i t w x hi hx
  obtain ⟨c, hc, h2⟩ := h.qq j t w y hj hy
  obtain ⟨k, hk, e1, e2⟩ := quo_meet hp h1 h2
  have e3 := h.es a k t w x ha hk (saidB_iff.1 e1)
  have e4 := h.es c k t w y hc hk (saidB_iff.1 e2)
  rw [e3] at e4
  exact Option.some.inj e4
theorem told_ready {n g f half : Nat} (hp : Par n g f half) {S : Ns} (h : Inv n g f half S) {i t w : Int} {x : List Int} (hi : Good g i) (hx : S.td i t w = some x) : ∃ j, Good g j ∧ (S.tk j t w).q j = some x := by
  have h1 := h.tq i t w x hi hx
  obtain ⟨j, hj, h2⟩ := good_of hp (p := saidB (S.tk i t w).q x) (show f < cn n (S.tk i t w).q x by omega)
  exact ⟨j, hj, h.qs i j t w x hi hj (saidB_iff.1 h2)⟩
theorem told_agree {n g f half : Nat} (hp : Par n g f half) {S : Ns} (h : Inv n g f half S) {i j t w : Int} {x y : List Int} (hi : Good g i) (hj : Good g j) (hx : S.td i t w = some x) (hy : S.td j t w = some y) : x = y := by
  obtain ⟨a, ha, h1⟩ := told_ready hp h hi hx
  obtain ⟨c, hc, h2⟩ := told_ready hp h hj hy
  exact ready_agree hp h ha hc h1 h2
theorem ready_said {n g f half : Nat} (hp : Par n g f half) {S : Ns} (h : Inv n g f half S) {j t w : Int} {x : List Int} (hj : Good g j) (hw : Good g w) (hx : (S.tk j t w).q j = some x) : (w, t, x) ∈ S.sd := by
  obtain ⟨a, ha, h1⟩ := h.qq j t w x hj hx
  obtain ⟨k, hk, h2⟩ := good_of hp (p := saidB (S.tk a t w).e x) (show f < cn n (S.tk a t w).e x by have := hp.h1; have := hp.f3; omega)
  exact h.ei k t w x hk hw (h.es a k t w x ha hk (saidB_iff.1 h2))
theorem told_said {n g f half : Nat} (hp : Par n g f half) {S : Ns} (h : Inv n g f half S) {i t w : Int} {x y : List Int} (hi : Good g i) (hx : S.td i t w = some x) (hs : (w, t, y) ∈ S.sd) : x = y := by
  obtain ⟨j, hj, h1⟩ := told_ready hp h hi hx
  have h2 := ready_said hp h hj (h.sg _ hs).1 h1
  exact h.su _ h2 _ hs rfl rfl
def OutOK (g : Nat) (i : Int) (m : MsT) (t0 t1 : Tk) (p : Int × MsT) : Prop :=
  (Good g p.1 ∧ p.1 ≠ i) ∧ ((t0.b = false ∧ t1.b = true ∧ p.2 = sayM i 2 m) ∨ (t0.r = false ∧ t1.r = true ∧ p.2 = sayM i 3 m))
structure Hear (n g f half : Nat) (i : Int) (m : MsT) (t1 : Tk) (ml0 out : List (Int × MsT)) (S S' : Ns) : Prop where
  hi : Good g i
  tp : 1 ≤ m.tp ∧ m.tp ≤ 3
  wh : 1 ≤ m.wh ∧ m.wh ≤ n
  s1 : m.k = 1 → m.fr = m.wh → Good g m.wh → (m.wh, m.tp, m.bd) ∈ S.sd
  s2 : m.k = 2 → Good g m.fr → (S.tk m.fr m.tp m.wh).e m.fr = some m.bd
  s3 : m.k = 3 → Good g m.fr → (S.tk m.fr m.tp m.wh).q m.fr = some m.bd
  hs : Hs n f half i m (S.tk i m.tp m.wh) t1
  sub : ∀ p ∈ ml0, p ∈ S.ml
  sup : ∀ p ∈ S.ml, p ∈ ml0 ∨ p = (i, m)
  oo : ∀ p, p ∈ out ↔ OutOK g i m (S.tk i m.tp m.wh) t1 p
  tk : ∀ a t w, S'.tk a t w = if a = i ∧ t = m.tp ∧ w = m.wh then t1 else S.tk a t w
  ml : S'.ml = ml0 ++ out
  sd : S'.sd = S.sd
  td : ∀ a t w, S'.td a t w = if (a = i ∧ t = m.tp ∧ w = m.wh) ∧ (S.tk i m.tp m.wh).t = false ∧ t1.t = true then some m.bd else S.td a t w
section
variable {n g f half : Nat} {i : Int} {m : MsT} {t1 : Tk} {ml0 out : List (Int × MsT)} {S S' : Ns}
theorem Hear.ax (h : Hear n g f half i m t1 ml0 out S S') : S'.tk i m.tp m.wh = t1 := by rw [h.tk, if_pos ⟨rfl, rfl, rfl⟩]
theorem Hear.off (h : Hear n g f half i m t1 ml0 out S S') {a t w : Int} (hc : ¬ (a = i ∧ t = m.tp ∧ w = m.wh)) : S'.tk a t w = S.tk a t w := by rw [h.tk, if_neg hc]
theorem Hear.em (h : Hear n g f half i m t1 ml0 out S S') {a t w j : Int} {x : List Int} (hx : (S.tk a t w).e j = some x) : (S'.tk a t w).e j = some x := by
  by_cases hc : a = i ∧ t = m.tp ∧ w = m.wh
  · obtain ⟨rfl, rfl, rfl⟩ := hc
    rw [h.ax]
    exact h.hs.em j x hx
  · rw [h.off hc]; exact hx
theorem Hear.qm (h : Hear n g f half i m t1 ml0 out S S') {a t w j : Int} {x : List Int} (hx : (S.tk a t w).q j = some x) : (S'.tk a t w).q j = some x := by
  by_cases hc : a = i ∧ t = m.tp ∧ w = m.wh
  · obtain ⟨rfl, rfl, rfl⟩ := hc
    rw [h.ax]
    exact h.hs.qm j x hx
  · rw [h.off hc]; exact hx
theorem Hear.en (h : Hear n g f half i m t1 ml0 out S S') {a t w j : Int} (hx : (S.tk a t w).e j ≠ none) : (S'.tk a t w).e j ≠ none := by
  cases he : (S.tk a t w).e j with
  | none => exact (hx he).elim
  | some x => rw [h.em he]; simp
theorem Hear.qn (h : Hear n g f half i m t1 ml0 out S S') {a t w j : Int} (hx : (S.tk a t w).q j ≠ none) : (S'.tk a t w).q j ≠ none := by
  cases he : (S.tk a t w).q j with
  | none => exact (hx he).elim
  | some x => rw [h.qm he]; simp
theorem Hear.bm (h : Hear n g f half i m t1 ml0 out S S') {a t w : Int} (hx : (S.tk a t w).b = true) : (S'.tk a t w).b = true := by
  by_cases hc : a = i ∧ t = m.tp ∧ w = m.wh
  · obtain ⟨rfl, rfl, rfl⟩ := hc
    rw [h.ax]
    exact h.hs.bm hx
  · rw [h.off hc]; exact hx
theorem Hear.rm (h : Hear n g f half i m t1 ml0 out S S') {a t w : Int} (hx : (S.tk a t w).r = true) : (S'.tk a t w).r = true := by
  by_cases hc : a = i ∧ t = m.tp ∧ w = m.wh
  · obtain ⟨rfl, rfl, rfl⟩ := hc
    rw [h.ax]
    exact h.hs.rm hx
  · rw [h.off hc]; exact hx
theorem Hear.cne (h : Hear n g f half i m t1 ml0 out S S') (a t w : Int) (x : List Int) : cn n (S.tk a t w).e x ≤ cn n (S'.tk a t w).e x := countP_le fun _ _ hj => saidB_iff.2 (h.em (saidB_iff.1 hj))
theorem Hear.cnq (h : Hear n g f half i m t1 ml0 out S S') (a t w : Int) (x : List Int) : cn n (S.tk a t w).q x ≤ cn n (S'.tk a t w).q x := countP_le fun _ _ hj => saidB_iff.2 (h.qm (saidB_iff.1 hj))
theorem Hear.way (h : Hear n g f half i m t1 ml0 out S S') {a k fr t w : Int} (hw : Way S.ml a k fr t w) : Way S'.ml a k fr t w ∨ (a = i ∧ m.k = k ∧ m.fr = fr ∧ m.tp = t ∧ m.wh = w) := by
  obtain ⟨p, hp, h1, h2, h3, h4, h5⟩ := hw
  rcases h.sup p hp with h6 | rfl
  · refine Or.inl ⟨p, ?_, h1, h2, h3, h4, h5⟩
    rw [h.ml]
    exact List.mem_append_left _ h6
  · exact Or.inr ⟨h1.symm, h2, h3, h4, h5⟩
theorem hear_inv (hp : Par n g f half) (hI : Inv n g f half S) (h : Hear n g f half i m t1 ml0 out S S') : Inv n g f half S' where
  loc := fun a t w ha => by
    by_cases hc : a = i ∧ t = m.tp ∧ w = m.wh
    · obtain ⟨rfl, rfl, rfl⟩ := hc
      rw [h.ax]
      exact h.hs.loc
    · rw [h.off hc]; exact hI.loc a t w ha
  es := fun a j t w x ha hj hx => by
    by_cases hc : a = i ∧ t = m.tp ∧ w = m.wh
    · obtain ⟨rfl, rfl, rfl⟩ := hc
      rw [h.ax] at hx
      rcases h.hs.en j x hx with h1 | ⟨rfl, ⟨rfl, _⟩ | ⟨rfl, hk⟩⟩
      · exact h.em (hI.es _ j _ _ x ha hj h1)
      · rw [h.ax]; exact hx
      · exact h.em (h.s2 hk hj)
    · rw [h.off hc] at hx
      exact h.em (hI.es _ j _ _ x ha hj hx)
  qs := fun a j t w x ha hj hx => by
    by_cases hc : a = i ∧ t = m.tp ∧ w = m.wh
    · obtain ⟨rfl, rfl, rfl⟩ := hc
      rw [h.ax] at hx
      rcases h.hs.qn j x hx with h1 | ⟨rfl, ⟨rfl, _⟩ | ⟨rfl, hk⟩⟩
      · exact h.qm (hI.qs _ j _ _ x ha hj h1)
      · rw [h.ax]; exact hx
      · exact h.qm (h.s3 hk hj)
    · rw [h.off hc] at hx
      exact h.qm (hI.qs _ j _ _ x ha hj hx)
  ei := fun j t w x hj hw hx => by
    rw [h.sd]
    by_cases hc : j = i ∧ t = m.tp ∧ w = m.wh
    · obtain ⟨rfl, rfl, rfl⟩ := hc
      rw [h.ax] at hx
      rcases h.hs.en _ x hx with h1 | ⟨rfl, ⟨_, hk, hf⟩ | ⟨hf, hk⟩⟩
      · exact hI.ei _ _ _ x hj hw h1
      · exact h.s1 hk hf hw
      · have h2 := h.s2 hk (hf ▸ hj)
        exact hI.ei _ _ _ _ (hf ▸ hj) hw h2
    · rw [h.off hc] at hx
      exact hI.ei _ _ _ x hj hw hx
  qq := fun j t w x hj hx => by
    have up : ∀ (t w : Int) (x : List Int), (∃ k, Good g k ∧ half < cn n (S.tk k t w).e x) → ∃ k, Good g k ∧ half < cn n (S'.tk k t w).e x := fun t w x ⟨k, h1, h2⟩ => ⟨k, h1, Nat.lt_of_lt_of_le h2 (h.cne k t w x)⟩
    by_cases hc : j = i ∧ t = m.tp ∧ w = m.wh
    · obtain ⟨rfl, rfl, rfl⟩ := hc
      rw [h.ax] at hx
      rcases h.hs.qn _ x hx with h1 | ⟨rfl, ⟨_, hr0, hr1⟩ | ⟨hf, hk⟩⟩
      · exact up _ _ _ (hI.qq _ _ _ x hj h1)
      · rcases h.hs.rdy hr0 hr1 with h2 | ⟨q', h2, h3⟩
        · exact ⟨_, hj, by rw [h.ax]; exact h2⟩
        · obtain ⟨b, hb, h4⟩ := good_of hp (p := saidB q' m.bd) h2
          obtain ⟨h5, h6⟩ := h3 b _ (saidB_iff.1 h4)
          rcases h.hs.qn b _ h6 with h7 | ⟨_, ⟨h7, _⟩ | ⟨hf, hk⟩⟩
          · exact up _ _ _ (hI.qq _ _ _ _ hb (hI.qs _ b _ _ _ hj hb h7))
          · exact (h5 h7).elim
          · exact up _ _ _ (hI.qq _ _ _ _ hb (hf ▸ h.s3 hk (hf ▸ hb)))
      · exact up _ _ _ (hI.qq _ _ _ _ (hf ▸ hj) (h.s3 hk (hf ▸ hj)))
    · rw [h.off hc] at hx
      exact up _ _ _ (hI.qq _ _ _ x hj hx)
  tt := fun a t w ha => by
    rw [h.td]
    by_cases hc : a = i ∧ t = m.tp ∧ w = m.wh
    · obtain ⟨rfl, rfl, rfl⟩ := hc
      rw [h.ax]
      have h1 := hI.tt _ m.tp m.wh ha
      by_cases hn : (S.tk a m.tp m.wh).t = false ∧ t1.t = true
      · rw [if_pos ⟨⟨rfl, rfl, rfl⟩, hn⟩]
        exact ⟨fun _ => by simp, fun _ => hn.2⟩
      · rw [if_neg fun h => hn h.2, ← h1]
        refine ⟨fun h2 => ?_, h.hs.tm⟩
        cases h3 : (S.tk a m.tp m.wh).t
        · exact (hn ⟨h3, h2⟩).elim
        · rfl
    · rw [h.off hc, if_neg fun h => hc h.1]
      exact hI.tt a t w ha
  tq := fun a t w x ha hx => by
    rw [h.td] at hx
    split at hx
    · rename_i hc
      obtain ⟨⟨rfl, rfl, rfl⟩, h1, h2⟩ := hc
      cases hx
      rw [h.ax]
      exact h.hs.tld h1 h2
    · exact Nat.lt_of_lt_of_le (hI.tq a t w x ha hx) (h.cnq a t w x)
  lt := fun p hp' => by
    rw [h.ml, List.mem_append] at hp'
    rcases hp' with hp' | hp'
    · have := hI.lt p (h.sub p hp')
      exact ⟨this.to, this.fr, this.ne, this.k, fun hk => by rw [h.sd]; exact this.k1 hk, fun hk => h.em (this.k2 hk), fun hk => h.qm (this.k3 hk), this.tp, this.wh⟩
    · obtain ⟨⟨h1, h2⟩, ⟨h3, h4, h5⟩ | ⟨h3, h4, h5⟩⟩ := (h.oo p).1 hp'
      · obtain ⟨j, m'⟩ := p
        simp only at h5
        subst h5
        exact ⟨h1, h.hi, Or.inl fun e => h2 e.symm, Or.inr (Or.inl rfl), fun hk => (by cases hk), fun _ => (by show (S'.tk i m.tp m.wh).e i = some m.bd; rw [h.ax]; exact h.hs.bn h3 h4), fun hk => (by cases hk), h.tp, h.wh⟩
      · obtain ⟨j, m'⟩ := p
        simp only at h5
        subst h5
        exact ⟨h1, h.hi, Or.inl fun e => h2 e.symm, Or.inr (Or.inr rfl), fun hk => (by cases hk), fun hk => (by cases hk), fun _ => (by show (S'.tk i m.tp m.wh).q i = some m.bd; rw [h.ax]; exact h.hs.rn h3 h4), h.tp, h.wh⟩
  sg := by rw [h.sd]; exact hI.sg
  su := by rw [h.sd]; exact hI.su
  w1 := fun s hs a ha => by
    rw [h.sd] at hs
    rcases hI.w1 s hs a ha with h1 | h1
    · exact Or.inl (h.bm h1)
    · rcases h.way h1 with h1 | ⟨rfl, h2, h3, h4, h5⟩
      · exact Or.inr h1
      · refine Or.inl ?_
        rw [← h4, ← h5, h.ax]
        exact h.hs.o1 h2 (h3.trans h5.symm)
  w2 := fun a j t w ha hj hx => by
    by_cases h0 : (S.tk j t w).e j = none
    · by_cases hc : j = i ∧ t = m.tp ∧ w = m.wh
      · obtain ⟨rfl, rfl, rfl⟩ := hc
        have hx' := hx
        rw [h.ax] at hx'
        by_cases haj : a = j
        · subst haj; exact Or.inl hx
        · cases he : t1.e j with
          | none => exact (hx' he).elim
          | some x =>
            rcases h.hs.en _ x he with h1 | ⟨rfl, ⟨_, hk, hf⟩ | ⟨hf, hk⟩⟩
            · rw [h0] at h1; cases h1
            · refine Or.inr ⟨(a, sayM j 2 m), ?_, rfl, rfl, rfl, rfl, rfl⟩
              rw [h.ml]
              refine List.mem_append_right _ ((h.oo _).2 ⟨⟨ha, haj⟩, Or.inl ⟨?_, h.hs.o1 hk hf, rfl⟩⟩)
              cases hb : (S.tk j m.tp m.wh).b
              · rfl
              · exact (((hI.loc j _ _ hj).bo).1 hb h0).elim
            · have h2 := h.s2 hk (hf ▸ hj)
              rw [← hf, h0] at h2
              cases h2
      · rw [h.off hc] at hx
        exact (hx h0).elim
    · rcases hI.w2 a j t w ha hj h0 with h1 | h1
      · exact Or.inl (h.en h1)
      · rcases h.way h1 with h1 | ⟨rfl, h2, h3, h4, h5⟩
        · exact Or.inr h1
        · refine Or.inl ?_
          rw [← h3, ← h4, ← h5, h.ax]
          exact h.hs.o2 h2
  w3 := fun a j t w ha hj hx => by
    by_cases h0 : (S.tk j t w).q j = none
    · by_cases hc : j = i ∧ t = m.tp ∧ w = m.wh
      · obtain ⟨rfl, rfl, rfl⟩ := hc
        have hx' := hx
        rw [h.ax] at hx'
        by_cases haj : a = j
        · subst haj; exact Or.inl hx
        · cases he : t1.q j with
          | none => exact (hx' he).elim
          | some x =>
            rcases h.hs.qn _ x he with h1 | ⟨rfl, ⟨_, hr0, hr1⟩ | ⟨hf, hk⟩⟩
            · rw [h0] at h1; cases h1
            · refine Or.inr ⟨(a, sayM j 3 m), ?_, rfl, rfl, rfl, rfl, rfl⟩
              rw [h.ml]
              exact List.mem_append_right _ ((h.oo _).2 ⟨⟨ha, haj⟩, Or.inr ⟨hr0, hr1, rfl⟩⟩)
            · have h2 := h.s3 hk (hf ▸ hj)
              rw [← hf, h0] at h2
              cases h2
      · rw [h.off hc] at hx
        exact (hx h0).elim
    · rcases hI.w3 a j t w ha hj h0 with h1 | h1
      · exact Or.inl (h.qn h1)
      · rcases h.way h1 with h1 | ⟨rfl, h2, h3, h4, h5⟩
        · exact Or.inr h1
        · refine Or.inl ?_
          rw [← h3, ← h4, ← h5, h.ax]
          exact h.hs.o3 h2
def ksN (n g : Nat) : List (Int × Int × Int) := (mbN g).flatMap fun i => [1, 2, 3].flatMap fun t => (mbN n).map fun w => (i, t, w)
theorem ksN_mem {n g : Nat} {a t w : Int} (ha : Good g a) (ht : 1 ≤ t ∧ t ≤ 3) (hw : 1 ≤ w ∧ w ≤ n) : (a, t, w) ∈ ksN n g := by
  unfold ksN
  refine List.mem_flatMap.2 ⟨a, mbN_mem.2 ha, List.mem_flatMap.2 ⟨t, ?_, List.mem_map.2 ⟨w, mbN_mem.2 hw, rfl⟩⟩⟩
  have : t = 1 ∨ t = 2 ∨ t = 3 := by omega
  rcases this with rfl | rfl | rfl <;> decide
theorem ksN_len (n g : Nat) : (ksN n g).length = g * (3 * n) := by
  unfold ksN
  have h : ∀ l : List Int, (l.flatMap fun i => [1, 2, 3].flatMap fun t => (mbN n).map fun w => (i, (t : Int), w)).length = l.length * (3 * n) := by
    intro l
    induction l with
    | nil => simp
    | cons a l ih =>
      rw [List.flatMap_cons, List.length_append, ih, List.length_cons, Nat.add_mul]
      simp only [List.flatMap_cons, List.flatMap_nil, List.length_append, List.length_map, mbN_len, List.length_nil]
      omega
  rw [h, mbN_len]
def unB (n g : Nat) (S : Ns) : Nat := (ksN n g).countP fun k => !(S.tk k.1 k.2.1 k.2.2).b
def unR (n g : Nat) (S : Ns) : Nat := (ksN n g).countP fun k => !(S.tk k.1 k.2.1 k.2.2).r
def un (n g : Nat) (S : Ns) : Nat := unB n g S + unR n g S
theorem un_le (n g : Nat) (S : Ns) : un n g S ≤ 2 * (g * (3 * n)) := by
  have h1 : unB n g S ≤ _ := List.countP_le_length
  have h2 : unR n g S ≤ _ := List.countP_le_length
  rw [ksN_len] at h1 h2
  unfold un
  omega
theorem countP_lt {α : Type} {p q : α → Bool} : ∀ {l : List α}, (∀ a ∈ l, p a = true → q a = true) → ∀ {a : α}, a ∈ l → p a = false → q a = true → l.countP p + 1 ≤ l.countP q
  | b :: l, h, a, ha, h1, h2 => by
    rw [List.countP_cons, List.countP_cons]
    rcases List.mem_cons.1 ha with rfl | ha
    · rw [h1, h2]
      have := countP_le fun a ha => h a (List.mem_cons_of_mem _ ha)
      simp
      omega
    · have := countP_lt (fun a ha => h a (List.mem_cons_of_mem _ ha)) ha h1 h2
      have h3 := h b (List.mem_cons_self ..)
      cases hb : p b
      · simp; omega
      · rw [h3 hb]; simp; omega
def outN (t0 t1 : Tk) : Nat := (if t0.b = false ∧ t1.b = true then 1 else 0) + (if t0.r = false ∧ t1.r = true then 1 else 0)
theorem hear_un (h : Hear n g f half i m t1 ml0 out S S') : un n g S' + outN (S.tk i m.tp m.wh) t1 ≤ un n g S := by
  have hm := ksN_mem h.hi h.tp h.wh
  have hb : unB n g S' + (if (S.tk i m.tp m.wh).b = false ∧ t1.b = true then 1 else 0) ≤ unB n g S := by
    have hle : ∀ k ∈ ksN n g, (!(S'.tk k.1 k.2.1 k.2.2).b) = true → (!(S.tk k.1 k.2.1 k.2.2).b) = true := fun k _ hk => by
      cases hb : (S.tk k.1 k.2.1 k.2.2).b
      · rfl
      · rw [h.bm hb] at hk; cases hk
    split
    · rename_i hc
      exact countP_lt hle hm (by show (!(S'.tk i m.tp m.wh).b) = false; rw [h.ax, hc.2]; rfl) (by show (!(S.tk i m.tp m.wh).b) = true; rw [hc.1]; rfl)
    · exact countP_le hle
  have hr : unR n g S' + (if (S.tk i m.tp m.wh).r = false ∧ t1.r = true then 1 else 0) ≤ unR n g S := by
    have hle : ∀ k ∈ ksN n g, (!(S'.tk k.1 k.2.1 k.2.2).r) = true → (!(S.tk k.1 k.2.1 k.2.2).r) = true := fun k _ hk => by
      cases hb : (S.tk k.1 k.2.1 k.2.2).r
      · rfl
      · rw [h.rm hb] at hk; cases hk
    split
    · rename_i hc
      exact countP_lt hle hm (by show (!(S'.tk i m.tp m.wh).r) = false; rw [h.ax, hc.2]; rfl) (by show (!(S.tk i m.tp m.wh).r) = true; rw [hc.1]; rfl)
    · exact countP_le hle
  unfold un outN
  omega
end
end Go.Num
namespace Go.Num
open Go.Abs
def nt (ee : List (Rec × Ob)) : Nt := fun j => if hasE ee [.i j] = true then some (recW (obE ee [.i j]).r 0) else none
def noteA (e : Nt) (j : Int) (x : List Int) : Nt := fun a => if a = j then some x else e a
theorem nt_none {ee : List (Rec × Ob)} {j : Int} : nt ee j = none ↔ hasE ee [.i j] = false := by
  unfold nt
  cases hasE ee [.i j] <;> simp
theorem nt_note {ee : List (Rec × Ob)} {j : Int} {x : List Int} (h : nt ee j = none) : nt (noteM ee j x) = noteA (nt ee) j x := by
  rw [nt_none] at h
  rw [noteM_new h]
  funext a
  unfold nt noteA
  rw [hasE_set, obE_set]
  by_cases ha : a = j
  · subst ha
    rw [if_pos (by simp), if_pos rfl, if_pos rfl]
    rfl
  · have hk : ¬ ([Fd.i a] : Rec) = [.i j] := fun e => ha (by simpa using e)
    rw [if_neg ha, if_neg hk, decide_eq_false hk, Bool.false_or]
theorem countP_one {p q : Int → Bool} {a : Int} (h1 : p a = false) (h2 : q a = true) (h3 : ∀ b, b ≠ a → q b = p b) : ∀ n : Nat, (mbN n).countP q = (mbN n).countP p + (if 1 ≤ a ∧ a ≤ n then 1 else 0)
  | 0 => by
    rw [if_neg (by omega)]
    rfl
  | n + 1 => by
    have ih := countP_one h1 h2 h3 n
    rw [mbN_snoc, List.countP_append, List.countP_append, ih]
    by_cases ha : a = (n : Int) + 1
    · rw [if_neg (by omega), if_pos (by omega)]
      simp [← ha, h1, h2]
    · have e : [(n : Int) + 1].countP q = [(n : Int) + 1].countP p := by
        have := h3 ((n : Int) + 1) (fun e => ha e.symm)
        simp [this]
      rw [e]
      by_cases hb : 1 ≤ a ∧ a ≤ n
      · rw [if_pos hb, if_pos (by omega)]; omega
      · rw [if_neg hb, if_neg (by omega)]; omega
structure WfN (n : Nat) (ee : List (Rec × Ob)) : Prop where
  c : ∀ x, cntF ee x = ((cn n (nt ee) x : Nat) : Int)
  l : ee.length = (mbN n).countP fun j => (nt ee j).isSome
  b : ∀ e ∈ ee, InB (recW e.2.r 0)
theorem wfN_nil (n : Nat) : WfN n [] := by
  have h : ∀ (p : Int → Bool), (∀ j, p j = false) → (mbN n).countP p = 0 := fun p hp => List.countP_eq_zero.2 fun j _ => by rw [hp]; decide
  exact ⟨fun x => by rw [cntF_nil]; unfold cn; rw [h]; rfl; exact fun _ => rfl, (h _ fun _ => rfl).symm, fun e he => by cases he⟩
theorem WfN.len {n : Nat} {ee : List (Rec × Ob)} (h : WfN n ee) : ee.length ≤ n := by
  rw [h.l]
  exact Nat.le_trans List.countP_le_length (by rw [mbN_len]; exact Nat.le_refl _)
theorem WfN.note {n : Nat} {ee : List (Rec × Ob)} {j : Int} {x : List Int} (h : WfN n ee) (hj : 1 ≤ j ∧ j ≤ n) (hx : InB x) (h0 : nt ee j = none) : WfN n (noteM ee j x) := by
  have hk := nt_none.1 h0
  have e1 : noteM ee j x = ee ++ [([.i j], noteOb x)] := by rw [noteM_new hk, setE_keysN hk]
  refine ⟨fun y => ?_, ?_, fun e he => ?_⟩
  · have hc := h.c y
    rw [nt_note h0]
    by_cases hxy : x = y
    · have := countP_one (p := saidB (nt ee) y) (q := saidB (noteA (nt ee) j x) y) (a := j) (by unfold saidB; rw [h0]; simp) (by unfold saidB noteA; simp [hxy]) (fun b hb => by unfold saidB noteA; rw [if_neg hb]) n
      rw [if_pos hj] at this
      rw [e1]
      unfold cn at hc ⊢
      rw [this]
      unfold cntF at hc ⊢
      rw [List.map_append, List.sum_append, hc]
      show _ + ((if recW (noteOb x).r 0 = y then (1 : Int) else 0) + 0) = _
      rw [if_pos (show recW (noteOb x).r 0 = y from hxy)]
      omega
    · have : (mbN n).countP (saidB (noteA (nt ee) j x) y) = (mbN n).countP (saidB (nt ee) y) := by
        congr 1
        funext b
        unfold saidB noteA
        by_cases hb : b = j
        · subst hb
          rw [if_pos rfl, h0]
          simp [hxy]
        · rw [if_neg hb]
      rw [e1]
      unfold cn at hc ⊢
      rw [this]
      unfold cntF at hc ⊢
      rw [List.map_append, List.sum_append, hc]
      show _ + ((if recW (noteOb x).r 0 = y then (1 : Int) else 0) + 0) = _
      rw [if_neg (show ¬ recW (noteOb x).r 0 = y from hxy)]
      omega
  · have hl := h.l
    rw [nt_note h0]
    have := countP_one (p := fun a => (nt ee a).isSome) (q := fun a => (noteA (nt ee) j x a).isSome) (a := j) (by show (nt ee j).isSome = false; rw [h0]; rfl) (by unfold noteA; simp) (fun b hb => by unfold noteA; rw [if_neg hb]) n
    rw [this, if_pos hj, ← hl, e1, List.length_append]
    rfl
  · rw [e1] at he
    rcases List.mem_append.1 he with he | he
    · exact h.b e he
    · rw [List.mem_singleton.1 he]
      exact hx
def absT (T : TkT) : Tk := ⟨T.b, T.r, T.t, nt T.ee, nt T.rr⟩
def tellT (n f : Nat) (x : List Int) (t : Tk) : Tk := { t with t := t.t || decide (2 * f < cn n t.q x) }
def rdyC (n f half : Nat) (x : List Int) (t : Tk) : Prop := t.r = false ∧ (half < cn n t.e x ∨ f < cn n t.q x)
instance (n f half : Nat) (x : List Int) (t : Tk) : Decidable (rdyC n f half x t) := by unfold rdyC; infer_instance
def rdyT (n f half : Nat) (me : Int) (x : List Int) (t : Tk) : Tk := if rdyC n f half x t then { t with r := true, q := noteA t.q me x } else t
def preT (me : Int) (m : MsT) (t : Tk) : Tk :=
  if m.k = 1 then (if m.fr = m.wh ∧ t.b = false then { t with b := true, e := noteA t.e me m.bd } else t)
  else if m.k = 2 then (if t.e m.fr = none then { t with e := noteA t.e m.fr m.bd } else t)
  else (if t.q m.fr = none then { t with q := noteA t.q m.fr m.bd } else t)
def hearT (n f half : Nat) (me : Int) (m : MsT) (t : Tk) : Tk := tellT n f m.bd (rdyT n f half me m.bd (preT me m t))
section
variable {n f half : Nat} {me : Int} {m : MsT}
structure Nums (n f half : Nat) : Prop where
  f : fF (mbN n) = (f : Int)
  h : halfF (mbN n) = (half : Int)
theorem con2_abs (hn : Nums n f half) {s : S7} (hq : WfN n s.t.rr) : absT (con2 (mbN n) m s).1.t = tellT n f m.bd (absT s.t) ∧ (con2 (mbN n) m s).1.ms = s.ms ∧ (con2 (mbN n) m s).1.ts = s.ts ++ (if s.t.t = false ∧ (con2 (mbN n) m s).1.t.t = true then [m.tr] else []) := by
  have hc := hq.c m.bd
  by_cases h : s.t.t = false ∧ 2 * fF (mbN n) < cntF s.t.rr m.bd
  · rw [con2_yes h.1 h.2]
    refine ⟨?_, rfl, ?_⟩
    · unfold tellT absT
      have : decide (2 * f < cn n (nt s.t.rr) m.bd) = true := decide_eq_true (by have := h.2; rw [hc, hn.f] at this; omega)
      simp [this]
    · rw [if_pos ⟨h.1, rfl⟩]
  · rw [con2_no h]
    refine ⟨?_, rfl, ?_⟩
    · unfold tellT absT
      cases ht : s.t.t
      · have : decide (2 * f < cn n (nt s.t.rr) m.bd) = false := decide_eq_false fun h' => h ⟨ht, by rw [hc, hn.f]; omega⟩
        simp [this]
      · simp
    · rw [if_neg fun h => by rw [h.1] at h; cases h.2]
      simp
theorem con2_idem {mb : List Int} (m : MsT) (s : S7) : (con2 mb m (con2 mb m s).1).1 = (con2 mb m s).1 := by
  by_cases h : s.t.t = false ∧ 2 * fF mb < cntF s.t.rr m.bd
  · rw [con2_yes h.1 h.2]
    rw [con2_no fun h => by cases h.1]
  · rw [con2_no h, con2_no h]
theorem con1_msg (me : Int) (mb : List Int) (m : MsT) (k : Int) (s : S7) : con1M me mb (sayM me k m) s = con1M me mb m s := rfl
theorem con1_idem {mb : List Int} (me : Int) (m : MsT) (s : S7) : (con1M me mb m (con1M me mb m s).1).1 = (con1M me mb m s).1 := by
  by_cases h : s.t.r = false ∧ (halfF mb < cntF s.t.ee m.bd ∨ fF mb < cntF s.t.rr m.bd)
  · have hr : (con1M me mb m s).1.t.r = true := by
      rw [con1_say h]
      rw [(con2_keep mb m _).2.2.1, (say0_keep me mb m _).2.2.1]
    rw [con1_no (s := (con1M me mb m s).1) fun h' => by rw [hr] at h'; cases h'.1]
    rw [con1_say h]
    exact con2_idem m _
  · have e : (con1M me mb m s).1 = (con2 mb m s).1 := by rw [con1_no h]
    obtain ⟨_, _, k3, k4, k5, _⟩ := con2_keep mb m s
    rw [e, con1_no fun h' => h (by rw [k3, k4, k5] at h'; exact h')]
    exact con2_idem m _
structure ConOK (n f half : Nat) (me : Int) (m : MsT) (s s' : S7) : Prop where
  a : absT s'.t = tellT n f m.bd (rdyT n f half me m.bd (absT s.t))
  k : s'.t.key = s.t.key
  e : WfN n s'.t.ee
  q : WfN n s'.t.rr
  ms : s'.ms = s.ms ++ (if s.t.r = false ∧ s'.t.r = true then [(sayM me 3 m).r] else [])
  ts : s'.ts = s.ts ++ (if s.t.t = false ∧ s'.t.t = true then [m.tr] else [])
theorem con1_abs (hn : Nums n f half) (hme : 1 ≤ me ∧ me ≤ n) (hb : InB m.bd) {s : S7} (he : WfN n s.t.ee) (hq : WfN n s.t.rr) (h0 : s.t.r = false → nt s.t.rr me = none) : ConOK n f half me m s (con1M me (mbN n) m s).1 := by
  have hce := he.c m.bd
  have hcq := hq.c m.bd
  by_cases h : s.t.r = false ∧ (halfF (mbN n) < cntF s.t.ee m.bd ∨ fF (mbN n) < cntF s.t.rr m.bd)
  · have hr := h.1
    have hno := nt_none.1 (h0 hr)
    have e1 : (say0M me (mbN n) m ⟨{ s.t with r := true }, s.ms, s.ts⟩).1 = (con2 (mbN n) m ⟨{ s.t with r := true, rr := noteM s.t.rr me m.bd }, s.ms ++ [(sayM me 3 m).r], s.ts⟩).1 := by
      show (hear0M (mbN n) (sayM me 3 m) ⟨{ s.t with r := true }, s.ms ++ [(sayM me 3 m).r], s.ts⟩).1 = _
      rw [hear0_new hno]
      rfl
    have hw := hq.note hme hb (h0 hr)
    obtain ⟨c1, c2, c3⟩ := con2_abs hn (m := m) (s := ⟨{ s.t with r := true, rr := noteM s.t.rr me m.bd }, s.ms ++ [(sayM me 3 m).r], s.ts⟩) hw
    obtain ⟨k1, _, k3, k4, k5, _⟩ := con2_keep (mbN n) m ⟨{ s.t with r := true, rr := noteM s.t.rr me m.bd }, s.ms ++ [(sayM me 3 m).r], s.ts⟩
    rw [con1_say h, e1, con2_idem]
    refine ⟨?_, k1, by rw [k4]; exact he, by rw [k5]; exact hw, ?_, c3⟩
    · rw [c1]
      congr 1
      unfold rdyT
      rw [if_pos (show rdyC n f half m.bd (absT s.t) from ⟨hr, by
        rcases h.2 with h2 | h2
        · left; rw [hce, hn.h] at h2; exact Int.ofNat_lt.1 h2
        · right; rw [hcq, hn.f] at h2; exact Int.ofNat_lt.1 h2⟩)]
      unfold absT
      simp only [nt_note (h0 hr)]
    · rw [c2, if_pos ⟨hr, by rw [k3]⟩]
  · obtain ⟨c1, c2, c3⟩ := con2_abs hn (m := m) hq
    obtain ⟨k1, _, k3, k4, k5, _⟩ := con2_keep (mbN n) m s
    rw [con1_no h]
    refine ⟨?_, k1, by rw [k4]; exact he, by rw [k5]; exact hq, ?_, c3⟩
    · rw [c1]
      congr 1
      unfold rdyT
      rw [if_neg (show ¬ rdyC n f half m.bd (absT s.t) from fun hc => h ⟨hc.1, by
        rcases hc.2 with h2 | h2
        · left; rw [hce, hn.h]; exact Int.ofNat_lt.2 h2
        · right; rw [hcq, hn.f]; exact Int.ofNat_lt.2 h2⟩)]
    · rw [c2, if_neg fun h => by rw [k3, h.1] at h; cases h.2]
      simp
structure HrOK (n f half : Nat) (me : Int) (m : MsT) (s s' : S7) : Prop where
  a : absT s'.t = hearT n f half me m (absT s.t)
  k : s'.t.key = s.t.key
  e : WfN n s'.t.ee
  q : WfN n s'.t.rr
  ms : s'.ms = s.ms ++ (if s.t.b = false ∧ s'.t.b = true then [(sayM me 2 m).r] else []) ++ (if s.t.r = false ∧ s'.t.r = true then [(sayM me 3 m).r] else [])
  ts : s'.ts = s.ts ++ (if s.t.t = false ∧ s'.t.t = true then [m.tr] else [])
theorem hearT_b (t : Tk) : (hearT n f half me m t).b = (preT me m t).b := by
  unfold hearT tellT rdyT
  split <;> rfl
theorem still {t : Tk} (h : Loc n f half me t) (x : List Int) : tellT n f x (rdyT n f half me x t) = t := by
  have e1 : rdyT n f half me x t = t := if_neg fun hc => by
    have := h.cr x hc.2
    rw [hc.1] at this
    cases this
  rw [e1]
  unfold tellT
  cases ht : t.t
  · have : decide (2 * f < cn n t.q x) = false := decide_eq_false fun hc => by
      have := h.ct x hc
      rw [ht] at this
      cases this
    rw [this]
    cases t
    simp only at ht
    subst ht
    rfl
  · cases t
    simp only at ht
    subst ht
    rfl
theorem hear2_abs (hn : Nums n f half) (hme : 1 ≤ me ∧ me ≤ n) (hc : cntP (mbN n) m) (hb : InB m.bd) {s : S7} (he : WfN n s.t.ee) (hq : WfN n s.t.rr) (hl : Loc n f half me (absT s.t)) (hf : m.fr ≠ me ∨ m.k = 1) : HrOK n f half me m s (hear2M me (mbN n) m s).1 := by
  have hfr : 1 ≤ m.fr ∧ m.fr ≤ n := mbN_mem.1 hc.2.2.2.2.1
  have h0 : s.t.r = false → nt s.t.rr me = none := fun hr => by
    cases hx : nt s.t.rr me with
    | none => rfl
    | some x =>
      have : (absT s.t).q me ≠ none := by show nt s.t.rr me ≠ none; rw [hx]; simp
      have := hl.ro.2 this
      have h2 : s.t.r = true := this
      rw [hr] at h2
      cases h2
  have hst := still hl m.bd
  unfold hear2M
  by_cases h1 : m.k = 1
  · rw [if_pos h1]
    by_cases h2 : m.fr = m.wh ∧ s.t.b = false
    · rw [if_pos h2]
      have hno : nt s.t.ee me = none := by
        cases hx : nt s.t.ee me with
        | none => rfl
        | some x =>
          have : (absT s.t).e me ≠ none := by show nt s.t.ee me ≠ none; rw [hx]; simp
          have h3 : s.t.b = true := hl.bo.2 this
          rw [h2.2] at h3
          cases h3
      have hno' := nt_none.1 hno
      have e1 : (say1M me (mbN n) m ⟨{ s.t with b := true }, s.ms, s.ts⟩).1 = (con1M me (mbN n) m ⟨{ s.t with b := true, ee := noteM s.t.ee me m.bd }, s.ms ++ [(sayM me 2 m).r], s.ts⟩).1 := by
        show (hear1M me (mbN n) (sayM me 2 m) ⟨{ s.t with b := true }, s.ms ++ [(sayM me 2 m).r], s.ts⟩).1 = _
        rw [hear1_new hno', con1_msg]
        rfl
      have hw := he.note hme hb hno
      have ok := con1_abs (f := f) (half := half) hn hme hb (m := m) (s := ⟨{ s.t with b := true, ee := noteM s.t.ee me m.bd }, s.ms ++ [(sayM me 2 m).r], s.ts⟩) hw hq h0
      show HrOK n f half me m s (con1M me (mbN n) m (say1M me (mbN n) m ⟨{ s.t with b := true }, s.ms, s.ts⟩).1).1
      rw [e1, con1_idem]
      have hp : preT me m (absT s.t) = absT { s.t with b := true, ee := noteM s.t.ee me m.bd } := by
        unfold preT
        rw [if_pos h1, if_pos (show m.fr = m.wh ∧ (absT s.t).b = false from h2)]
        unfold absT
        simp only [nt_note hno]
      have ha : absT (con1M me (mbN n) m ⟨{ s.t with b := true, ee := noteM s.t.ee me m.bd }, s.ms ++ [(sayM me 2 m).r], s.ts⟩).1.t = hearT n f half me m (absT s.t) := by
        unfold hearT
        rw [hp]
        exact ok.a
      have hbb : (con1M me (mbN n) m ⟨{ s.t with b := true, ee := noteM s.t.ee me m.bd }, s.ms ++ [(sayM me 2 m).r], s.ts⟩).1.t.b = true := by
        have := congrArg Tk.b ha
        rw [hearT_b, hp] at this
        exact this
      refine ⟨ha, ok.k, ok.e, ok.q, ?_, ok.ts⟩
      rw [if_pos ⟨h2.2, hbb⟩]
      exact ok.ms
    · rw [if_neg h2]
      have ok := con1_abs (f := f) (half := half) hn hme hb (m := m) he hq h0
      have hp : preT me m (absT s.t) = absT s.t := by
        unfold preT
        rw [if_pos h1]
        exact if_neg h2
      have ha : absT (con1M me (mbN n) m s).1.t = hearT n f half me m (absT s.t) := by
        unfold hearT
        rw [hp]
        exact ok.a
      refine ⟨ha, ok.k, ok.e, ok.q, ?_, ok.ts⟩
      have hbb : (con1M me (mbN n) m s).1.t.b = s.t.b := by
        have := congrArg Tk.b ha
        rw [hearT_b, hp] at this
        exact this
      rw [if_neg (fun h => by rw [hbb, h.1] at h; cases h.2), List.append_nil]
      exact ok.ms
  · rw [if_neg h1]
    have hbn : ∀ {s' : S7}, absT s'.t = hearT n f half me m (absT s.t) → s'.t.b = s.t.b := fun {s'} ha => by
      have := congrArg Tk.b ha
      rw [hearT_b] at this
      refine Eq.trans this ?_
      unfold preT
      rw [if_neg h1]
      split
      · split <;> rfl
      · split <;> rfl
    have old : preT me m (absT s.t) = absT s.t → HrOK n f half me m s s := fun hp => ⟨by unfold hearT; rw [hp]; exact hst.symm, rfl, he, hq, by
      rw [if_neg (fun h => by rw [h.1] at h; cases h.2), if_neg (fun h => by rw [h.1] at h; cases h.2)]
      simp, by
      rw [if_neg fun h => by rw [h.1] at h; cases h.2]
      simp⟩
    by_cases h2 : m.k = 2
    · rw [if_pos h2]
      cases hh : hasE s.t.ee [.i m.fr]
      · rw [hear1_new hh]
        have hno := nt_none.2 hh
        have ok := con1_abs (f := f) (half := half) hn hme hb (m := m) (s := ⟨{ s.t with ee := noteM s.t.ee m.fr m.bd }, s.ms, s.ts⟩) (he.note hfr hb hno) hq h0
        have hp : preT me m (absT s.t) = absT { s.t with ee := noteM s.t.ee m.fr m.bd } := by
          unfold preT
          rw [if_neg h1, if_pos h2, if_pos (show (absT s.t).e m.fr = none from hno)]
          unfold absT
          simp only [nt_note hno]
        have ha : absT (con1M me (mbN n) m ⟨{ s.t with ee := noteM s.t.ee m.fr m.bd }, s.ms, s.ts⟩).1.t = hearT n f half me m (absT s.t) := by
          unfold hearT
          rw [hp]
          exact ok.a
        refine ⟨ha, ok.k, ok.e, ok.q, ?_, ok.ts⟩
        rw [if_neg (fun h => by rw [hbn ha, h.1] at h; cases h.2), List.append_nil]
        exact ok.ms
      · rw [hear1_old hh]
        refine old ?_
        unfold preT
        rw [if_neg h1, if_pos h2]
        exact if_neg fun h => by
          rw [show (absT s.t).e m.fr = nt s.t.ee m.fr from rfl, nt_none, hh] at h
          cases h
    · rw [if_neg h2]
      have hk3 : m.k = 3 := by rcases hc.1 with h | h | h <;> first | exact (h1 h).elim | exact (h2 h).elim | exact h
      cases hh : hasE s.t.rr [.i m.fr]
      · have hno := nt_none.2 hh
        have hne : m.fr ≠ me := by rcases hf with h | h; exact h; exact (h1 h).elim
        have h0' : s.t.r = false → nt (noteM s.t.rr m.fr m.bd) me = none := fun hr => by
          rw [nt_note hno]
          unfold noteA
          rw [if_neg fun e => hne e.symm]
          exact h0 hr
        have ok := con1_abs (f := f) (half := half) hn hme hb (m := m) (s := ⟨{ s.t with rr := noteM s.t.rr m.fr m.bd }, s.ms, s.ts⟩) he (hq.note hfr hb hno) h0'
        have hp : preT me m (absT s.t) = absT { s.t with rr := noteM s.t.rr m.fr m.bd } := by
          unfold preT
          rw [if_neg h1, if_neg h2, if_pos (show (absT s.t).q m.fr = none from hno)]
          unfold absT
          simp only [nt_note hno]
        have ha : absT (con1M me (mbN n) m ⟨{ s.t with rr := noteM s.t.rr m.fr m.bd }, s.ms, s.ts⟩).1.t = hearT n f half me m (absT s.t) := by
          unfold hearT
          rw [hp]
          exact ok.a
        rw [if_neg (by decide)]
        refine ⟨ha, ok.k, ok.e, ok.q, ?_, ok.ts⟩
        rw [if_neg (fun h => by rw [hbn ha, h.1] at h; cases h.2), List.append_nil]
        exact ok.ms
      · rw [if_pos rfl]
        refine old ?_
        unfold preT
        rw [if_neg h1, if_neg h2]
        exact if_neg fun h => by
          rw [show (absT s.t).q m.fr = nt s.t.rr m.fr from rfl, nt_none, hh] at h
          cases h
end
end Go.Num
namespace Go.Num
open Go.Abs
section
variable {n f half : Nat} {me : Int} {m : MsT}
theorem noteA_at (e : Nt) (j : Int) (x : List Int) : noteA e j x j = some x := if_pos rfl
theorem noteA_off {e : Nt} {j a : Int} {x : List Int} (h : a ≠ j) : noteA e j x a = e a := if_neg h
theorem noteA_mono {e : Nt} {j : Int} {x : List Int} (h : e j = none) {a : Int} {y : List Int} (hy : e a = some y) : noteA e j x a = some y := by
  by_cases ha : a = j
  · subst ha; rw [h] at hy; cases hy
  · rw [noteA_off ha]; exact hy
theorem noteA_new {e : Nt} {j : Int} {x : List Int} {a : Int} {y : List Int} (hy : noteA e j x a = some y) : e a = some y ∨ (y = x ∧ a = j) := by
  by_cases ha : a = j
  · subst ha
    rw [noteA_at] at hy
    cases hy
    exact Or.inr ⟨rfl, rfl⟩
  · rw [noteA_off ha] at hy
    exact Or.inl hy
theorem cn_other {e : Nt} {j : Int} {x y : List Int} (h : y ≠ x) : cn n (noteA e j x) y ≤ cn n e y := countP_le fun _ _ ha => by
  rw [saidB_iff] at ha ⊢
  rcases noteA_new ha with h1 | h1
  · exact h1
  · exact (h h1.1).elim
structure PreOK (n : Nat) (me : Int) (m : MsT) (t t1 : Tk) : Prop where
  em : ∀ j x, t.e j = some x → t1.e j = some x
  en : ∀ j x, t1.e j = some x → t.e j = some x ∨ (x = m.bd ∧ ((j = me ∧ m.k = 1 ∧ m.fr = m.wh) ∨ (j = m.fr ∧ m.k = 2)))
  qm : ∀ j x, t.q j = some x → t1.q j = some x
  qn : ∀ j x, t1.q j = some x → t.q j = some x ∨ (x = m.bd ∧ j = m.fr ∧ m.k = 3)
  bm : t.b = true → t1.b = true
  bn : t.b = false → t1.b = true → t1.e me = some m.bd
  bo : t1.b = true ↔ t1.e me ≠ none
  r : t1.r = t.r
  tt : t1.t = t.t
  o1 : m.k = 1 → m.fr = m.wh → t1.b = true
  o2 : m.k = 2 → t1.e m.fr ≠ none
  o3 : m.k = 3 → t1.q m.fr ≠ none
  ce : ∀ x, x ≠ m.bd → cn n t1.e x ≤ cn n t.e x
  cq : ∀ x, x ≠ m.bd → cn n t1.q x ≤ cn n t.q x
theorem pre_ok {t : Tk} (hl : Loc n f half me t) (hk : m.k = 1 ∨ m.k = 2 ∨ m.k = 3) (hf : m.fr ≠ me ∨ m.k = 1) : PreOK n me m t (preT me m t) := by
  have keep : (m.k = 1 → m.fr = m.wh → t.b = true) → (m.k = 2 → t.e m.fr ≠ none) → (m.k = 3 → t.q m.fr ≠ none) → PreOK n me m t t := fun h1 h2 h3 =>
    ⟨fun _ _ h => h, fun _ _ h => Or.inl h, fun _ _ h => h, fun _ _ h => Or.inl h, fun h => h, fun h h' => (by rw [h] at h'; cases h'), hl.bo, rfl, rfl, h1, h2, h3, fun _ _ => Nat.le_refl _, fun _ _ => Nat.le_refl _⟩
  unfold preT
  by_cases h1 : m.k = 1
  · rw [if_pos h1]
    by_cases h2 : m.fr = m.wh ∧ t.b = false
    · rw [if_pos h2]
      have hno : t.e me = none := by
        cases hx : t.e me with
        | none => rfl
        | some x =>
          have := hl.bo.2 (by rw [hx]; simp)
          rw [h2.2] at this
          cases this
      exact ⟨fun _ _ h => noteA_mono hno h, fun j x h => by
          rcases noteA_new h with h | ⟨h3, h4⟩
          · exact Or.inl h
          · exact Or.inr ⟨h3, Or.inl ⟨h4, h1, h2.1⟩⟩, fun _ _ h => h, fun _ _ h => Or.inl h, fun _ => rfl, fun _ _ => noteA_at .., ⟨fun _ => by simp [noteA_at], fun _ => rfl⟩, rfl, rfl, fun _ _ => rfl, fun h => (by omega), fun h => (by omega), fun _ hx => cn_other hx, fun _ _ => Nat.le_refl _⟩
    · rw [if_neg h2]
      exact keep (fun _ h => by
        cases hb : t.b
        · exact (h2 ⟨h, hb⟩).elim
        · rfl) (fun h => by omega) (fun h => by omega)
  · rw [if_neg h1]
    have hne : m.fr ≠ me := by rcases hf with h | h; exact h; exact (h1 h).elim
    by_cases h2 : m.k = 2
    · rw [if_pos h2]
      by_cases h3 : t.e m.fr = none
      · rw [if_pos h3]
        exact ⟨fun _ _ h => noteA_mono h3 h, fun j x h => by
          rcases noteA_new h with h | ⟨h4, h5⟩
          · exact Or.inl h
          · exact Or.inr ⟨h4, Or.inr ⟨h5, h2⟩⟩, fun _ _ h => h, fun _ _ h => Or.inl h, fun h => h, fun h h' => (by rw [h] at h'; cases h'), (by show t.b = true ↔ noteA t.e m.fr m.bd me ≠ none; rw [noteA_off fun e => hne e.symm]; exact hl.bo), rfl, rfl, fun h => (h1 h).elim, fun _ => (by simp [noteA_at]), fun h => (by omega), fun _ hx => cn_other hx, fun _ _ => Nat.le_refl _⟩
      · rw [if_neg h3]
        exact keep (fun h => (h1 h).elim) (fun _ => h3) (fun h => by omega)
    · rw [if_neg h2]
      have hk3 : m.k = 3 := by omega
      by_cases h3 : t.q m.fr = none
      · rw [if_pos h3]
        exact ⟨fun _ _ h => h, fun _ _ h => Or.inl h, fun _ _ h => noteA_mono h3 h, fun j x h => by
          rcases noteA_new h with h | ⟨h4, h5⟩
          · exact Or.inl h
          · exact Or.inr ⟨h4, h5, hk3⟩, fun h => h, fun h h' => (by rw [h] at h'; cases h'), hl.bo, rfl, rfl, fun h => (h1 h).elim, fun h => (h2 h).elim, fun _ => (by simp [noteA_at]), fun _ _ => Nat.le_refl _, fun _ hx => cn_other hx⟩
      · rw [if_neg h3]
        exact keep (fun h => (h1 h).elim) (fun h => (h2 h).elim) (fun _ => h3)
theorem hear_hs {t : Tk} (hl : Loc n f half me t) (hk : m.k = 1 ∨ m.k = 2 ∨ m.k = 3) (hf : m.fr ≠ me ∨ m.k = 1) : Hs n f half me m t (hearT n f half me m t) := by
  have hp := pre_ok hl hk hf
  unfold hearT
  generalize preT me m t = t1 at hp
  have hme : t.q me = none → t1.q me = none := fun h => by
    cases hx : t1.q me with
    | none => rfl
    | some x =>
      rcases hp.qn me x hx with h1 | ⟨_, h2, h3⟩
      · rw [h] at h1; cases h1
      · rcases hf with h4 | h4
        · exact (h4 h2.symm).elim
        · omega
  have hr0 : t.r = false → t1.q me = none := fun h => hme (by
    cases hx : t.q me with
    | none => rfl
    | some x =>
      have := hl.ro.2 (by rw [hx]; simp)
      rw [h] at this
      cases this)
  by_cases hc : rdyC n f half m.bd t1
  · have e2 : rdyT n f half me m.bd t1 = { t1 with r := true, q := noteA t1.q me m.bd } := if_pos hc
    rw [e2]
    have hr : t.r = false := by rw [← hp.r]; exact hc.1
    have hno := hr0 hr
    refine ⟨hp.em, hp.en, fun j x h => noteA_mono hno (hp.qm j x h), fun j x h => ?_, hp.bm, fun _ => rfl, fun h => ?_, hp.bn, fun _ _ => noteA_at .., hp.o1, hp.o2, fun h => ?_, ⟨hp.bo, ⟨fun _ => by simp [tellT, noteA_at], fun _ => rfl⟩, fun _ _ => rfl, fun x h => ?_⟩, fun _ _ => ?_, fun h h' => ?_⟩
    · rcases noteA_new h with h | ⟨h4, h5⟩
      · rcases hp.qn j x h with h | h
        · exact Or.inl h
        · exact Or.inr ⟨h.1, Or.inr h.2⟩
      · exact Or.inr ⟨h4, Or.inl ⟨h5, hr, rfl⟩⟩
    · show (t1.t || _) = true
      rw [hp.tt, h]; rfl
    · show noteA t1.q me m.bd m.fr ≠ none
      have h1 := hp.o3 h
      cases hx : t1.q m.fr with
      | none => exact (h1 hx).elim
      | some x => rw [noteA_mono hno hx]; simp
    · show (t1.t || decide (2 * f < cn n (noteA t1.q me m.bd) m.bd)) = true
      by_cases hx : x = m.bd
      · subst hx
        rw [decide_eq_true (show 2 * f < cn n (noteA t1.q me m.bd) m.bd from h), Bool.or_true]
      · have h1 : cn n (noteA t1.q me m.bd) x ≤ cn n t1.q x := cn_other hx
        have h2 := hp.cq x hx
        have h3 : 2 * f < cn n (noteA t1.q me m.bd) x := h
        rw [hp.tt, hl.ct x (by omega)]; rfl
    · rcases hc.2 with h1 | h1
      · exact Or.inl h1
      · refine Or.inr ⟨t1.q, h1, fun j x h => ?_⟩
        have hj : j ≠ me := fun e => by rw [e, hno] at h; cases h
        exact ⟨hj, noteA_mono hno h⟩
    · have h1 : (t1.t || decide (2 * f < cn n (noteA t1.q me m.bd) m.bd)) = true := h'
      rw [hp.tt, h, Bool.false_or] at h1
      exact of_decide_eq_true h1
  · have e2 : rdyT n f half me m.bd t1 = t1 := if_neg hc
    rw [e2]
    refine ⟨hp.em, hp.en, hp.qm, fun j x h => ?_, hp.bm, fun h => ?_, fun h => ?_, hp.bn, fun h h' => ?_, hp.o1, hp.o2, hp.o3, ⟨hp.bo, ?_, fun x h => ?_, fun x h => ?_⟩, fun h h' => ?_, fun h h' => ?_⟩
    · rcases hp.qn j x h with h | h
      · exact Or.inl h
      · exact Or.inr ⟨h.1, Or.inr h.2⟩
    · show t1.r = true
      rw [hp.r]; exact h
    · show (t1.t || _) = true
      rw [hp.tt, h]; rfl
    · have h1 : t1.r = true := h'
      rw [hp.r, h] at h1
      cases h1
    · show t1.r = true ↔ t1.q me ≠ none
      rw [hp.r]
      constructor
      · intro h1 h2
        have h3 := hl.ro.1 h1
        cases hx : t.q me with
        | none => exact h3 hx
        | some x => rw [hp.qm me x hx] at h2; cases h2
      · intro h1
        exact hl.ro.2 fun h2 => h1 (hme h2)
    · show t1.r = true
      have h' : half < cn n t1.e x ∨ f < cn n t1.q x := h
      cases hr : t1.r
      · by_cases hx : x = m.bd
        · subst hx
          exact (hc ⟨hr, h'⟩).elim
        · have h2 := hp.ce x hx
          have h3 := hp.cq x hx
          have := hl.cr x (by omega)
          rw [← hp.r, hr] at this
          cases this
      · rfl
    · show (t1.t || decide (2 * f < cn n t1.q m.bd)) = true
      have h' : 2 * f < cn n t1.q x := h
      by_cases hx : x = m.bd
      · subst hx
        rw [decide_eq_true h', Bool.or_true]
      · have h3 := hp.cq x hx
        rw [hp.tt, hl.ct x (by omega)]; rfl
    · have h1 : t1.r = true := h'
      rw [hp.r, h] at h1
      cases h1
    · have h1 : (t1.t || decide (2 * f < cn n t1.q m.bd)) = true := h'
      rw [hp.tt, h, Bool.false_or] at h1
      exact of_decide_eq_true h1
end
end Go.Num
