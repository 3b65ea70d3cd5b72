/- Several texts put together: Ch4 Ch5 Ch6 Ch7 Frame Glob D16 D17 FrD. -/
import Derived.Test.YthdhjbmgmfndhaaDoorMrg9
import Derived.Test.YthdhjbmgmfndhaaDoorRows
import Derived.WalkKit
import Derived.ProofKit
import Derived.OpenShut
import Derived.ShutString
import Derived.SizedLaws
import Derived.Carry
import Derived.Stop.LaidErr
import Derived.Lib.LaidTab
namespace Go.Num
open Go.Abs Go.Proofs Go.Shelf Go.RowKit
instance (l : List Int) (r : Int) : Decidable (fitsB l r) := by unfold fitsB; infer_instance
noncomputable def gOp : Gam DF := [(freezeId, .fn (freezeD DF [20])), (24, .rd [true, false] readR), (31, .op [true, false, false] cutQ), (32, .op [true, false] syncQ)]
noncomputable def gOpO : Gam DF := (30, .fn readOkD) :: gOp
noncomputable def gOpN : Gam DF := (30, .fn readNoD) :: gOp
def opSn (d : DkT) (b rest : List Int) (ls : List Rec) : Sn DF.τ where
  slots := [(0, .v (.one (.ref 0 0))), (4, .v (.one (.ref 2 0))), (5, .v (.one (.pw .u8 b))), (7, .v (.one (.pw .u8 rest)))]
  boxes := enumB 0 (dkBt d ++ [.fixed 71 [.ref 0 0, .own 3, .bool true false], .dyn 37 (.lrs lkSh ls)])
  nt := 77
  np := 2
def opOut (d : DkT) (ls : List Rec) : List (BoxSt DF.τ) := dkBt d ++ [.fixed 71 [.ref 0 0, .own 3, .bool false false], .dyn 37 (.lrs lkSh ls)]
def opV : AV DF.τ := .tup [.one (.ref 2 0), .one (.int .i64 true 0)]
def opE (e : Int) : AV DF.τ := .tup [.one .nilp, .one (.int .i64 false e)]
theorem op_step (d : DkT) (b rest rest' : List Int) (ls ls' : List Rec)
 (h1 : ((decide ((((List.length rest) : Nat) : Int) ≥ (112 : Int))) = true))
 (h2 : ((112 : Int) ≤ (((List.length rest) : Nat) : Int)))
 (h3 : (InI64 ((((List.length ls) : Nat) : Int) + (1 : Int))))
 (h4 : ((112 : Nat) ≤ (List.length (List.drop (0 : Nat) (List.take (112 : Nat) rest)))))
 (h5 : ((List.length (List.drop (0 : Nat) (List.take (112 : Nat) rest))) ≤ (4611686018427387904 : Nat)))
 (h6 : (fitsB (List.drop (0 : Nat) (List.take (112 : Nat) rest)) ((((List.length ls) : Nat) : Int) + (1 : Int))))
 (h7 : ((((List.length ls) + (1 : Nat)) * (104 : Nat)) ≤ (140737488355328 : Nat)))
 (h8 : (((List.length ls) + (1 : Nat)) ≤ (9223372036854775807 : Nat)))
 (h9 : ((((List.length rest) : Nat) : Int) ≤ (((List.length rest) : Nat) : Int)))
 (h10 : ((List.drop (112 : Nat) (List.take (Int.toNat (((List.length rest) : Nat) : Int)) rest)) = rest'))
 (h11 : ((ls ++ [[(Fd.i ((((List.length ls) : Nat) : Int) + (1 : Int))), (Fd.w (sigB (List.drop (0 : Nat) (List.take (112 : Nat) rest))))]]) = ls')) :
 ∃ ps, stepPs Tryd.prog DF gOpO 100 (bodyN Tryd.f11 0) 100 (opSn d b rest ls).st [.is true] .normal (opSn d b rest' ls') = some ps ∧ AllQ ps := ⟨_, by kernel_rfl, allQ_cons h1 (allQ_cons (show ((0 : Int) ≤ (0 : Int)) from by decide) (allQ_cons (show ((0 : Int) ≤ (112 : Int)) from by decide) (allQ_cons h2 (allQ_cons h3 (allQ_cons h4 (allQ_cons h5 (allQ_cons h6 (allQ_cons h7 (allQ_cons h8 (allQ_cons (show ((0 : Int) ≤ (112 : Int)) from by decide) (allQ_cons h2 (allQ_cons h9 (allQ_cons (show (b = b) from rfl) (allQ_cons h10 (allQ_cons (show ((d).1 = (d).1) from rfl) (allQ_cons (show (((d).2).1 = ((d).2).1) from rfl) (allQ_cons (show ((((d).2).2).1 = (((d).2).2).1) from rfl) (allQ_cons (show (((((d).2).2).2).1 = ((((d).2).2).2).1) from rfl) (allQ_cons (show (((((d).2).2).2).2 = ((((d).2).2).2).2) from rfl) (allQ_cons h11 (allQ_nil)))))))))))))))))))))⟩
theorem op_stop (d : DkT) (b rest : List Int) (ls : List Rec)
 (h1 : ((decide ((((List.length rest) : Nat) : Int) ≥ (112 : Int))) = true))
 (h2 : ((112 : Int) ≤ (((List.length rest) : Nat) : Int)))
 (h3 : (InI64 ((((List.length ls) : Nat) : Int) + (1 : Int))))
 (h4 : ((112 : Nat) ≤ (List.length (List.drop (0 : Nat) (List.take (112 : Nat) rest)))))
 (h5 : ((List.length (List.drop (0 : Nat) (List.take (112 : Nat) rest))) ≤ (4611686018427387904 : Nat)))
 (h6 : (¬ (fitsB (List.drop (0 : Nat) (List.take (112 : Nat) rest)) ((((List.length ls) : Nat) : Int) + (1 : Int))))) :
 ∃ ps, stepPs Tryd.prog DF gOpN 100 (bodyN Tryd.f11 0) 100 (opSn d b rest ls).st [.is true] (.exit 0) (opSn d b rest ls) = some ps ∧ AllQ ps := ⟨_, by kernel_rfl, allQ_cons h1 (allQ_cons (show ((0 : Int) ≤ (0 : Int)) from by decide) (allQ_cons (show ((0 : Int) ≤ (112 : Int)) from by decide) (allQ_cons h2 (allQ_cons h3 (allQ_cons h4 (allQ_cons h5 (allQ_cons h6 (allQ_cons (show (b = b) from rfl) (allQ_cons (show (rest = rest) from rfl) (allQ_cons (show ((d).1 = (d).1) from rfl) (allQ_cons (show (((d).2).1 = ((d).2).1) from rfl) (allQ_cons (show ((((d).2).2).1 = (((d).2).2).1) from rfl) (allQ_cons (show (((((d).2).2).2).1 = ((((d).2).2).2).1) from rfl) (allQ_cons (show (((((d).2).2).2).2 = ((((d).2).2).2).2) from rfl) (allQ_cons (show (ls = ls) from rfl) (allQ_nil))))))))))))))))⟩
theorem op_exit (d : DkT) (b rest : List Int) (ls : List Rec)
 (h1 : ((decide ((((List.length rest) : Nat) : Int) ≥ (112 : Int))) = false)) :
 ∃ ps, stepPs Tryd.prog DF gOpO 100 (bodyN Tryd.f11 0) 100 (opSn d b rest ls).st [.is false] (.exit 0) (opSn d b rest ls) = some ps ∧ AllQ ps := ⟨_, by kernel_rfl, allQ_cons h1 (allQ_cons (show (b = b) from rfl) (allQ_cons (show (rest = rest) from rfl) (allQ_cons (show ((d).1 = (d).1) from rfl) (allQ_cons (show (((d).2).1 = ((d).2).1) from rfl) (allQ_cons (show ((((d).2).2).1 = (((d).2).2).1) from rfl) (allQ_cons (show (((((d).2).2).2).1 = ((((d).2).2).2).1) from rfl) (allQ_cons (show (((((d).2).2).2).2 = ((((d).2).2).2).2) from rfl) (allQ_cons (show (ls = ls) from rfl) (allQ_nil)))))))))⟩
theorem op_gone (d : DkT)
 (h1 : (Okd d))
 (h2 : ((((readM d (⟨#[99, 104, 97, 105, 110]⟩ : ByteArray))).1 == (41 : Int)) = true)) :
 ∃ ps, runO Tryd.prog DF gOp 100 Tryd.f11 (dkBt d, [.one (.ref 0 0)]) [.is true] opV (opOut d []) = some ps ∧ AllQ ps := ⟨_, by kernel_rfl, allQ_cons (show ((⟨#[99, 104, 97, 105, 110]⟩ : ByteArray) = (⟨#[99, 104, 97, 105, 110]⟩ : ByteArray)) from rfl) (allQ_cons (show ((d).1 = (d).1) from rfl) (allQ_cons (show (((d).2).1 = ((d).2).1) from rfl) (allQ_cons (show ((((d).2).2).1 = (((d).2).2).1) from rfl) (allQ_cons (show (((((d).2).2).2).1 = ((((d).2).2).2).1) from rfl) (allQ_cons (show (((((d).2).2).2).2 = ((((d).2).2).2).2) from rfl) (allQ_cons h1 (allQ_cons (show ((5 : Nat) ≤ (9223372036854775807 : Nat)) from by decide) (allQ_cons h2 (allQ_cons (show ((d).1 = (d).1) from rfl) (allQ_cons (show (((d).2).1 = ((d).2).1) from rfl) (allQ_cons (show ((((d).2).2).1 = (((d).2).2).1) from rfl) (allQ_cons (show (((((d).2).2).2).1 = ((((d).2).2).2).1) from rfl) (allQ_cons (show (((((d).2).2).2).2 = ((((d).2).2).2).2) from rfl) (allQ_cons (show (false = false) from rfl) (allQ_cons (show (([] : List (Rec)) = ([] : List (Rec))) from rfl) (allQ_nil))))))))))))))))⟩
theorem op_err (d : DkT) (e : Int)
 (h1 : (Okd d))
 (h2 : ((((readM d (⟨#[99, 104, 97, 105, 110]⟩ : ByteArray))).1 == (41 : Int)) = false))
 (h3 : ((((readM d (⟨#[99, 104, 97, 105, 110]⟩ : ByteArray))).1 != (0 : Int)) = true))
 (h4 : (((readM d (⟨#[99, 104, 97, 105, 110]⟩ : ByteArray))).1 = e)) :
 ∃ ps, runO Tryd.prog DF gOp 100 Tryd.f11 (dkBt d, [.one (.ref 0 0)]) [.is false, .is true] (opE e) (dkBt d) = some ps ∧ AllQ ps := ⟨_, by kernel_rfl, allQ_cons (show ((⟨#[99, 104, 97, 105, 110]⟩ : ByteArray) = (⟨#[99, 104, 97, 105, 110]⟩ : ByteArray)) from rfl) (allQ_cons (show ((d).1 = (d).1) from rfl) (allQ_cons (show (((d).2).1 = ((d).2).1) from rfl) (allQ_cons (show ((((d).2).2).1 = (((d).2).2).1) from rfl) (allQ_cons (show (((((d).2).2).2).1 = ((((d).2).2).2).1) from rfl) (allQ_cons (show (((((d).2).2).2).2 = ((((d).2).2).2).2) from rfl) (allQ_cons h1 (allQ_cons (show ((5 : Nat) ≤ (9223372036854775807 : Nat)) from by decide) (allQ_cons h2 (allQ_cons h3 (allQ_cons h4 (allQ_cons (show ((d).1 = (d).1) from rfl) (allQ_cons (show (((d).2).1 = ((d).2).1) from rfl) (allQ_cons (show ((((d).2).2).1 = (((d).2).2).1) from rfl) (allQ_cons (show (((((d).2).2).2).1 = ((((d).2).2).2).1) from rfl) (allQ_cons (show (((((d).2).2).2).2 = ((((d).2).2).2).2) from rfl) (allQ_nil))))))))))))))))⟩
theorem op_cutE (d : DkT) (b rest : List Int) (ls : List Rec) (e : Int)
 (h1 : (Okd d))
 (h2 : ((((readM d (⟨#[99, 104, 97, 105, 110]⟩ : ByteArray))).1 == (41 : Int)) = false))
 (h3 : ((((readM d (⟨#[99, 104, 97, 105, 110]⟩ : ByteArray))).1 != (0 : Int)) = false))
 (h4 : SumOK Tryd.prog DF (bodyN Tryd.f11 0) (loopL DF (opSn d b b []) (.exit 0) (opSn d b rest ls)))
 (h5 : (((readM d (⟨#[99, 104, 97, 105, 110]⟩ : ByteArray))).2 = b))
 (h6 : ((decide ((((List.length rest) : Nat) : Int) > (0 : Int))) = true))
 (h7 : (InI64 ((((List.length b) : Nat) : Int) - (((List.length rest) : Nat) : Int))))
 (h8 : (DkOK d))
 (h9 : ((((cutM d (⟨#[99, 104, 97, 105, 110]⟩ : ByteArray) ((((List.length b) : Nat) : Int) - (((List.length rest) : Nat) : Int)))).1 != (0 : Int)) = true))
 (h10 : (((cutM d (⟨#[99, 104, 97, 105, 110]⟩ : ByteArray) ((((List.length b) : Nat) : Int) - (((List.length rest) : Nat) : Int)))).1 = e)) :
 ∃ ps, runO Tryd.prog DF gOp 100 Tryd.f11 (dkBt d, [.one (.ref 0 0)]) [.is false, .is false, .loop (loopL DF (opSn d b b []) (.exit 0) (opSn d b rest ls)), .is true, .is true] (opE e) (dkBt (cutM d cN ((b.length : Int) - (rest.length : Int))).2) = some ps ∧ AllQ ps := ⟨_, by kernel_rfl, allQ_cons (show ((⟨#[99, 104, 97, 105, 110]⟩ : ByteArray) = (⟨#[99, 104, 97, 105, 110]⟩ : ByteArray)) from rfl) (allQ_cons (show ((d).1 = (d).1) from rfl) (allQ_cons (show (((d).2).1 = ((d).2).1) from rfl) (allQ_cons (show ((((d).2).2).1 = (((d).2).2).1) from rfl) (allQ_cons (show (((((d).2).2).2).1 = ((((d).2).2).2).1) from rfl) (allQ_cons (show (((((d).2).2).2).2 = ((((d).2).2).2).2) from rfl) (allQ_cons h1 (allQ_cons (show ((5 : Nat) ≤ (9223372036854775807 : Nat)) from by decide) (allQ_cons h2 (allQ_cons h3 (allQ_cons h4 (allQ_cons h5 (allQ_cons h5 (allQ_cons (show ((d).1 = (d).1) from rfl) (allQ_cons (show (((d).2).1 = ((d).2).1) from rfl) (allQ_cons (show ((((d).2).2).1 = (((d).2).2).1) from rfl) (allQ_cons (show (((((d).2).2).2).1 = ((((d).2).2).2).1) from rfl) (allQ_cons (show (((((d).2).2).2).2 = ((((d).2).2).2).2) from rfl) (allQ_cons (show (([] : List (Rec)) = ([] : List (Rec))) from rfl) (allQ_cons h6 (allQ_cons h7 (allQ_cons (show ((⟨#[99, 104, 97, 105, 110]⟩ : ByteArray) = (⟨#[99, 104, 97, 105, 110]⟩ : ByteArray)) from rfl) (allQ_cons (show (((((List.length b) : Nat) : Int) - (((List.length rest) : Nat) : Int)) = ((((List.length b) : Nat) : Int) - (((List.length rest) : Nat) : Int))) from rfl) (allQ_cons (show ((d).1 = (d).1) from rfl) (allQ_cons (show (((d).2).1 = ((d).2).1) from rfl) (allQ_cons (show ((((d).2).2).1 = (((d).2).2).1) from rfl) (allQ_cons (show (((((d).2).2).2).1 = ((((d).2).2).2).1) from rfl) (allQ_cons (show (((((d).2).2).2).2 = ((((d).2).2).2).2) from rfl) (allQ_cons h8 (allQ_cons (show ((5 : Nat) ≤ (9223372036854775807 : Nat)) from by decide) (allQ_cons h9 (allQ_cons h10 (allQ_cons (show ((((cutM d (⟨#[99, 104, 97, 105, 110]⟩ : ByteArray) ((((List.length b) : Nat) : Int) - (((List.length rest) : Nat) : Int)))).2).1 = (((cutM d (⟨#[99, 104, 97, 105, 110]⟩ : ByteArray) ((((List.length b) : Nat) : Int) - (((List.length rest) : Nat) : Int)))).2).1) from rfl) (allQ_cons (show (((((cutM d (⟨#[99, 104, 97, 105, 110]⟩ : ByteArray) ((((List.length b) : Nat) : Int) - (((List.length rest) : Nat) : Int)))).2).2).1 = ((((cutM d (⟨#[99, 104, 97, 105, 110]⟩ : ByteArray) ((((List.length b) : Nat) : Int) - (((List.length rest) : Nat) : Int)))).2).2).1) from rfl) (allQ_cons (show ((((((cutM d (⟨#[99, 104, 97, 105, 110]⟩ : ByteArray) ((((List.length b) : Nat) : Int) - (((List.length rest) : Nat) : Int)))).2).2).2).1 = (((((cutM d (⟨#[99, 104, 97, 105, 110]⟩ : ByteArray) ((((List.length b) : Nat) : Int) - (((List.length rest) : Nat) : Int)))).2).2).2).1) from rfl) (allQ_cons (show (((((((cutM d (⟨#[99, 104, 97, 105, 110]⟩ : ByteArray) ((((List.length b) : Nat) : Int) - (((List.length rest) : Nat) : Int)))).2).2).2).2).1 = ((((((cutM d (⟨#[99, 104, 97, 105, 110]⟩ : ByteArray) ((((List.length b) : Nat) : Int) - (((List.length rest) : Nat) : Int)))).2).2).2).2).1) from rfl) (allQ_cons (show (((((((cutM d (⟨#[99, 104, 97, 105, 110]⟩ : ByteArray) ((((List.length b) : Nat) : Int) - (((List.length rest) : Nat) : Int)))).2).2).2).2).2 = ((((((cutM d (⟨#[99, 104, 97, 105, 110]⟩ : ByteArray) ((((List.length b) : Nat) : Int) - (((List.length rest) : Nat) : Int)))).2).2).2).2).2) from rfl) (allQ_nil)))))))))))))))))))))))))))))))))))))⟩
theorem op_syE (d : DkT) (b rest : List Int) (ls : List Rec) (e : Int)
 (h1 : (Okd d))
 (h2 : ((((readM d (⟨#[99, 104, 97, 105, 110]⟩ : ByteArray))).1 == (41 : Int)) = false))
 (h3 : ((((readM d (⟨#[99, 104, 97, 105, 110]⟩ : ByteArray))).1 != (0 : Int)) = false))
 (h4 : SumOK Tryd.prog DF (bodyN Tryd.f11 0) (loopL DF (opSn d b b []) (.exit 0) (opSn d b rest ls)))
 (h5 : (((readM d (⟨#[99, 104, 97, 105, 110]⟩ : ByteArray))).2 = b))
 (h6 : ((decide ((((List.length rest) : Nat) : Int) > (0 : Int))) = true))
 (h7 : (InI64 ((((List.length b) : Nat) : Int) - (((List.length rest) : Nat) : Int))))
 (h8 : (DkOK d))
 (h9 : ((((cutM d (⟨#[99, 104, 97, 105, 110]⟩ : ByteArray) ((((List.length b) : Nat) : Int) - (((List.length rest) : Nat) : Int)))).1 != (0 : Int)) = false))
 (h10 : (DkOK ((cutM d (⟨#[99, 104, 97, 105, 110]⟩ : ByteArray) ((((List.length b) : Nat) : Int) - (((List.length rest) : Nat) : Int)))).2))
 (h11 : ((((syncM ((cutM d (⟨#[99, 104, 97, 105, 110]⟩ : ByteArray) ((((List.length b) : Nat) : Int) - (((List.length rest) : Nat) : Int)))).2 (⟨#[99, 104, 97, 105, 110]⟩ : ByteArray))).1 != (0 : Int)) = true))
 (h12 : (((syncM ((cutM d (⟨#[99, 104, 97, 105, 110]⟩ : ByteArray) ((((List.length b) : Nat) : Int) - (((List.length rest) : Nat) : Int)))).2 (⟨#[99, 104, 97, 105, 110]⟩ : ByteArray))).1 = e)) :
 ∃ ps, runO Tryd.prog DF gOp 100 Tryd.f11 (dkBt d, [.one (.ref 0 0)]) [.is false, .is false, .loop (loopL DF (opSn d b b []) (.exit 0) (opSn d b rest ls)), .is true, .is false, .is true] (opE e) (dkBt (syncM (cutM d cN ((b.length : Int) - (rest.length : Int))).2 cN).2) = some ps ∧ AllQ ps := ⟨_, by kernel_rfl, allQ_cons (show ((⟨#[99, 104, 97, 105, 110]⟩ : ByteArray) = (⟨#[99, 104, 97, 105, 110]⟩ : ByteArray)) from rfl) (allQ_cons (show ((d).1 = (d).1) from rfl) (allQ_cons (show (((d).2).1 = ((d).2).1) from rfl) (allQ_cons (show ((((d).2).2).1 = (((d).2).2).1) from rfl) (allQ_cons (show (((((d).2).2).2).1 = ((((d).2).2).2).1) from rfl) (allQ_cons (show (((((d).2).2).2).2 = ((((d).2).2).2).2) from rfl) (allQ_cons h1 (allQ_cons (show ((5 : Nat) ≤ (9223372036854775807 : Nat)) from by decide) (allQ_cons h2 (allQ_cons h3 (allQ_cons h4 (allQ_cons h5 (allQ_cons h5 (allQ_cons (show ((d).1 = (d).1) from rfl) (allQ_cons (show (((d).2).1 = ((d).2).1) from rfl) (allQ_cons (show ((((d).2).2).1 = (((d).2).2).1) from rfl) (allQ_cons (show (((((d).2).2).2).1 = ((((d).2).2).2).1) from rfl) (allQ_cons (show (((((d).2).2).2).2 = ((((d).2).2).2).2) from rfl) (allQ_cons (show (([] : List (Rec)) = ([] : List (Rec))) from rfl) (allQ_cons h6 (allQ_cons h7 (allQ_cons (show ((⟨#[99, 104, 97, 105, 110]⟩ : ByteArray) = (⟨#[99, 104, 97, 105, 110]⟩ : ByteArray)) from rfl) (allQ_cons (show (((((List.length b) : Nat) : Int) - (((List.length rest) : Nat) : Int)) = ((((List.length b) : Nat) : Int) - (((List.length rest) : Nat) : Int))) from rfl) (allQ_cons (show ((d).1 = (d).1) from rfl) (allQ_cons (show (((d).2).1 = ((d).2).1) from rfl) (allQ_cons (show ((((d).2).2).1 = (((d).2).2).1) from rfl) (allQ_cons (show (((((d).2).2).2).1 = ((((d).2).2).2).1) from rfl) (allQ_cons (show (((((d).2).2).2).2 = ((((d).2).2).2).2) from rfl) (allQ_cons h8 (allQ_cons (show ((5 : Nat) ≤ (9223372036854775807 : Nat)) from by decide) (allQ_cons h9 (allQ_cons (show ((⟨#[99, 104, 97, 105, 110]⟩ : ByteArray) = (⟨#[99, 104, 97, 105, 110]⟩ : ByteArray)) from rfl) (allQ_cons (show ((((cutM d (⟨#[99, 104, 97, 105, 110]⟩ : ByteArray) ((((List.length b) : Nat) : Int) - (((List.length rest) : Nat) : Int)))).2).1 = (((cutM d (⟨#[99, 104, 97, 105, 110]⟩ : ByteArray) ((((List.length b) : Nat) : Int) - (((List.length rest) : Nat) : Int)))).2).1) from rfl) (allQ_cons (show (((((cutM d (⟨#[99, 104, 97, 105, 110]⟩ : ByteArray) ((((List.length b) : Nat) : Int) - (((List.length rest) : Nat) : Int)))).2).2).1 = ((((cutM d (⟨#[99, 104, 97, 105, 110]⟩ : ByteArray) ((((List.length b) : Nat) : Int) - (((List.length rest) : Nat) : Int)))).2).2).1) from rfl) (allQ_cons (show ((((((cutM d (⟨#[99, 104, 97, 105, 110]⟩ : ByteArray) ((((List.length b) : Nat) : Int) - (((List.length rest) : Nat) : Int)))).2).2).2).1 = (((((cutM d (⟨#[99, 104, 97, 105, 110]⟩ : ByteArray) ((((List.length b) : Nat) : Int) - (((List.length rest) : Nat) : Int)))).2).2).2).1) from rfl) (allQ_cons (show (((((((cutM d (⟨#[99, 104, 97, 105, 110]⟩ : ByteArray) ((((List.length b) : Nat) : Int) - (((List.length rest) : Nat) : Int)))).2).2).2).2).1 = ((((((cutM d (⟨#[99, 104, 97, 105, 110]⟩ : ByteArray) ((((List.length b) : Nat) : Int) - (((List.length rest) : Nat) : Int)))).2).2).2).2).1) from rfl) (allQ_cons (show (((((((cutM d (⟨#[99, 104, 97, 105, 110]⟩ : ByteArray) ((((List.length b) : Nat) : Int) - (((List.length rest) : Nat) : Int)))).2).2).2).2).2 = ((((((cutM d (⟨#[99, 104, 97, 105, 110]⟩ : ByteArray) ((((List.length b) : Nat) : Int) - (((List.length rest) : Nat) : Int)))).2).2).2).2).2) from rfl) (allQ_cons h10 (allQ_cons (show ((5 : Nat) ≤ (9223372036854775807 : Nat)) from by decide) (allQ_cons h11 (allQ_cons h12 (allQ_cons (show ((((syncM ((cutM d (⟨#[99, 104, 97, 105, 110]⟩ : ByteArray) ((((List.length b) : Nat) : Int) - (((List.length rest) : Nat) : Int)))).2 (⟨#[99, 104, 97, 105, 110]⟩ : ByteArray))).2).1 = (((syncM ((cutM d (⟨#[99, 104, 97, 105, 110]⟩ : ByteArray) ((((List.length b) : Nat) : Int) - (((List.length rest) : Nat) : Int)))).2 (⟨#[99, 104, 97, 105, 110]⟩ : ByteArray))).2).1) from rfl) (allQ_cons (show (((((syncM ((cutM d (⟨#[99, 104, 97, 105, 110]⟩ : ByteArray) ((((List.length b) : Nat) : Int) - (((List.length rest) : Nat) : Int)))).2 (⟨#[99, 104, 97, 105, 110]⟩ : ByteArray))).2).2).1 = ((((syncM ((cutM d (⟨#[99, 104, 97, 105, 110]⟩ : ByteArray) ((((List.length b) : Nat) : Int) - (((List.length rest) : Nat) : Int)))).2 (⟨#[99, 104, 97, 105, 110]⟩ : ByteArray))).2).2).1) from rfl) (allQ_cons (show ((((((syncM ((cutM d (⟨#[99, 104, 97, 105, 110]⟩ : ByteArray) ((((List.length b) : Nat) : Int) - (((List.length rest) : Nat) : Int)))).2 (⟨#[99, 104, 97, 105, 110]⟩ : ByteArray))).2).2).2).1 = (((((syncM ((cutM d (⟨#[99, 104, 97, 105, 110]⟩ : ByteArray) ((((List.length b) : Nat) : Int) - (((List.length rest) : Nat) : Int)))).2 (⟨#[99, 104, 97, 105, 110]⟩ : ByteArray))).2).2).2).1) from rfl) (allQ_cons (show (((((((syncM ((cutM d (⟨#[99, 104, 97, 105, 110]⟩ : ByteArray) ((((List.length b) : Nat) : Int) - (((List.length rest) : Nat) : Int)))).2 (⟨#[99, 104, 97, 105, 110]⟩ : ByteArray))).2).2).2).2).1 = ((((((syncM ((cutM d (⟨#[99, 104, 97, 105, 110]⟩ : ByteArray) ((((List.length b) : Nat) : Int) - (((List.length rest) : Nat) : Int)))).2 (⟨#[99, 104, 97, 105, 110]⟩ : ByteArray))).2).2).2).2).1) from rfl) (allQ_cons (show (((((((syncM ((cutM d (⟨#[99, 104, 97, 105, 110]⟩ : ByteArray) ((((List.length b) : Nat) : Int) - (((List.length rest) : Nat) : Int)))).2 (⟨#[99, 104, 97, 105, 110]⟩ : ByteArray))).2).2).2).2).2 = ((((((syncM ((cutM d (⟨#[99, 104, 97, 105, 110]⟩ : ByteArray) ((((List.length b) : Nat) : Int) - (((List.length rest) : Nat) : Int)))).2 (⟨#[99, 104, 97, 105, 110]⟩ : ByteArray))).2).2).2).2).2) from rfl) (allQ_nil))))))))))))))))))))))))))))))))))))))))))))))⟩
theorem op_ok (d : DkT) (b rest : List Int) (ls : List Rec) (e : Int)
 (h1 : (Okd d))
 (h2 : ((((readM d (⟨#[99, 104, 97, 105, 110]⟩ : ByteArray))).1 == (41 : Int)) = false))
 (h3 : ((((readM d (⟨#[99, 104, 97, 105, 110]⟩ : ByteArray))).1 != (0 : Int)) = false))
 (h4 : SumOK Tryd.prog DF (bodyN Tryd.f11 0) (loopL DF (opSn d b b []) (.exit 0) (opSn d b rest ls)))
 (h5 : (((readM d (⟨#[99, 104, 97, 105, 110]⟩ : ByteArray))).2 = b))
 (h6 : ((decide ((((List.length rest) : Nat) : Int) > (0 : Int))) = true))
 (h7 : (InI64 ((((List.length b) : Nat) : Int) - (((List.length rest) : Nat) : Int))))
 (h8 : (DkOK d))
 (h9 : ((((cutM d (⟨#[99, 104, 97, 105, 110]⟩ : ByteArray) ((((List.length b) : Nat) : Int) - (((List.length rest) : Nat) : Int)))).1 != (0 : Int)) = false))
 (h10 : (DkOK ((cutM d (⟨#[99, 104, 97, 105, 110]⟩ : ByteArray) ((((List.length b) : Nat) : Int) - (((List.length rest) : Nat) : Int)))).2))
 (h11 : ((((syncM ((cutM d (⟨#[99, 104, 97, 105, 110]⟩ : ByteArray) ((((List.length b) : Nat) : Int) - (((List.length rest) : Nat) : Int)))).2 (⟨#[99, 104, 97, 105, 110]⟩ : ByteArray))).1 != (0 : Int)) = false)) :
 ∃ ps, runO Tryd.prog DF gOp 100 Tryd.f11 (dkBt d, [.one (.ref 0 0)]) [.is false, .is false, .loop (loopL DF (opSn d b b []) (.exit 0) (opSn d b rest ls)), .is true, .is false, .is false] opV (opOut (syncM (cutM d cN ((b.length : Int) - (rest.length : Int))).2 cN).2 ls) = some ps ∧ AllQ ps := ⟨_, by kernel_rfl, allQ_cons (show ((⟨#[99, 104, 97, 105, 110]⟩ : ByteArray) = (⟨#[99, 104, 97, 105, 110]⟩ : ByteArray)) from rfl) (allQ_cons (show ((d).1 = (d).1) from rfl) (allQ_cons (show (((d).2).1 = ((d).2).1) from rfl) (allQ_cons (show ((((d).2).2).1 = (((d).2).2).1) from rfl) (allQ_cons (show (((((d).2).2).2).1 = ((((d).2).2).2).1) from rfl) (allQ_cons (show (((((d).2).2).2).2 = ((((d).2).2).2).2) from rfl) (allQ_cons h1 (allQ_cons (show ((5 : Nat) ≤ (9223372036854775807 : Nat)) from by decide) (allQ_cons h2 (allQ_cons h3 (allQ_cons h4 (allQ_cons h5 (allQ_cons h5 (allQ_cons (show ((d).1 = (d).1) from rfl) (allQ_cons (show (((d).2).1 = ((d).2).1) from rfl) (allQ_cons (show ((((d).2).2).1 = (((d).2).2).1) from rfl) (allQ_cons (show (((((d).2).2).2).1 = ((((d).2).2).2).1) from rfl) (allQ_cons (show (((((d).2).2).2).2 = ((((d).2).2).2).2) from rfl) (allQ_cons (show (([] : List (Rec)) = ([] : List (Rec))) from rfl) (allQ_cons h6 (allQ_cons h7 (allQ_cons (show ((⟨#[99, 104, 97, 105, 110]⟩ : ByteArray) = (⟨#[99, 104, 97, 105, 110]⟩ : ByteArray)) from rfl) (allQ_cons (show (((((List.length b) : Nat) : Int) - (((List.length rest) : Nat) : Int)) = ((((List.length b) : Nat) : Int) - (((List.length rest) : Nat) : Int))) from rfl) (allQ_cons (show ((d).1 = (d).1) from rfl) (allQ_cons (show (((d).2).1 = ((d).2).1) from rfl) (allQ_cons (show ((((d).2).2).1 = (((d).2).2).1) from rfl) (allQ_cons (show (((((d).2).2).2).1 = ((((d).2).2).2).1) from rfl) (allQ_cons (show (((((d).2).2).2).2 = ((((d).2).2).2).2) from rfl) (allQ_cons h8 (allQ_cons (show ((5 : Nat) ≤ (9223372036854775807 : Nat)) from by decide) (allQ_cons h9 (allQ_cons (show ((⟨#[99, 104, 97, 105, 110]⟩ : ByteArray) = (⟨#[99, 104, 97, 105, 110]⟩ : ByteArray)) from rfl) (allQ_cons (show ((((cutM d (⟨#[99, 104, 97, 105, 110]⟩ : ByteArray) ((((List.length b) : Nat) : Int) - (((List.length rest) : Nat) : Int)))).2).1 = (((cutM d (⟨#[99, 104, 97, 105, 110]⟩ : ByteArray) ((((List.length b) : Nat) : Int) - (((List.length rest) : Nat) : Int)))).2).1) from rfl) (allQ_cons (show (((((cutM d (⟨#[99, 104, 97, 105, 110]⟩ : ByteArray) ((((List.length b) : Nat) : Int) - (((List.length rest) : Nat) : Int)))).2).2).1 = ((((cutM d (⟨#[99, 104, 97, 105, 110]⟩ : ByteArray) ((((List.length b) : Nat) : Int) - (((List.length rest) : Nat) : Int)))).2).2).1) from rfl) (allQ_cons (show ((((((cutM d (⟨#[99, 104, 97, 105, 110]⟩ : ByteArray) ((((List.length b) : Nat) : Int) - (((List.length rest) : Nat) : Int)))).2).2).2).1 = (((((cutM d (⟨#[99, 104, 97, 105, 110]⟩ : ByteArray) ((((List.length b) : Nat) : Int) - (((List.length rest) : Nat) : Int)))).2).2).2).1) from rfl) (allQ_cons (show (((((((cutM d (⟨#[99, 104, 97, 105, 110]⟩ : ByteArray) ((((List.length b) : Nat) : Int) - (((List.length rest) : Nat) : Int)))).2).2).2).2).1 = ((((((cutM d (⟨#[99, 104, 97, 105, 110]⟩ : ByteArray) ((((List.length b) : Nat) : Int) - (((List.length rest) : Nat) : Int)))).2).2).2).2).1) from rfl) (allQ_cons (show (((((((cutM d (⟨#[99, 104, 97, 105, 110]⟩ : ByteArray) ((((List.length b) : Nat) : Int) - (((List.length rest) : Nat) : Int)))).2).2).2).2).2 = ((((((cutM d (⟨#[99, 104, 97, 105, 110]⟩ : ByteArray) ((((List.length b) : Nat) : Int) - (((List.length rest) : Nat) : Int)))).2).2).2).2).2) from rfl) (allQ_cons h10 (allQ_cons (show ((5 : Nat) ≤ (9223372036854775807 : Nat)) from by decide) (allQ_cons h11 (allQ_cons (show ((((syncM ((cutM d (⟨#[99, 104, 97, 105, 110]⟩ : ByteArray) ((((List.length b) : Nat) : Int) - (((List.length rest) : Nat) : Int)))).2 (⟨#[99, 104, 97, 105, 110]⟩ : ByteArray))).2).1 = (((syncM ((cutM d (⟨#[99, 104, 97, 105, 110]⟩ : ByteArray) ((((List.length b) : Nat) : Int) - (((List.length rest) : Nat) : Int)))).2 (⟨#[99, 104, 97, 105, 110]⟩ : ByteArray))).2).1) from rfl) (allQ_cons (show (((((syncM ((cutM d (⟨#[99, 104, 97, 105, 110]⟩ : ByteArray) ((((List.length b) : Nat) : Int) - (((List.length rest) : Nat) : Int)))).2 (⟨#[99, 104, 97, 105, 110]⟩ : ByteArray))).2).2).1 = ((((syncM ((cutM d (⟨#[99, 104, 97, 105, 110]⟩ : ByteArray) ((((List.length b) : Nat) : Int) - (((List.length rest) : Nat) : Int)))).2 (⟨#[99, 104, 97, 105, 110]⟩ : ByteArray))).2).2).1) from rfl) (allQ_cons (show ((((((syncM ((cutM d (⟨#[99, 104, 97, 105, 110]⟩ : ByteArray) ((((List.length b) : Nat) : Int) - (((List.length rest) : Nat) : Int)))).2 (⟨#[99, 104, 97, 105, 110]⟩ : ByteArray))).2).2).2).1 = (((((syncM ((cutM d (⟨#[99, 104, 97, 105, 110]⟩ : ByteArray) ((((List.length b) : Nat) : Int) - (((List.length rest) : Nat) : Int)))).2 (⟨#[99, 104, 97, 105, 110]⟩ : ByteArray))).2).2).2).1) from rfl) (allQ_cons (show (((((((syncM ((cutM d (⟨#[99, 104, 97, 105, 110]⟩ : ByteArray) ((((List.length b) : Nat) : Int) - (((List.length rest) : Nat) : Int)))).2 (⟨#[99, 104, 97, 105, 110]⟩ : ByteArray))).2).2).2).2).1 = ((((((syncM ((cutM d (⟨#[99, 104, 97, 105, 110]⟩ : ByteArray) ((((List.length b) : Nat) : Int) - (((List.length rest) : Nat) : Int)))).2 (⟨#[99, 104, 97, 105, 110]⟩ : ByteArray))).2).2).2).2).1) from rfl) (allQ_cons (show (((((((syncM ((cutM d (⟨#[99, 104, 97, 105, 110]⟩ : ByteArray) ((((List.length b) : Nat) : Int) - (((List.length rest) : Nat) : Int)))).2 (⟨#[99, 104, 97, 105, 110]⟩ : ByteArray))).2).2).2).2).2 = ((((((syncM ((cutM d (⟨#[99, 104, 97, 105, 110]⟩ : ByteArray) ((((List.length b) : Nat) : Int) - (((List.length rest) : Nat) : Int)))).2 (⟨#[99, 104, 97, 105, 110]⟩ : ByteArray))).2).2).2).2).2) from rfl) (allQ_cons (show (false = false) from rfl) (allQ_cons (show (ls = ls) from rfl) (allQ_nil)))))))))))))))))))))))))))))))))))))))))))))))⟩
theorem op_syE0 (d : DkT) (b rest : List Int) (ls : List Rec) (e : Int)
 (h1 : (Okd d))
 (h2 : ((((readM d (⟨#[99, 104, 97, 105, 110]⟩ : ByteArray))).1 == (41 : Int)) = false))
 (h3 : ((((readM d (⟨#[99, 104, 97, 105, 110]⟩ : ByteArray))).1 != (0 : Int)) = false))
 (h4 : SumOK Tryd.prog DF (bodyN Tryd.f11 0) (loopL DF (opSn d b b []) (.exit 0) (opSn d b rest ls)))
 (h5 : (((readM d (⟨#[99, 104, 97, 105, 110]⟩ : ByteArray))).2 = b))
 (h6 : ((decide ((((List.length rest) : Nat) : Int) > (0 : Int))) = false))
 (h7 : (DkOK d))
 (h8 : ((((syncM d (⟨#[99, 104, 97, 105, 110]⟩ : ByteArray))).1 != (0 : Int)) = true))
 (h9 : (((syncM d (⟨#[99, 104, 97, 105, 110]⟩ : ByteArray))).1 = e)) :
 ∃ ps, runO Tryd.prog DF gOp 100 Tryd.f11 (dkBt d, [.one (.ref 0 0)]) [.is false, .is false, .loop (loopL DF (opSn d b b []) (.exit 0) (opSn d b rest ls)), .is false, .is true] (opE e) (dkBt (syncM d cN).2) = some ps ∧ AllQ ps := ⟨_, by kernel_rfl, allQ_cons (show ((⟨#[99, 104, 97, 105, 110]⟩ : ByteArray) = (⟨#[99, 104, 97, 105, 110]⟩ : ByteArray)) from rfl) (allQ_cons (show ((d).1 = (d).1) from rfl) (allQ_cons (show (((d).2).1 = ((d).2).1) from rfl) (allQ_cons (show ((((d).2).2).1 = (((d).2).2).1) from rfl) (allQ_cons (show (((((d).2).2).2).1 = ((((d).2).2).2).1) from rfl) (allQ_cons (show (((((d).2).2).2).2 = ((((d).2).2).2).2) from rfl) (allQ_cons h1 (allQ_cons (show ((5 : Nat) ≤ (9223372036854775807 : Nat)) from by decide) (allQ_cons h2 (allQ_cons h3 (allQ_cons h4 (allQ_cons h5 (allQ_cons h5 (allQ_cons (show ((d).1 = (d).1) from rfl) (allQ_cons (show (((d).2).1 = ((d).2).1) from rfl) (allQ_cons (show ((((d).2).2).1 = (((d).2).2).1) from rfl) (allQ_cons (show (((((d).2).2).2).1 = ((((d).2).2).2).1) from rfl) (allQ_cons (show (((((d).2).2).2).2 = ((((d).2).2).2).2) from rfl) (allQ_cons (show (([] : List (Rec)) = ([] : List (Rec))) from rfl) (allQ_cons h6 (allQ_cons (show ((⟨#[99, 104, 97, 105, 110]⟩ : ByteArray) = (⟨#[99, 104, 97, 105, 110]⟩ : ByteArray)) from rfl) (allQ_cons (show ((d).1 = (d).1) from rfl) (allQ_cons (show (((d).2).1 = ((d).2).1) from rfl) (allQ_cons (show ((((d).2).2).1 = (((d).2).2).1) from rfl) (allQ_cons (show (((((d).2).2).2).1 = ((((d).2).2).2).1) from rfl) (allQ_cons (show (((((d).2).2).2).2 = ((((d).2).2).2).2) from rfl) (allQ_cons h7 (allQ_cons (show ((5 : Nat) ≤ (9223372036854775807 : Nat)) from by decide) (allQ_cons h8 (allQ_cons h9 (allQ_cons (show ((((syncM d (⟨#[99, 104, 97, 105, 110]⟩ : ByteArray))).2).1 = (((syncM d (⟨#[99, 104, 97, 105, 110]⟩ : ByteArray))).2).1) from rfl) (allQ_cons (show (((((syncM d (⟨#[99, 104, 97, 105, 110]⟩ : ByteArray))).2).2).1 = ((((syncM d (⟨#[99, 104, 97, 105, 110]⟩ : ByteArray))).2).2).1) from rfl) (allQ_cons (show ((((((syncM d (⟨#[99, 104, 97, 105, 110]⟩ : ByteArray))).2).2).2).1 = (((((syncM d (⟨#[99, 104, 97, 105, 110]⟩ : ByteArray))).2).2).2).1) from rfl) (allQ_cons (show (((((((syncM d (⟨#[99, 104, 97, 105, 110]⟩ : ByteArray))).2).2).2).2).1 = ((((((syncM d (⟨#[99, 104, 97, 105, 110]⟩ : ByteArray))).2).2).2).2).1) from rfl) (allQ_cons (show (((((((syncM d (⟨#[99, 104, 97, 105, 110]⟩ : ByteArray))).2).2).2).2).2 = ((((((syncM d (⟨#[99, 104, 97, 105, 110]⟩ : ByteArray))).2).2).2).2).2) from rfl) (allQ_nil)))))))))))))))))))))))))))))))))))⟩
theorem op_ok0 (d : DkT) (b rest : List Int) (ls : List Rec) (e : Int)
 (h1 : (Okd d))
 (h2 : ((((readM d (⟨#[99, 104, 97, 105, 110]⟩ : ByteArray))).1 == (41 : Int)) = false))
 (h3 : ((((readM d (⟨#[99, 104, 97, 105, 110]⟩ : ByteArray))).1 != (0 : Int)) = false))
 (h4 : SumOK Tryd.prog DF (bodyN Tryd.f11 0) (loopL DF (opSn d b b []) (.exit 0) (opSn d b rest ls)))
 (h5 : (((readM d (⟨#[99, 104, 97, 105, 110]⟩ : ByteArray))).2 = b))
 (h6 : ((decide ((((List.length rest) : Nat) : Int) > (0 : Int))) = false))
 (h7 : (DkOK d))
 (h8 : ((((syncM d (⟨#[99, 104, 97, 105, 110]⟩ : ByteArray))).1 != (0 : Int)) = false)) :
 ∃ ps, runO Tryd.prog DF gOp 100 Tryd.f11 (dkBt d, [.one (.ref 0 0)]) [.is false, .is false, .loop (loopL DF (opSn d b b []) (.exit 0) (opSn d b rest ls)), .is false, .is false] opV (opOut (syncM d cN).2 ls) = some ps ∧ AllQ ps := ⟨_, by kernel_rfl, allQ_cons (show ((⟨#[99, 104, 97, 105, 110]⟩ : ByteArray) = (⟨#[99, 104, 97, 105, 110]⟩ : ByteArray)) from rfl) (allQ_cons (show ((d).1 = (d).1) from rfl) (allQ_cons (show (((d).2).1 = ((d).2).1) from rfl) (allQ_cons (show ((((d).2).2).1 = (((d).2).2).1) from rfl) (allQ_cons (show (((((d).2).2).2).1 = ((((d).2).2).2).1) from rfl) (allQ_cons (show (((((d).2).2).2).2 = ((((d).2).2).2).2) from rfl) (allQ_cons h1 (allQ_cons (show ((5 : Nat) ≤ (9223372036854775807 : Nat)) from by decide) (allQ_cons h2 (allQ_cons h3 (allQ_cons h4 (allQ_cons h5 (allQ_cons h5 (allQ_cons (show ((d).1 = (d).1) from rfl) (allQ_cons (show (((d).2).1 = ((d).2).1) from rfl) (allQ_cons (show ((((d).2).2).1 = (((d).2).2).1) from rfl) (allQ_cons (show (((((d).2).2).2).1 = ((((d).2).2).2).1) from rfl) (allQ_cons (show (((((d).2).2).2).2 = ((((d).2).2).2).2) from rfl) (allQ_cons (show (([] : List (Rec)) = ([] : List (Rec))) from rfl) (allQ_cons h6 (allQ_cons (show ((⟨#[99, 104, 97, 105, 110]⟩ : ByteArray) = (⟨#[99, 104, 97, 105, 110]⟩ : ByteArray)) from rfl) (allQ_cons (show ((d).1 = (d).1) from rfl) (allQ_cons (show (((d).2).1 = ((d).2).1) from rfl) (allQ_cons (show ((((d).2).2).1 = (((d).2).2).1) from rfl) (allQ_cons (show (((((d).2).2).2).1 = ((((d).2).2).2).1) from rfl) (allQ_cons (show (((((d).2).2).2).2 = ((((d).2).2).2).2) from rfl) (allQ_cons h7 (allQ_cons (show ((5 : Nat) ≤ (9223372036854775807 : Nat)) from by decide) (allQ_cons h8 (allQ_cons (show ((((syncM d (⟨#[99, 104, 97, 105, 110]⟩ : ByteArray))).2).1 = (((syncM d (⟨#[99, 104, 97, 105, 110]⟩ : ByteArray))).2).1) from rfl) (allQ_cons (show (((((syncM d (⟨#[99, 104, 97, 105, 110]⟩ : ByteArray))).2).2).1 = ((((syncM d (⟨#[99, 104, 97, 105, 110]⟩ : ByteArray))).2).2).1) from rfl) (allQ_cons (show ((((((syncM d (⟨#[99, 104, 97, 105, 110]⟩ : ByteArray))).2).2).2).1 = (((((syncM d (⟨#[99, 104, 97, 105, 110]⟩ : ByteArray))).2).2).2).1) from rfl) (allQ_cons (show (((((((syncM d (⟨#[99, 104, 97, 105, 110]⟩ : ByteArray))).2).2).2).2).1 = ((((((syncM d (⟨#[99, 104, 97, 105, 110]⟩ : ByteArray))).2).2).2).2).1) from rfl) (allQ_cons (show (((((((syncM d (⟨#[99, 104, 97, 105, 110]⟩ : ByteArray))).2).2).2).2).2 = ((((((syncM d (⟨#[99, 104, 97, 105, 110]⟩ : ByteArray))).2).2).2).2).2) from rfl) (allQ_cons (show (false = false) from rfl) (allQ_cons (show (ls = ls) from rfl) (allQ_nil))))))))))))))))))))))))))))))))))))⟩
end Go.Num
namespace Go.Num
open Go.Abs Go.Proofs Go.Shelf Go.RowKit
def opNx (t : List Int × List Rec) : Option (List Int × List Rec) :=
  if 112 ≤ t.1.length ∧ fitsB (t.1.take 112) ((t.2.length : Int) + 1) then some (t.1.drop 112, t.2 ++ [[.i ((t.2.length : Int) + 1), .w (sigB (t.1.take 112))]]) else none
def opGo (b : List Int) : List Int × List Rec := goOn opNx b.length (b, [])
def OpI (b : List Int) (t : List Int × List Rec) : Prop := 112 * t.2.length + t.1.length = b.length
theorem opNx_some {t u : List Int × List Rec} (h : opNx t = some u) : 112 ≤ t.1.length ∧ fitsB (t.1.take 112) ((t.2.length : Int) + 1) ∧ u = (t.1.drop 112, t.2 ++ [[.i ((t.2.length : Int) + 1), .w (sigB (t.1.take 112))]]) := by
  unfold opNx at h
  split at h
  · rename_i c
    exact ⟨c.1, c.2, (Option.some.inj h).symm⟩
  · cases h
theorem opI_next {b : List Int} {t u : List Int × List Rec} (h : OpI b t) (hn : opNx t = some u) : OpI b u := by
  obtain ⟨h1, _, rfl⟩ := opNx_some hn
  unfold OpI at h ⊢
  simp only [List.length_append, List.length_drop, List.length_cons, List.length_nil]
  omega
theorem opGo_inv (b : List Int) : OpI b (opGo b) := goOn_inv (inv := OpI b) (fun _ _ h hn => opI_next h hn) _ _ (by unfold OpI; simp)
theorem gOpL_ok {f : FuncId} {F : FnD DF} (h : FnOK Tryd.prog DF f F) : GamOK Tryd.prog DF ((f, .fn F) :: gOp) := gam_cons h (gam_freeze (gam_rd read_ok (gam_op cut_ok (gam_op sync_ok gam_nil))))
theorem gOp_ok : GamOK Tryd.prog DF gOp := gam_freeze (gam_rd read_ok (gam_op cut_ok (gam_op sync_ok gam_nil)))
theorem op_loop (d : DkT) {b : List Int} (hb : b.length ≤ 140737488355328) : SumOK Tryd.prog DF (bodyN Tryd.f11 0) (loopL DF (opSn d b b []) (.exit 0) (opSn d b (opGo b).1 (opGo b).2)) := by
  have h := sum_whileG (P := Tryd.prog) (D := DF) mixed (c := bodyN Tryd.f11 0) (fun t => opSn d b t.1 t.2) opNx (OpI b) (fun t => t.1.length) (e := .exit 0) (s := opSn d b (opGo b).1 (opGo b).2) rfl (b, []) (by unfold OpI; simp) ?_ ?_
  · exact h
  · rintro ⟨rest, ls⟩ y hi hn
    have hi' := opI_next hi hn
    obtain ⟨h1, h2, rfl⟩ := opNx_some hn
    have hi2 : 112 * ls.length + rest.length = b.length := hi
    simp only at h1 h2
    have ht : (rest.take 112).length = 112 := by rw [List.length_take]; omega
    refine ⟨hi', ?_, gOpO, 100, 100, [.is true], ?_⟩
    · show (rest.drop 112).length < rest.length
      rw [List.length_drop]; omega
    obtain ⟨ps, p1, p2⟩ := op_step d b rest (rest.drop 112) ls _ (decide_eq_true (by omega)) (by omega) ⟨by omega, by omega⟩ (Nat.le_of_eq (by rw [List.drop_zero, ht])) (by rw [List.drop_zero, ht]; decide) (by rw [List.drop_zero]; exact h2) (by omega) (by omega) (Int.le_refl _)
      (by rw [Int.toNat_natCast, List.take_length]) (by rw [List.drop_zero])
    exact ⟨ps, gOpL_ok readOk_ok, p1, p2⟩
  · rintro ⟨rest, ls⟩ hi hn hz
    have hi2 : 112 * ls.length + rest.length = b.length := hi
    have hz' : opGo b = (rest, ls) := hz.symm
    rw [hz']
    by_cases c : 112 ≤ rest.length
    · have hf : ¬ fitsB (rest.take 112) ((ls.length : Int) + 1) := fun h => by
        unfold opNx at hn
        rw [if_pos ⟨c, h⟩] at hn
        cases hn
      have ht : (rest.take 112).length = 112 := by rw [List.length_take]; omega
      obtain ⟨ps, p1, p2⟩ := op_stop d b rest ls (decide_eq_true (by omega)) (by omega) ⟨by omega, by omega⟩ (Nat.le_of_eq (by rw [List.drop_zero, ht])) (by rw [List.drop_zero, ht]; decide) (by rw [List.drop_zero]; exact hf)
      exact ⟨gOpN, 100, 100, _, ps, gOpL_ok readNo_ok, p1, p2⟩
    · obtain ⟨ps, p1, p2⟩ := op_exit d b rest ls (decide_eq_false (by omega))
      exact ⟨gOpO, 100, 100, _, ps, gOpL_ok readOk_ok, p1, p2⟩
def openM (d : DkT) : Int × List Rec × DkT :=
  if (readM d cN).1 = 41 then (0, [], d)
  else if (readM d cN).1 ≠ 0 then ((readM d cN).1, [], d)
  else if 0 < (opGo (readM d cN).2).1.length then
    (if (cutM d cN (((readM d cN).2.length : Int) - ((opGo (readM d cN).2).1.length : Int))).1 ≠ 0 then ((cutM d cN (((readM d cN).2.length : Int) - ((opGo (readM d cN).2).1.length : Int))).1, [], (cutM d cN (((readM d cN).2.length : Int) - ((opGo (readM d cN).2).1.length : Int))).2)
     else ((syncM (cutM d cN (((readM d cN).2.length : Int) - ((opGo (readM d cN).2).1.length : Int))).2 cN).1, (opGo (readM d cN).2).2, (syncM (cutM d cN (((readM d cN).2.length : Int) - ((opGo (readM d cN).2).1.length : Int))).2 cN).2))
  else ((syncM d cN).1, (opGo (readM d cN).2).2, (syncM d cN).2)
theorem open_nxt {d : DkT} {m : Int} (h : OkN d m) : OkN (openM d).2.2 (m + 2) := by
  have h0 := h.le (m' := m + 2) (by omega)
  have hc := h.nxt (cut_nxt h.1 cN (((readM d cN).2.length : Int) - ((opGo (readM d cN).2).1.length : Int)))
  have hcs := hc.nxt (sync_nxt hc.1 cN)
  have hs := h.nxt (sync_nxt h.1 cN)
  unfold openM
  split
  · exact h0
  split
  · exact h0
  split
  · split
    · exact hc.le (by omega)
    · exact hcs.le (by omega)
  · exact hs.le (by omega)
def opRd (bs : List (BoxSt DF.τ)) (xs : List (A0 DF.τ)) : Option DkT :=
  match xs with
  | [.one (.ref 0 0)] => dkRd bs
  | _ => none
noncomputable def openOkQ := mkF DF Tryd.f11.ntmps opRd (fun d => (dkBt d, [.one (.ref 0 0)])) (fun d => some (opV, opOut (openM d).2.2 (openM d).2.1, [OkN d 4611686018427387000, (openM d).1 = 0]))
noncomputable def openBadQ := mkF DF Tryd.f11.ntmps opRd (fun d => (dkBt d, [.one (.ref 0 0)])) (fun d => some (opE (openM d).1, dkBt (openM d).2.2, [OkN d 4611686018427387000, (openM d).1 ≠ 0]))
theorem read_len {d : DkT} (h : Okd d) (s : ByteArray) : (readM d s).2.length ≤ 140737488355328 := by
  unfold readM
  split
  · exact Nat.zero_le _
  · exact (h.esd.ob [Fd.s s]).2.2
theorem ne_bne {a b : Int} (h : ¬ a ≠ b) : (a != b) = false := Bool.eq_false_iff.2 (fun k => h (bne_iff_ne.1 k))
theorem openOk_ok : OpOK Tryd.prog DF 11 openOkQ := by
  refine opOK_mk gOp_ok mixed Tryd.func11 (enters_of Tryd.func11 (by kernel_rfl) rfl) ?_
  rintro d r' bs' ps h hps
  simp only [Option.some.injEq, Prod.mk.injEq] at h
  obtain ⟨rfl, rfl, rfl⟩ := h
  have h0 : OkN d 4611686018427387000 := hps (OkN _ _) (by simp)
  have he : (openM d).1 = 0 := hps (_ = 0) (by simp)
  have hl := read_len h0.1 cN
  have hi := opGo_inv (readM d cN).2
  have hL := op_loop d hl
  have hc := h0.nxt (cut_nxt h0.1 cN (((readM d cN).2.length : Int) - ((opGo (readM d cN).2).1.length : Int)))
  unfold openM at he ⊢
  unfold OpI at hi
  by_cases c1 : (readM d cN).1 = 41
  · rw [if_pos c1]
    exact ⟨_, _, op_gone d h0.1 (beq_iff_eq.2 c1)⟩
  rw [if_neg c1] at he ⊢
  by_cases c2 : (readM d cN).1 ≠ 0
  · rw [if_pos c2] at he; exact absurd he c2
  rw [if_neg c2] at he ⊢
  by_cases c3 : 0 < (opGo (readM d cN).2).1.length
  · rw [if_pos c3] at he ⊢
    by_cases c4 : (cutM d cN (((readM d cN).2.length : Int) - ((opGo (readM d cN).2).1.length : Int))).1 ≠ 0
    · rw [if_pos c4] at he; exact absurd he c4
    rw [if_neg c4] at he ⊢
    exact ⟨_, _, op_ok d (readM d cN).2 (opGo (readM d cN).2).1 (opGo (readM d cN).2).2 0 h0.1 (beq_false_of_ne c1) (ne_bne c2) hL rfl (decide_eq_true (by omega)) ⟨by omega, by omega⟩ (h0.dk (by decide)) (ne_bne c4) (hc.dk (by decide)) (ne_bne (fun h => h he))⟩
  · rw [if_neg c3] at he ⊢
    exact ⟨_, _, op_ok0 d (readM d cN).2 (opGo (readM d cN).2).1 (opGo (readM d cN).2).2 0 h0.1 (beq_false_of_ne c1) (ne_bne c2) hL rfl (decide_eq_false (by omega)) (h0.dk (by decide)) (ne_bne (fun h => h he))⟩
theorem openBad_ok : OpOK Tryd.prog DF 11 openBadQ := by
  refine opOK_mk gOp_ok mixed Tryd.func11 (enters_of Tryd.func11 (by kernel_rfl) rfl) ?_
  rintro d r' bs' ps h hps
  simp only [Option.some.injEq, Prod.mk.injEq] at h
  obtain ⟨rfl, rfl, rfl⟩ := h
  have h0 : OkN d 4611686018427387000 := hps (OkN _ _) (by simp)
  have he : (openM d).1 ≠ 0 := hps (_ ≠ 0) (by simp)
  have hl := read_len h0.1 cN
  have hi := opGo_inv (readM d cN).2
  have hL := op_loop d hl
  have hc := h0.nxt (cut_nxt h0.1 cN (((readM d cN).2.length : Int) - ((opGo (readM d cN).2).1.length : Int)))
  unfold openM at he ⊢
  unfold OpI at hi
  by_cases c1 : (readM d cN).1 = 41
  · rw [if_pos c1] at he; exact absurd rfl he
  rw [if_neg c1] at he ⊢
  by_cases c2 : (readM d cN).1 ≠ 0
  · rw [if_pos c2] at he ⊢
    exact ⟨_, _, op_err d _ h0.1 (beq_false_of_ne c1) (bne_iff_ne.2 c2) rfl⟩
  rw [if_neg c2] at he ⊢
  by_cases c3 : 0 < (opGo (readM d cN).2).1.length
  · rw [if_pos c3] at he ⊢
    by_cases c4 : (cutM d cN (((readM d cN).2.length : Int) - ((opGo (readM d cN).2).1.length : Int))).1 ≠ 0
    · rw [if_pos c4] at he ⊢
      exact ⟨_, _, op_cutE d (readM d cN).2 (opGo (readM d cN).2).1 (opGo (readM d cN).2).2 _ h0.1 (beq_false_of_ne c1) (ne_bne c2) hL rfl (decide_eq_true (by omega)) ⟨by omega, by omega⟩ (h0.dk (by decide)) (bne_iff_ne.2 c4) rfl⟩
    rw [if_neg c4] at he ⊢
    exact ⟨_, _, op_syE d (readM d cN).2 (opGo (readM d cN).2).1 (opGo (readM d cN).2).2 _ h0.1 (beq_false_of_ne c1) (ne_bne c2) hL rfl (decide_eq_true (by omega)) ⟨by omega, by omega⟩ (h0.dk (by decide)) (ne_bne c4) (hc.dk (by decide)) (bne_iff_ne.2 he) rfl⟩
  · rw [if_neg c3] at he ⊢
    exact ⟨_, _, op_syE0 d (readM d cN).2 (opGo (readM d cN).2).1 (opGo (readM d cN).2).2 _ h0.1 (beq_false_of_ne c1) (ne_bne c2) hL rfl (decide_eq_false (by omega)) (h0.dk (by decide)) (bne_iff_ne.2 he) rfl⟩
theorem opOK_if {P : Program} {D : Dom} {f : FuncId} {n : Nat} {θ : Type} {rd : List (BoxSt D.τ) → List (A0 D.τ) → Option θ} {pre : θ → List (BoxSt D.τ) × List (A0 D.τ)} {q1 q2 : θ → Option (AV D.τ × List (BoxSt D.τ) × List Prop)} (p : θ → Bool)
    (h1 : OpOK P D f (mkF D n rd pre q1)) (h2 : OpOK P D f (mkF D n rd pre q2)) : OpOK P D f (mkF D n rd pre (fun t => bif p t then q1 t else q2 t)) := by
  intro bs xs r bs' ps h
  have e : mkF D n rd pre (fun t => bif p t then q1 t else q2 t) bs xs = mkF D n rd pre q1 bs xs ∨ mkF D n rd pre (fun t => bif p t then q1 t else q2 t) bs xs = mkF D n rd pre q2 bs xs := by
    unfold mkF
    cases hr : rd bs xs with
    | none => exact .inl rfl
    | some t =>
      cases hp : p t
      · right; simp only [hp, cond_false]
      · left; simp only [hp, cond_true]
  rcases e with e | e
  · exact h1 bs xs r bs' ps (e ▸ h)
  · exact h2 bs xs r bs' ps (e ▸ h)
def appOkP (t : ChT × Int × List Int) : Option (AV DF.τ × List (BoxSt DF.τ) × List Prop) := some (eV 0, chN (chAppM t.1 t.2.1 t.2.2).2.1 (chAppM t.1 t.2.1 t.2.2).2.2.1 (chAppM t.1 t.2.1 t.2.2).2.2.2, [ChOK t.1, t.2.2.length = 96, (chAppM t.1 t.2.1 t.2.2).1 = 0])
def appNoP (t : ChT × Int × List Int) : Option (AV DF.τ × List (BoxSt DF.τ) × List Prop) := some (eV (chAppM t.1 t.2.1 t.2.2).1, chB t.1.1 (chAppM t.1 t.2.1 t.2.2).2.2.1 (chAppM t.1 t.2.1 t.2.2).2.2.2, [ChOK t.1, t.2.2.length = 96, (chAppM t.1 t.2.1 t.2.2).1 ≠ 0])
noncomputable def appHQ := mkF DF Tryd.f18.ntmps caRd caPre (fun t => bif decide (t.2.1 = 1) then appOkP t else appNoP t)
theorem appH_ok : OpOK Tryd.prog DF 18 appHQ := opOK_if (fun (t : ChT × Int × List Int) => decide (t.2.1 = 1)) appOk_ok appNo_ok
noncomputable def gCh : Gam DF := [(16, .op [false] newQ), (11, .op [true] openOkQ), (18, .op [true, false] appHQ), (13, .rd [true] lastR), (24, .rd [true, false] readR), (26, .rd [true] freeR)]
theorem gCh_ok : GamOK Tryd.prog DF gCh := gam_op new_ok (gam_op openOk_ok (gam_op appH_ok (gam_rd last_ok (gam_rd read_ok (gam_rd freeR_ok gam_nil)))))
abbrev ch_run_x1  := ([(0 : Int), (0 : Int), (0 : Int), (0 : Int), (0 : Int), (0 : Int), (0 : Int), (0 : Int), (0 : Int), (0 : Int), (0 : Int), (0 : Int), (0 : Int), (0 : Int), (0 : Int), (0 : Int), (0 : Int), (0 : Int), (0 : Int), (0 : Int), (0 : Int), (0 : Int), (0 : Int), (0 : Int), (0 : Int), (0 : Int), (0 : Int), (0 : Int), (0 : Int), (0 : Int), (0 : Int), (0 : Int), (0 : Int), (0 : Int), (0 : Int), (0 : Int), (0 : Int), (0 : Int), (0 : Int), (0 : Int), (0 : Int), (0 : Int), (0 : Int), (0 : Int), (0 : Int), (0 : Int), (0 : Int), (0 : Int), (0 : Int), (0 : Int), (0 : Int), (0 : Int), (0 : Int), (0 : Int), (0 : Int), (0 : Int), (0 : Int), (0 : Int), (0 : Int), (0 : Int), (0 : Int), (0 : Int), (0 : Int), (0 : Int), (0 : Int), (0 : Int), (0 : Int), (0 : Int), (0 : Int), (0 : Int), (0 : Int), (0 : Int), (0 : Int), (0 : Int), (0 : Int), (0 : Int), (0 : Int), (0 : Int), (0 : Int), (0 : Int), (0 : Int), (0 : Int), (0 : Int), (0 : Int), (0 : Int), (0 : Int), (0 : Int), (0 : Int), (0 : Int), (0 : Int), (0 : Int), (0 : Int), (0 : Int), (0 : Int), (0 : Int), (0 : Int)] : List Int)
abbrev ch_run_x2  := (((openM ((clampR (1000 : Int)), ((0 : Int), ((0 : Int), (false, ([] : List (Rec × Ob)))))))).2)
abbrev ch_run_x3  := (chAppM ((ch_run_x2 ).1, (((chAppM ((ch_run_x2 ).1, (false, (ch_run_x2 ).2)) (2 : Int) (ch_run_x1 ))).2).2) (1 : Int) (ch_run_x1 ))
abbrev ch_run_x4  := (chAppM ((ch_run_x2 ).1, (false, (ch_run_x2 ).2)) (2 : Int) (ch_run_x1 ))
theorem ch_run
 (h1 : (OkN ((clampR (1000 : Int)), ((0 : Int), ((0 : Int), (false, ([] : List (Rec × Ob)))))) (4611686018427387000 : Int)))
 (h2 : (((openM ((clampR (1000 : Int)), ((0 : Int), ((0 : Int), (false, ([] : List (Rec × Ob)))))))).1 = (0 : Int)))
 (h3 : (((((List.length (ch_run_x2 ).1) : Nat) : Int) != (0 : Int)) = false))
 (h4 : (ChOK ((ch_run_x2 ).1, (false, (ch_run_x2 ).2))))
 (h5 : ((ch_run_x4 ).1 ≠ (0 : Int)))
 (h6 : (((ch_run_x4 ).1 != (45 : Int)) = false))
 (h7 : (ChOK ((ch_run_x2 ).1, ((ch_run_x4 ).2).2)))
 (h8 : ((ch_run_x3 ).1 = (0 : Int)))
 (h9 : (Okd (((ch_run_x3 ).2).2).2))
 (h10 : (((((List.length ((readM (((ch_run_x3 ).2).2).2 (⟨#[99, 104, 97, 105, 110]⟩ : ByteArray))).2) : Nat) : Int) == (112 : Int)) = true))
 (h11 : (((((List.length ((ch_run_x3 ).2).1) : Nat) : Int) == (1 : Int)) = true))
 (h12 : (FreeOK (Option.none) (((((((ch_run_x3 ).2).2).2).2).2).2).2 ((((ch_run_x3 ).2).2).2).1))
 (h13 : (((((((ch_run_x3 ).2).2).2).1 - (safeSum (Option.none) (((((((ch_run_x3 ).2).2).2).2).2).2).2)) == (888 : Int)) = true)) :
 ∃ ps, runF Tryd.prog DF gCh 100 Tryd.f8 [] [.is false, .is false, .is false, .is true, .is true, .is true] = some ((AV.v (A0.one (Part.bool true true))), ps) ∧ AllQ ps := ⟨_, by kernel_rfl, allQ_cons (show ((1000 : Int) = (1000 : Int)) from rfl) (allQ_cons (show ((clampR (1000 : Int)) = (clampR (1000 : Int))) from rfl) (allQ_cons (show ((0 : Int) = (0 : Int)) from rfl) (allQ_cons (show ((0 : Int) = (0 : Int)) from rfl) (allQ_cons (show (false = false) from rfl) (allQ_cons (show (([] : List (Rec × Ob)) = ([] : List (Rec × Ob))) from rfl) (allQ_cons h1 (allQ_cons h2 (allQ_cons (show (false = false) from rfl) (allQ_cons (show (((ch_run_x2 ).2).1 = ((ch_run_x2 ).2).1) from rfl) (allQ_cons (show ((((ch_run_x2 ).2).2).1 = (((ch_run_x2 ).2).2).1) from rfl) (allQ_cons (show (((((ch_run_x2 ).2).2).2).1 = ((((ch_run_x2 ).2).2).2).1) from rfl) (allQ_cons (show ((((((ch_run_x2 ).2).2).2).2).1 = (((((ch_run_x2 ).2).2).2).2).1) from rfl) (allQ_cons (show ((ch_run_x2 ).1 = (ch_run_x2 ).1) from rfl) (allQ_cons (show ((((((ch_run_x2 ).2).2).2).2).2 = (((((ch_run_x2 ).2).2).2).2).2) from rfl) (allQ_cons h3 (allQ_cons (show ((2 : Int) = (2 : Int)) from rfl) (allQ_cons (show ((ch_run_x1 ) = (ch_run_x1 )) from rfl) (allQ_cons (show (false = false) from rfl) (allQ_cons (show (((ch_run_x2 ).2).1 = ((ch_run_x2 ).2).1) from rfl) (allQ_cons (show ((((ch_run_x2 ).2).2).1 = (((ch_run_x2 ).2).2).1) from rfl) (allQ_cons (show (((((ch_run_x2 ).2).2).2).1 = ((((ch_run_x2 ).2).2).2).1) from rfl) (allQ_cons (show ((((((ch_run_x2 ).2).2).2).2).1 = (((((ch_run_x2 ).2).2).2).2).1) from rfl) (allQ_cons (show ((ch_run_x2 ).1 = (ch_run_x2 ).1) from rfl) (allQ_cons (show ((((((ch_run_x2 ).2).2).2).2).2 = (((((ch_run_x2 ).2).2).2).2).2) from rfl) (allQ_cons h4 (allQ_cons (show ((96 : Nat) = (96 : Nat)) from by decide) (allQ_cons h5 (allQ_cons h6 (allQ_cons (show ((1 : Int) = (1 : Int)) from rfl) (allQ_cons (show ((ch_run_x1 ) = (ch_run_x1 )) from rfl) (allQ_cons (show ((((ch_run_x4 ).2).2).1 = (((ch_run_x4 ).2).2).1) from rfl) (allQ_cons (show (((((ch_run_x4 ).2).2).2).1 = ((((ch_run_x4 ).2).2).2).1) from rfl) (allQ_cons (show ((((((ch_run_x4 ).2).2).2).2).1 = (((((ch_run_x4 ).2).2).2).2).1) from rfl) (allQ_cons (show (((((((ch_run_x4 ).2).2).2).2).2).1 = ((((((ch_run_x4 ).2).2).2).2).2).1) from rfl) (allQ_cons (show ((((((((ch_run_x4 ).2).2).2).2).2).2).1 = (((((((ch_run_x4 ).2).2).2).2).2).2).1) from rfl) (allQ_cons (show ((ch_run_x2 ).1 = (ch_run_x2 ).1) from rfl) (allQ_cons (show ((((((((ch_run_x4 ).2).2).2).2).2).2).2 = (((((((ch_run_x4 ).2).2).2).2).2).2).2) from rfl) (allQ_cons h7 (allQ_cons (show ((96 : Nat) = (96 : Nat)) from by decide) (allQ_cons h8 (allQ_cons (show (((0 : Int) != (0 : Int)) = false) from by decide) (allQ_cons (show ((⟨#[99, 104, 97, 105, 110]⟩ : ByteArray) = (⟨#[99, 104, 97, 105, 110]⟩ : ByteArray)) from rfl) (allQ_cons (show (((((ch_run_x3 ).2).2).2).1 = ((((ch_run_x3 ).2).2).2).1) from rfl) (allQ_cons (show ((((((ch_run_x3 ).2).2).2).2).1 = (((((ch_run_x3 ).2).2).2).2).1) from rfl) (allQ_cons (show (((((((ch_run_x3 ).2).2).2).2).2).1 = ((((((ch_run_x3 ).2).2).2).2).2).1) from rfl) (allQ_cons (show ((((((((ch_run_x3 ).2).2).2).2).2).2).1 = (((((((ch_run_x3 ).2).2).2).2).2).2).1) from rfl) (allQ_cons (show ((((((((ch_run_x3 ).2).2).2).2).2).2).2 = (((((((ch_run_x3 ).2).2).2).2).2).2).2) from rfl) (allQ_cons h9 (allQ_cons (show ((5 : Nat) ≤ (9223372036854775807 : Nat)) from by decide) (allQ_cons h10 (allQ_cons (show ((((ch_run_x3 ).2).2).1 = (((ch_run_x3 ).2).2).1) from rfl) (allQ_cons (show (((((ch_run_x3 ).2).2).2).1 = ((((ch_run_x3 ).2).2).2).1) from rfl) (allQ_cons (show ((((((ch_run_x3 ).2).2).2).2).1 = (((((ch_run_x3 ).2).2).2).2).1) from rfl) (allQ_cons (show (((((((ch_run_x3 ).2).2).2).2).2).1 = ((((((ch_run_x3 ).2).2).2).2).2).1) from rfl) (allQ_cons (show ((((((((ch_run_x3 ).2).2).2).2).2).2).1 = (((((((ch_run_x3 ).2).2).2).2).2).2).1) from rfl) (allQ_cons (show (((ch_run_x3 ).2).1 = ((ch_run_x3 ).2).1) from rfl) (allQ_cons (show ((((((((ch_run_x3 ).2).2).2).2).2).2).2 = (((((((ch_run_x3 ).2).2).2).2).2).2).2) from rfl) (allQ_cons h11 (allQ_cons h12 (allQ_cons h13 (allQ_nil)))))))))))))))))))))))))))))))))))))))))))))))))))))))))))))⟩
end Go.Num
namespace Go.Num
open Go.Abs Go.Proofs Go.Shelf Go.RowKit
theorem right_c : rightB cN = true := by kernel_rfl
theorem open_nil (ro st fu : Int) : openM (ro, st, fu, false, []) = (0, [], (ro, st, fu, false, [])) := by
  have he : DkT.err (ro, st, fu, false, []) cN = 41 := err_nil right_c
  unfold openM
  rw [if_pos]
  unfold readM
  rw [if_pos (by rw [he]; decide), he]
def Only (es : List (Rec × Ob)) (l : List Int) : Prop := (es = [] ∧ l = []) ∨ es = one cN l l.length
theorem app_only {ro st fu : Int} {es : List (Rec × Ob)} {l b : List Int} (h : Only es l) (hl : l.length + b.length ≤ 4194304) :
    appendM (ro, st, fu, false, es) cN b = (if stV fu = true then 0 else 2, (ro, stSt fu st, stFu fu, stDn fu false, one cN (l ++ b) l.length)) := by
  rcases h with ⟨rfl, rfl⟩ | rfl
  · exact app_nil right_c (by simpa using hl)
  · exact app_one right_c hl
theorem put_only0 {ro st : Int} {es : List (Rec × Ob)} {l b : List Int} {k : Nat} (h : Only es l) (hl : l.length + b.length ≤ 4194304) (hr : ((l ++ b).length : Int) ≤ ro) :
    putM (ro, st, 0, false, es) b k = (0, (ro, st + 2, 0, false, one cN (l ++ b) (l ++ b).length)) := by
  unfold putM
  rw [app_only h hl, if_pos (show stV 0 = true from rfl), if_neg (show ¬ (0 : Int) ≠ 0 by decide)]
  simp only
  rw [show stDn 0 false = false from rfl, show stFu 0 = 0 from rfl, sync_one right_c hr, if_pos (show stV 0 = true from rfl), if_neg (show ¬ (0 : Int) = 42 by decide)]
  have : stSt 0 (stSt 0 st) = st + 2 := by show st + 1 + 1 = st + 2; omega
  rw [this]
  rfl
theorem chApp_next {ls : List Rec} {d d' : DkT} {s : List Int} {e : Int} (h : putM d (frameL ((ls.length : Int) + 1) s) ls.length = (e, d')) :
    chAppM (ls, false, d) ((ls.length : Int) + 1) s = (e, (if e = 0 then ls ++ [[.i ((ls.length : Int) + 1), .w s]] else ls, decide (e = 2), d')) := by
  unfold chAppM
  simp only
  rw [if_neg (show ¬ false = true by decide), if_neg (fun h => h rfl), h]
def headCD : FnD DF
  | [] => some (.v (.one (.bool true true)), [])
  | _ => none
theorem chead_ok : FnOK Tryd.prog DF 8 headCD := by
  refine fnOK_of gCh_ok mixed Tryd.func8 (enters_of Tryd.func8 (by kernel_rfl) rfl) ?_
  intro xs r ps h hps
  unfold headCD at h
  split at h
  · cases h
    have hcl : clampR 1000 = 1000 := by decide
    have o0 : OkN (clampR 1000, 0, 0, false, []) 0 := ⟨okd_new 1000, Int.le_refl _⟩
    have e2 : openM (clampR 1000, 0, 0, false, []) = (0, [], (clampR 1000, 0, 0, false, [])) := open_nil _ _ _
    have hf : (frameL 1 ch_run_x1).length = 112 := frameL_len rfl
    have hp : putM (clampR 1000, 0, 0, false, []) (frameL 1 ch_run_x1) 0 = (0, (1000, 2, 0, false, one cN (frameL 1 ch_run_x1) 112)) := by
      have := put_only0 (ro := 1000) (st := 0) (es := []) (l := []) (b := frameL 1 ch_run_x1) (k := 0) (.inl ⟨rfl, rfl⟩) (by rw [hf]; decide) (by rw [List.nil_append, hf]; decide)
      rw [List.nil_append, hf] at this
      rw [hcl]
      exact this
    have e4u : chAppM (ch_run_x2.1, false, ch_run_x2.2) 2 ch_run_x1 = (45, ([], false, (clampR 1000, 0, 0, false, []))) := by
      unfold ch_run_x2
      rw [e2]
      rfl
    have e4 : ch_run_x4 = (45, ([], false, (clampR 1000, 0, 0, false, []))) := e4u
    have e3 : ch_run_x3 = (0, ([[.i 1, .w ch_run_x1]], false, (1000, 2, 0, false, one cN (frameL 1 ch_run_x1) 112))) := by
      unfold ch_run_x3
      rw [e4u]
      unfold ch_run_x2
      rw [e2]
      exact chApp_next (ls := []) (s := ch_run_x1) hp
    have h4 : ChOK (([] : List Rec), false, (clampR 1000, 0, 0, false, [])) := ⟨o0.le (by decide), by decide⟩
    have hok : OkN (1000, 2, 0, false, one cN (frameL 1 ch_run_x1) 112) 3 := by
      have := put_nxt o0 (frameL 1 ch_run_x1) 0
      rw [hp] at this
      exact this
    have hr := read_one (ro := 1000) (st := 2) (fu := 0) (n := 112) (l := frameL 1 ch_run_x1) right_c
    obtain ⟨ps, p1, p2⟩ := ch_run (o0.le (by decide)) (by rw [e2]) (by unfold ch_run_x2; rw [e2]; rfl) (by unfold ch_run_x2; rw [e2]; exact h4) (by rw [e4]; decide) (by rw [e4]; rfl) (by rw [e4]; unfold ch_run_x2; rw [e2]; exact h4) (by rw [e3])
      (by rw [e3]; exact hok.1) (by rw [e3]; show ((((readM _ cN).2.length : Nat) : Int) == 112) = true; rw [hr]; show (((frameL 1 ch_run_x1).length : Nat) : Int) == 112; rw [hf]; rfl) (by rw [e3]; rfl) (by rw [e3]; exact hok.1.freeN) (by rw [e3]; show (1000 - safeSum none (one cN _ 112) == (888 : Int)) = true; rw [safe_one]; rfl)
    exact ⟨_, 100, _, _, _, fun w vs h => h, p1, p2, fun E v hv => hv⟩
  · cases h
end Go.Num
namespace Go.Num
open Go.Abs Go.Proofs Go.Shelf Go.RowKit
noncomputable def gTwB : Gam DF := [(freezeId, .fn (freezeD DF [20])), (8, .fn headCD), (10, .rd [false] copy17R), (9, .op [false, false] mountBadQ)]
noncomputable def gTwO (Q : List (BoxSt DF.τ) → List (A0 DF.τ) → Option (AV DF.τ × List (BoxSt DF.τ) × List Prop)) : Gam DF := [(freezeId, .fn (freezeD DF [20])), (8, .fn headCD), (10, .rd [false] copy17R), (9, .op [false, false] mountOkQ), (11, .op [true] Q),
  (12, .rd [true] imageR), (13, .rd [true] lastR), (14, .fn same17D), (15, .rd [true, false] getOkR)]
noncomputable def gTw := gTwO openOkQ
noncomputable def gTwE := gTwO openBadQ
def twSn (ls l2 : List Rec) (d : DkT) (i : Int) : Sn DF.τ where
  slots := [(7, .v (.one (.ref 0 0))), (9, .v (.one (.ref 4 0))), (10, .v (.one (.int .i64 false i)))]
  boxes := enumB 0 (chB ls false d ++ [.fixed 71 [.ref 1 0, .own 5, .bool false false], .dyn 37 (.lrs lkSh l2)])
  nt := 81
def twEd : Sn DF.τ where
  slots := []
  boxes := []
  nt := 81
theorem tw_bad (ro : Int) (x : List Rec)
 (h1 : (RowsOK x))
 (h2 : (FilesOK (List.map (canonR) x)))
 (h3 : ((mountE ro (List.map (canonR) x)) ≠ (0 : Int)))
 (h4 : (((mountE ro (List.map (canonR) x)) != (0 : Int)) = true)) :
 ∃ ps, runF Tryd.prog DF gTwB 100 Tryd.f3 [.one (.int .i64 false ro), .one (.prs fSh x)] [.is true] = some ((AV.v (A0.one (Part.bool true true))), ps) ∧ AllQ ps := ⟨_, by kernel_rfl, allQ_cons (show (x = x) from rfl) (allQ_cons h1 (allQ_cons (show (ro = ro) from rfl) (allQ_cons (show ((List.map (canonR) x) = (List.map (canonR) x)) from rfl) (allQ_cons h2 (allQ_cons h3 (allQ_cons h4 (allQ_nil)))))))⟩
theorem tw_err (ro : Int) (x : List Rec)
 (h1 : (RowsOK x))
 (h2 : (FilesOK (List.map (canonR) x)))
 (h3 : ((mountE ro (List.map (canonR) x)) = (0 : Int)))
 (h4 : (OkN (mountM ro (List.map (canonR) x)) (4611686018427387000 : Int)))
 (h5 : (((openM (mountM ro (List.map (canonR) x)))).1 ≠ (0 : Int)))
 (h6 : ((((openM (mountM ro (List.map (canonR) x)))).1 != (0 : Int)) = true)) :
 ∃ ps, runF Tryd.prog DF gTwE 100 Tryd.f3 [.one (.int .i64 false ro), .one (.prs fSh x)] [.is true] = some ((AV.v (A0.one (Part.bool true true))), ps) ∧ AllQ ps := ⟨_, by kernel_rfl, allQ_cons (show (x = x) from rfl) (allQ_cons h1 (allQ_cons (show (ro = ro) from rfl) (allQ_cons (show ((List.map (canonR) x) = (List.map (canonR) x)) from rfl) (allQ_cons h2 (allQ_cons h3 (allQ_cons (show (((mountM ro (List.map (canonR) x))).1 = ((mountM ro (List.map (canonR) x))).1) from rfl) (allQ_cons (show ((((mountM ro (List.map (canonR) x))).2).1 = (((mountM ro (List.map (canonR) x))).2).1) from rfl) (allQ_cons (show (((((mountM ro (List.map (canonR) x))).2).2).1 = ((((mountM ro (List.map (canonR) x))).2).2).1) from rfl) (allQ_cons (show ((((((mountM ro (List.map (canonR) x))).2).2).2).1 = (((((mountM ro (List.map (canonR) x))).2).2).2).1) from rfl) (allQ_cons (show ((((((mountM ro (List.map (canonR) x))).2).2).2).2 = (((((mountM ro (List.map (canonR) x))).2).2).2).2) from rfl) (allQ_cons h4 (allQ_cons h5 (allQ_cons h6 (allQ_nil))))))))))))))⟩
theorem tw_step (ls l2 : List Rec) (d : DkT) (i : Int)
 (h1 : ((decide (i ≤ (((List.length ls) : Nat) : Int))) = true))
 (h2 : ((1 : Int) ≤ i))
 (h3 : (i ≤ (((List.length ls) : Nat) : Int)))
 (h4 : (i ≤ (9223372036854775807 : Int)))
 (h5 : (i ≤ (((List.length l2) : Nat) : Int)))
 (h6 : ((!(((recI (List.getD ls (Int.toNat (i - (1 : Int))) ([] : List (Abs.Fd))) (0 : Nat)) == (recI (List.getD l2 (Int.toNat (i - (1 : Int))) ([] : List (Abs.Fd))) (0 : Nat))) && ((decide ((recW (List.getD ls (Int.toNat (i - (1 : Int))) ([] : List (Abs.Fd))) (1 : Nat)) = (recW (List.getD l2 (Int.toNat (i - (1 : Int))) ([] : List (Abs.Fd))) (1 : Nat)))) && true))) = false))
 (h7 : (EqT Tryd.prog (37 : Nat)))
 (h8 : (InI64 (i + (1 : Int)))) :
 ∃ ps, stepPs Tryd.prog DF gTw 100 (bodyN Tryd.f3 0) 100 (twSn ls l2 d i).st [.is true, .is false] .normal (twSn ls l2 d (i + 1)) = some ps ∧ AllQ ps := ⟨_, by kernel_rfl, allQ_cons (show (false = false) from rfl) (allQ_cons (show ((d).1 = (d).1) from rfl) (allQ_cons (show (((d).2).1 = ((d).2).1) from rfl) (allQ_cons (show ((((d).2).2).1 = (((d).2).2).1) from rfl) (allQ_cons (show (((((d).2).2).2).1 = ((((d).2).2).2).1) from rfl) (allQ_cons (show (ls = ls) from rfl) (allQ_cons (show (((((d).2).2).2).2 = ((((d).2).2).2).2) from rfl) (allQ_cons h1 (allQ_cons (show (i = i) from rfl) (allQ_cons (show (false = false) from rfl) (allQ_cons (show ((d).1 = (d).1) from rfl) (allQ_cons (show (((d).2).1 = ((d).2).1) from rfl) (allQ_cons (show ((((d).2).2).1 = (((d).2).2).1) from rfl) (allQ_cons (show (((((d).2).2).2).1 = ((((d).2).2).2).1) from rfl) (allQ_cons (show (ls = ls) from rfl) (allQ_cons (show (((((d).2).2).2).2 = ((((d).2).2).2).2) from rfl) (allQ_cons h2 (allQ_cons h3 (allQ_cons h4 (allQ_cons (show (i = i) from rfl) (allQ_cons (show (false = false) from rfl) (allQ_cons (show ((d).1 = (d).1) from rfl) (allQ_cons (show (((d).2).1 = ((d).2).1) from rfl) (allQ_cons (show ((((d).2).2).1 = (((d).2).2).1) from rfl) (allQ_cons (show (((((d).2).2).2).1 = ((((d).2).2).2).1) from rfl) (allQ_cons (show (l2 = l2) from rfl) (allQ_cons (show (((((d).2).2).2).2 = ((((d).2).2).2).2) from rfl) (allQ_cons h2 (allQ_cons h5 (allQ_cons h4 (allQ_cons h6 (allQ_cons h7 (allQ_cons h8 (allQ_cons (show ((i + (1 : Int)) = (i + (1 : Int))) from rfl) (allQ_cons (show (false = false) from rfl) (allQ_cons (show ((d).1 = (d).1) from rfl) (allQ_cons (show (((d).2).1 = ((d).2).1) from rfl) (allQ_cons (show ((((d).2).2).1 = (((d).2).2).1) from rfl) (allQ_cons (show (((((d).2).2).2).1 = ((((d).2).2).2).1) from rfl) (allQ_cons (show (ls = ls) from rfl) (allQ_cons (show (((((d).2).2).2).2 = ((((d).2).2).2).2) from rfl) (allQ_cons (show (false = false) from rfl) (allQ_cons (show (l2 = l2) from rfl) (allQ_nil)))))))))))))))))))))))))))))))))))))))))))⟩
theorem tw_exit (ls l2 : List Rec) (d : DkT) (i : Int)
 (h1 : ((decide (i ≤ (((List.length ls) : Nat) : Int))) = false)) :
 ∃ ps, stepPs Tryd.prog DF gTw 100 (bodyN Tryd.f3 0) 100 (twSn ls l2 d i).st [.is false] (.exit 0) twEd = some ps ∧ AllQ ps := ⟨_, by kernel_rfl, allQ_cons (show (false = false) from rfl) (allQ_cons (show ((d).1 = (d).1) from rfl) (allQ_cons (show (((d).2).1 = ((d).2).1) from rfl) (allQ_cons (show ((((d).2).2).1 = (((d).2).2).1) from rfl) (allQ_cons (show (((((d).2).2).2).1 = ((((d).2).2).2).1) from rfl) (allQ_cons (show (ls = ls) from rfl) (allQ_cons (show (((((d).2).2).2).2 = ((((d).2).2).2).2) from rfl) (allQ_cons h1 (allQ_nil))))))))⟩
theorem tw_run (ro : Int) (x : List Rec) (ls l2 : List Rec) (d : DkT)
 (h1 : (RowsOK x))
 (h2 : (FilesOK (List.map (canonR) x)))
 (h3 : ((mountE ro (List.map (canonR) x)) = (0 : Int)))
 (h4 : (OkN (mountM ro (List.map (canonR) x)) (4611686018427387000 : Int)))
 (h5 : (((openM (mountM ro (List.map (canonR) x)))).1 = (0 : Int)))
 (h6 : (Okd (((openM (mountM ro (List.map (canonR) x)))).2).2))
 (h7 : (OkN (((openM (mountM ro (List.map (canonR) x)))).2).2 (4611686018427387000 : Int)))
 (h8 : (((openM (((openM (mountM ro (List.map (canonR) x)))).2).2)).1 = (0 : Int)))
 (h9 : (((((List.length (((openM (mountM ro (List.map (canonR) x)))).2).1) : Nat) : Int) != (((List.length (((openM (((openM (mountM ro (List.map (canonR) x)))).2).2)).2).1) : Nat) : Int)) = false))
 (h10 : (Okd (((openM (((openM (mountM ro (List.map (canonR) x)))).2).2)).2).2))
 (h11 : ((decide ((List.map (canonR) (imageM (((((((openM (mountM ro (List.map (canonR) x)))).2).2).2).2).2).2)) = (List.map (canonR) (imageM (((((((openM (((openM (mountM ro (List.map (canonR) x)))).2).2)).2).2).2).2).2).2)))) = true))
 (h12 : (RowsOK (imageM (((((((openM (mountM ro (List.map (canonR) x)))).2).2).2).2).2).2)))
 (h13 : (RowsOK (imageM (((((((openM (((openM (mountM ro (List.map (canonR) x)))).2).2)).2).2).2).2).2).2)))
 (h14 : SumOK Tryd.prog DF (bodyN Tryd.f3 0) (loopL DF (twSn ls l2 d 1) (.exit 0) twEd))
 (h15 : (((((openM (((openM (mountM ro (List.map (canonR) x)))).2).2)).2).2).1 = (d).1))
 (h16 : ((((((openM (((openM (mountM ro (List.map (canonR) x)))).2).2)).2).2).2).1 = ((d).2).1))
 (h17 : (((((((openM (((openM (mountM ro (List.map (canonR) x)))).2).2)).2).2).2).2).1 = (((d).2).2).1))
 (h18 : ((((((((openM (((openM (mountM ro (List.map (canonR) x)))).2).2)).2).2).2).2).2).1 = ((((d).2).2).2).1))
 (h19 : ((((openM (mountM ro (List.map (canonR) x)))).2).1 = ls))
 (h20 : ((((((((openM (((openM (mountM ro (List.map (canonR) x)))).2).2)).2).2).2).2).2).2 = ((((d).2).2).2).2))
 (h21 : ((((openM (((openM (mountM ro (List.map (canonR) x)))).2).2)).2).1 = l2)) :
 ∃ ps, runF Tryd.prog DF gTw 100 Tryd.f3 [.one (.int .i64 false ro), .one (.prs fSh x)] [.is false, .is true, .loop (loopL DF (twSn ls l2 d 1) (.exit 0) twEd)] = some ((AV.v (A0.one (Part.bool true true))), ps) ∧ AllQ ps := ⟨_, by kernel_rfl, allQ_cons (show (x = x) from rfl) (allQ_cons h1 (allQ_cons (show (ro = ro) from rfl) (allQ_cons (show ((List.map (canonR) x) = (List.map (canonR) x)) from rfl) (allQ_cons h2 (allQ_cons h3 (allQ_cons (show (((mountM ro (List.map (canonR) x))).1 = ((mountM ro (List.map (canonR) x))).1) from rfl) (allQ_cons (show ((((mountM ro (List.map (canonR) x))).2).1 = (((mountM ro (List.map (canonR) x))).2).1) from rfl) (allQ_cons (show (((((mountM ro (List.map (canonR) x))).2).2).1 = ((((mountM ro (List.map (canonR) x))).2).2).1) from rfl) (allQ_cons (show ((((((mountM ro (List.map (canonR) x))).2).2).2).1 = (((((mountM ro (List.map (canonR) x))).2).2).2).1) from rfl) (allQ_cons (show ((((((mountM ro (List.map (canonR) x))).2).2).2).2 = (((((mountM ro (List.map (canonR) x))).2).2).2).2) from rfl) (allQ_cons h4 (allQ_cons h5 (allQ_cons (show (((((openM (mountM ro (List.map (canonR) x)))).2).2).1 = ((((openM (mountM ro (List.map (canonR) x)))).2).2).1) from rfl) (allQ_cons (show ((((((openM (mountM ro (List.map (canonR) x)))).2).2).2).1 = (((((openM (mountM ro (List.map (canonR) x)))).2).2).2).1) from rfl) (allQ_cons (show (((((((openM (mountM ro (List.map (canonR) x)))).2).2).2).2).1 = ((((((openM (mountM ro (List.map (canonR) x)))).2).2).2).2).1) from rfl) (allQ_cons (show ((((((((openM (mountM ro (List.map (canonR) x)))).2).2).2).2).2).1 = (((((((openM (mountM ro (List.map (canonR) x)))).2).2).2).2).2).1) from rfl) (allQ_cons (show ((((((((openM (mountM ro (List.map (canonR) x)))).2).2).2).2).2).2 = (((((((openM (mountM ro (List.map (canonR) x)))).2).2).2).2).2).2) from rfl) (allQ_cons h6 (allQ_cons (show (((((openM (mountM ro (List.map (canonR) x)))).2).2).1 = ((((openM (mountM ro (List.map (canonR) x)))).2).2).1) from rfl) (allQ_cons (show ((((((openM (mountM ro (List.map (canonR) x)))).2).2).2).1 = (((((openM (mountM ro (List.map (canonR) x)))).2).2).2).1) from rfl) (allQ_cons (show (((((((openM (mountM ro (List.map (canonR) x)))).2).2).2).2).1 = ((((((openM (mountM ro (List.map (canonR) x)))).2).2).2).2).1) from rfl) (allQ_cons (show ((((((((openM (mountM ro (List.map (canonR) x)))).2).2).2).2).2).1 = (((((((openM (mountM ro (List.map (canonR) x)))).2).2).2).2).2).1) from rfl) (allQ_cons (show ((((((((openM (mountM ro (List.map (canonR) x)))).2).2).2).2).2).2 = (((((((openM (mountM ro (List.map (canonR) x)))).2).2).2).2).2).2) from rfl) (allQ_cons h7 (allQ_cons h8 (allQ_cons (show (false = false) from rfl) (allQ_cons (show (((((openM (((openM (mountM ro (List.map (canonR) x)))).2).2)).2).2).1 = ((((openM (((openM (mountM ro (List.map (canonR) x)))).2).2)).2).2).1) from rfl) (allQ_cons (show ((((((openM (((openM (mountM ro (List.map (canonR) x)))).2).2)).2).2).2).1 = (((((openM (((openM (mountM ro (List.map (canonR) x)))).2).2)).2).2).2).1) from rfl) (allQ_cons (show (((((((openM (((openM (mountM ro (List.map (canonR) x)))).2).2)).2).2).2).2).1 = ((((((openM (((openM (mountM ro (List.map (canonR) x)))).2).2)).2).2).2).2).1) from rfl) (allQ_cons (show ((((((((openM (((openM (mountM ro (List.map (canonR) x)))).2).2)).2).2).2).2).2).1 = (((((((openM (((openM (mountM ro (List.map (canonR) x)))).2).2)).2).2).2).2).2).1) from rfl) (allQ_cons (show ((((openM (mountM ro (List.map (canonR) x)))).2).1 = (((openM (mountM ro (List.map (canonR) x)))).2).1) from rfl) (allQ_cons (show ((((((((openM (((openM (mountM ro (List.map (canonR) x)))).2).2)).2).2).2).2).2).2 = (((((((openM (((openM (mountM ro (List.map (canonR) x)))).2).2)).2).2).2).2).2).2) from rfl) (allQ_cons (show (false = false) from rfl) (allQ_cons (show (((((openM (((openM (mountM ro (List.map (canonR) x)))).2).2)).2).2).1 = ((((openM (((openM (mountM ro (List.map (canonR) x)))).2).2)).2).2).1) from rfl) (allQ_cons (show ((((((openM (((openM (mountM ro (List.map (canonR) x)))).2).2)).2).2).2).1 = (((((openM (((openM (mountM ro (List.map (canonR) x)))).2).2)).2).2).2).1) from rfl) (allQ_cons (show (((((((openM (((openM (mountM ro (List.map (canonR) x)))).2).2)).2).2).2).2).1 = ((((((openM (((openM (mountM ro (List.map (canonR) x)))).2).2)).2).2).2).2).1) from rfl) (allQ_cons (show ((((((((openM (((openM (mountM ro (List.map (canonR) x)))).2).2)).2).2).2).2).2).1 = (((((((openM (((openM (mountM ro (List.map (canonR) x)))).2).2)).2).2).2).2).2).1) from rfl) (allQ_cons (show ((((openM (((openM (mountM ro (List.map (canonR) x)))).2).2)).2).1 = (((openM (((openM (mountM ro (List.map (canonR) x)))).2).2)).2).1) from rfl) (allQ_cons (show ((((((((openM (((openM (mountM ro (List.map (canonR) x)))).2).2)).2).2).2).2).2).2 = (((((((openM (((openM (mountM ro (List.map (canonR) x)))).2).2)).2).2).2).2).2).2) from rfl) (allQ_cons h9 (allQ_cons (show (((((openM (((openM (mountM ro (List.map (canonR) x)))).2).2)).2).2).1 = ((((openM (((openM (mountM ro (List.map (canonR) x)))).2).2)).2).2).1) from rfl) (allQ_cons (show ((((((openM (((openM (mountM ro (List.map (canonR) x)))).2).2)).2).2).2).1 = (((((openM (((openM (mountM ro (List.map (canonR) x)))).2).2)).2).2).2).1) from rfl) (allQ_cons (show (((((((openM (((openM (mountM ro (List.map (canonR) x)))).2).2)).2).2).2).2).1 = ((((((openM (((openM (mountM ro (List.map (canonR) x)))).2).2)).2).2).2).2).1) from rfl) (allQ_cons (show ((((((((openM (((openM (mountM ro (List.map (canonR) x)))).2).2)).2).2).2).2).2).1 = (((((((openM (((openM (mountM ro (List.map (canonR) x)))).2).2)).2).2).2).2).2).1) from rfl) (allQ_cons (show ((((((((openM (((openM (mountM ro (List.map (canonR) x)))).2).2)).2).2).2).2).2).2 = (((((((openM (((openM (mountM ro (List.map (canonR) x)))).2).2)).2).2).2).2).2).2) from rfl) (allQ_cons h10 (allQ_cons h11 (allQ_cons h12 (allQ_cons h13 (allQ_cons h14 (allQ_cons (show ((1 : Int) = (1 : Int)) from rfl) (allQ_cons (show (false = false) from rfl) (allQ_cons h15 (allQ_cons h16 (allQ_cons h17 (allQ_cons h18 (allQ_cons h19 (allQ_cons h20 (allQ_cons (show (false = false) from rfl) (allQ_cons h21 (allQ_nil)))))))))))))))))))))))))))))))))))))))))))))))))))))))))))))⟩
theorem goOn_mono : ∀ (g : Nat) (t : List Int × List Rec), t.2.length ≤ (goOn opNx g t).2.length
  | 0, _ => Nat.le_refl _
  | g + 1, t => by
    unfold goOn
    split
    · rename_i u hu
      obtain ⟨_, _, rfl⟩ := opNx_some hu
      have := goOn_mono g (t.1.drop 112, t.2 ++ [[.i ((t.2.length : Int) + 1), .w (sigB (t.1.take 112))]])
      simp only [List.length_append, List.length_cons, List.length_nil] at this
      omega
    · exact Nat.le_refl _
theorem opNx_nil (ls : List Rec) : opNx ([], ls) = none := if_neg (fun h => absurd h.1 (by simp))
theorem goOn_none {t : List Int × List Rec} (h : opNx t = none) : ∀ g, goOn opNx g t = t
  | 0 => rfl
  | g + 1 => by unfold goOn; rw [h]
theorem opGo_take_aux : ∀ (g : Nat) (rest : List Int) (ls : List Rec) (rest' : List Int) (ls' : List Rec) (g' : Nat), goOn opNx g (rest, ls) = (rest', ls') → ls'.length - ls.length ≤ g' →
    goOn opNx g' (rest.take (112 * (ls'.length - ls.length)), ls) = ([], ls')
  | 0, rest, ls, rest', ls', g', h, _ => by
    cases h
    rw [Nat.sub_self, Nat.mul_zero, List.take_zero]
    exact goOn_none (opNx_nil _) _
  | g + 1, rest, ls, rest', ls', g', h, hg => by
    unfold goOn at h
    cases hn : opNx (rest, ls) with
    | none =>
      rw [hn] at h
      cases h
      rw [Nat.sub_self, Nat.mul_zero, List.take_zero]
      exact goOn_none (opNx_nil _) _
    | some u =>
      rw [hn] at h
      obtain ⟨h1, h2, rfl⟩ := opNx_some hn
      simp only at h h1 h2
      have hm := goOn_mono g (rest.drop 112, ls ++ [[.i ((ls.length : Int) + 1), .w (sigB (rest.take 112))]])
      rw [h] at hm
      simp only [List.length_append, List.length_cons, List.length_nil] at hm
      obtain ⟨g0, rfl⟩ : ∃ g0, g' = g0 + 1 := ⟨g' - 1, by omega⟩
      have ih := opGo_take_aux g _ _ _ _ g0 h (by simp only [List.length_append, List.length_cons, List.length_nil]; omega)
      simp only [List.length_append, List.length_cons, List.length_nil] at ih
      obtain ⟨m, hm2⟩ : ∃ m, ls'.length - ls.length = m + 1 := ⟨ls'.length - ls.length - 1, by omega⟩
      have e1 : (rest.take (112 * (m + 1))).take 112 = rest.take 112 := by rw [List.take_take, Nat.min_eq_left (by omega)]
      have e2 : (rest.take (112 * (m + 1))).drop 112 = (rest.drop 112).take (112 * m) := by rw [List.drop_take, show 112 * (m + 1) - 112 = 112 * m from by omega]
      rw [show ls'.length - (ls.length + (0 + 1)) = m from by omega] at ih
      rw [hm2]
      unfold goOn
      have : opNx (rest.take (112 * (m + 1)), ls) = some ((rest.drop 112).take (112 * m), ls ++ [[.i ((ls.length : Int) + 1), .w (sigB (rest.take 112))]]) := by
        unfold opNx
        simp only
        rw [e1, e2, if_pos ⟨by rw [List.length_take]; omega, h2⟩]
      rw [this]
      exact ih
theorem opGo_take (b : List Int) : opGo (b.take (112 * (opGo b).2.length)) = ([], (opGo b).2) := by
  have hi := opGo_inv b
  unfold OpI at hi
  have := opGo_take_aux b.length b [] (opGo b).1 (opGo b).2 (b.take (112 * (opGo b).2.length)).length rfl (by rw [List.length_take]; simp only [List.length_nil]; omega)
  rw [List.length_nil, Nat.sub_zero] at this
  exact this
def cutC (b : List Int) : List Int := b.take (112 * (opGo b).2.length)
theorem open_shape {ro st : Int} {es : List (Rec × Ob)} (h : Okd (ro, st, 0, false, es)) :
    (readM (ro, st, 0, false, es) cN = (41, []) ∧ openM (ro, st, 0, false, es) = (0, [], (ro, st, 0, false, es))) ∨
    (hasE es [Fd.s cN] = true ∧ readM (ro, st, 0, false, es) cN = (0, obD (obE es [Fd.s cN])) ∧ ((openM (ro, st, 0, false, es)).1 = 42 ∨
      ∃ st', openM (ro, st, 0, false, es) = (0, (opGo (obD (obE es [Fd.s cN]))).2, (ro, st', 0, false, setE es [Fd.s cN] (fileOb (cutC (obD (obE es [Fd.s cN]))) (cutC (obD (obE es [Fd.s cN]))).length))))) := by
  cases hh : hasE es [Fd.s cN] with
  | false =>
    left
    have he : DkT.err (ro, st, 0, false, es) cN = 41 := by show errF false es cN = 41; unfold errF; simp [right_c, hh]
    have hr : readM (ro, st, 0, false, es) cN = (41, []) := by unfold readM; rw [if_pos (by rw [he]; decide), he]
    refine ⟨hr, ?_⟩
    unfold openM
    rw [if_pos (by rw [hr])]
  | true =>
    right
    have he : ∀ st' es', hasE es' [Fd.s cN] = true → DkT.err (ro, st', 0, false, es') cN = 0 := fun st' es' h => by show errF false es' cN = 0; unfold errF; simp [right_c, h]
    have hr : readM (ro, st, 0, false, es) cN = (0, obD (obE es [Fd.s cN])) := by unfold readM; rw [if_neg (by rw [he _ _ hh]; decide)]; rfl
    refine ⟨rfl, hr, ?_⟩
    generalize hb : obD (obE es [Fd.s cN]) = b at hr
    have hi := opGo_inv b
    unfold OpI at hi
    have hob : ∃ n, obE es [Fd.s cN] = fileOb b n := by
      have := h.canon hh
      exact ⟨_, by rw [← hb]; exact this.symm⟩
    obtain ⟨n, hn⟩ := hob
    have hlen : (cutC b).length = 112 * (opGo b).2.length := by unfold cutC; rw [List.length_take]; omega
    unfold openM
    rw [hr]
    simp only
    rw [if_neg (show ¬ (0 : Int) = 41 by decide), if_neg (show ¬ (0 : Int) ≠ 0 by decide)]
    have hfd : fD (ro, st, 0, false, es) cN = b := hb
    have hfs : fS (ro, st, 0, false, es) cN = n := by show obS (obE es [Fd.s cN]) = n; rw [hn]; rfl
    have sy : ∀ st' es' n', hasE es' [Fd.s cN] = true → obE es' [Fd.s cN] = fileOb (cutC b) n' → (∀ o, setE es' [Fd.s cN] o = setE es [Fd.s cN] o) →
        (syncM (ro, st', 0, false, es') cN).1 = 42 ∨ ∃ st'', syncM (ro, st', 0, false, es') cN = (0, (ro, st'', 0, false, setE es [Fd.s cN] (fileOb (cutC b) (cutC b).length))) := by
      intro st' es' n' h1 h2 h3
      have g1 : fD (ro, st', 0, false, es') cN = cutC b := by show obD (obE es' [Fd.s cN]) = _; rw [h2]; rfl
      unfold syncM
      rw [if_neg (by rw [he _ _ h1]; decide)]
      split
      · exact .inl rfl
      · right
        rw [if_pos (show stV 0 = true from rfl), g1]
        refine ⟨st' + 1, ?_⟩
        show (0, (ro, st' + 1, 0, false, setE es' [Fd.s cN] _)) = _
        rw [h3]
    by_cases c : 0 < (opGo b).1.length
    · rw [if_pos c]
      have hcut : cutM (ro, st, 0, false, es) cN ((b.length : Int) - ((opGo b).1.length : Int)) = (0, (ro, st + 1, 0, false, setE es [Fd.s cN] (fileOb (cutC b) (if ((b.length : Int) - ((opGo b).1.length : Int)) < n then ((b.length : Int) - ((opGo b).1.length : Int)) else n)))) := by
        unfold cutM
        rw [if_neg (by rw [he _ _ hh]; decide), hfd, hfs, if_neg (by omega), if_pos (show stV 0 = true from rfl), show ((b.length : Int) - ((opGo b).1.length : Int)).toNat = 112 * (opGo b).2.length from by omega]
        rfl
      rw [hcut]
      simp only
      rw [if_neg (show ¬ (0 : Int) ≠ 0 by decide)]
      rcases sy (st + 1) (setE es [Fd.s cN] (fileOb (cutC b) (if ((b.length : Int) - ((opGo b).1.length : Int)) < n then ((b.length : Int) - ((opGo b).1.length : Int)) else n))) (if ((b.length : Int) - ((opGo b).1.length : Int)) < n then ((b.length : Int) - ((opGo b).1.length : Int)) else n) (by rw [hasE_set]; simp) (by rw [obE_set, if_pos rfl]) (fun o => setE_twice _ _ _ _) with h1 | ⟨st'', h1⟩
      · exact .inl h1
      · right
        rw [h1]
        exact ⟨_, rfl⟩
    · rw [if_neg c]
      have hcb : cutC b = b := by unfold cutC; exact List.take_of_length_le (by omega)
      rcases sy st es n hh (by rw [hcb, hn]) (fun o => rfl) with h1 | ⟨st'', h1⟩
      · exact .inl h1
      · right
        rw [h1]
        exact ⟨_, rfl⟩
theorem open_again {ro st : Int} {es : List (Rec × Ob)} (h : OkN (ro, st, 0, false, es) 4000000000) (h0 : (openM (ro, st, 0, false, es)).1 = 0) :
    (openM (openM (ro, st, 0, false, es)).2.2).1 = 0 ∧ (openM (openM (ro, st, 0, false, es)).2.2).2.1 = (openM (ro, st, 0, false, es)).2.1 ∧ (openM (openM (ro, st, 0, false, es)).2.2).2.2.2.2.2.2 = (openM (ro, st, 0, false, es)).2.2.2.2.2.2 := by
  have hk := (open_nxt h).1
  rcases open_shape h.1 with ⟨_, h1⟩ | ⟨hh, hr, h1 | ⟨st', h1⟩⟩
  · rw [h1, h1]
    exact ⟨rfl, rfl, rfl⟩
  · rw [h1] at h0; exact absurd h0 (by decide)
  · generalize obD (obE es [Fd.s cN]) = b at h1
    rw [h1] at hk ⊢
    simp only at hk ⊢
    have ho : obE (setE es [Fd.s cN] (fileOb (cutC b) (cutC b).length)) [Fd.s cN] = fileOb (cutC b) (cutC b).length := by rw [obE_set, if_pos rfl]
    rcases open_shape hk with ⟨h2, _⟩ | ⟨_, _, h2⟩
    · exfalso
      have he : DkT.err (ro, st', 0, false, setE es [Fd.s cN] (fileOb (cutC b) (cutC b).length)) cN = 0 := by
        show errF false _ cN = 0
        unfold errF
        simp [right_c, hasE_set]
      unfold readM at h2
      rw [if_neg (by rw [he]; decide)] at h2
      have := congrArg Prod.fst h2
      exact absurd this (show ¬ (0 : Int) = 41 by decide)
    · have hfree := hk.free
      have hobd : obD (obE (setE es [Fd.s cN] (fileOb (cutC b) (cutC b).length)) [Fd.s cN]) = cutC b := by rw [ho]; rfl
      have hg : opGo (cutC b) = ([], (opGo b).2) := opGo_take b
      have hcc : cutC (cutC b) = cutC b := by
        show (cutC b).take (112 * (opGo (cutC b)).2.length) = _
        rw [hg]
        exact List.take_of_length_le (by unfold cutC; rw [List.length_take]; exact Nat.min_le_left _ _)
      rw [hobd, hcc, hg] at h2
      rcases h2 with h2 | ⟨st'', h2⟩
      · exfalso
        have hr2 : readM (ro, st', 0, false, setE es [Fd.s cN] (fileOb (cutC b) (cutC b).length)) cN = (0, cutC b) := by
          have he : DkT.err (ro, st', 0, false, setE es [Fd.s cN] (fileOb (cutC b) (cutC b).length)) cN = 0 := by
            show errF false _ cN = 0
            unfold errF
            simp [right_c, hasE_set]
          unfold readM
          rw [if_neg (by rw [he]; decide)]
          show (0, obD (obE (setE es [Fd.s cN] _) [Fd.s cN])) = _
          rw [hobd]
        unfold openM at h2
        rw [hr2] at h2
        simp only at h2
        rw [hg] at h2
        rw [if_neg (show ¬ (0 : Int) = 41 by decide), if_neg (show ¬ (0 : Int) ≠ 0 by decide), if_neg (by simp)] at h2
        unfold syncM at h2
        have he : DkT.err (ro, st', 0, false, setE es [Fd.s cN] (fileOb (cutC b) (cutC b).length)) cN = 0 := by
          show errF false _ cN = 0
          unfold errF
          simp [right_c, hasE_set]
        have hfd : fD (ro, st', 0, false, setE es [Fd.s cN] (fileOb (cutC b) (cutC b).length)) cN = cutC b := hobd
        have hfs : fS (ro, st', 0, false, setE es [Fd.s cN] (fileOb (cutC b) (cutC b).length)) cN = (cutC b).length := by show obS (obE (setE es [Fd.s cN] _) [Fd.s cN]) = _; rw [ho]; rfl
        rw [if_neg (by rw [he]; decide), hfd, hfs, if_neg, if_pos (show stV 0 = true from rfl)] at h2
        · exact absurd h2 (show ¬ (0 : Int) = 42 by decide)
        · have hf : safeSum none (setE es [Fd.s cN] (fileOb (cutC b) (cutC b).length)) ≤ ro := hfree
          show ¬ (ro - safeSum none (setE es [Fd.s cN] (fileOb (cutC b) (cutC b).length)) < _)
          omega
      · rw [h2]
        refine ⟨rfl, rfl, ?_⟩
        exact setE_twice _ _ _ _
theorem gTwB_ok : GamOK Tryd.prog DF gTwB := gam_freeze (gam_cons chead_ok (gam_rd copy17_ok (gam_op mountBad_ok gam_nil)))
theorem gTwO_ok {Q} (h : OpOK Tryd.prog DF 11 Q) : GamOK Tryd.prog DF (gTwO Q) := gam_freeze (gam_cons chead_ok (gam_rd copy17_ok (gam_op mountOk_ok (gam_op h (gam_rd image_ok (gam_rd last_ok (gam_cons same17_ok (gam_rd getOk_ok gam_nil))))))))
theorem gTw_ok : GamOK Tryd.prog DF gTw := gTwO_ok openOk_ok
theorem eqLk : EqT Tryd.prog 37 := eqT_of (n := 97) (by kernel_rfl) (by kernel_rfl) (by kernel_rfl) (by kernel_rfl)
theorem tw_loop (ls : List Rec) (d : DkT) (h : ls.length ≤ 1300000000000) : SumOK Tryd.prog DF (bodyN Tryd.f3 0) (loopL DF (twSn ls ls d 1) (.exit 0) twEd) := by
  have hs := sum_loop gTw_ok mixed (c := bodyN Tryd.f3 0) (fun i => twSn ls ls d ((i : Int) + 1)) ls.length (e := .exit 0) (s := twEd) rfl (fun i hi => ?_) ?_
  · exact hs
  · exact ⟨_, _, _, tw_step ls ls d ((i : Int) + 1) (decide_eq_true (by omega)) (by omega) (by omega) (by omega) (by omega) (by simp) eqLk ⟨by omega, by omega⟩⟩
  · exact ⟨_, _, _, tw_exit ls ls d ((ls.length : Int) + 1) (decide_eq_false (by omega))⟩
theorem files_rowsC {x : List Rec} (hx : x.length ≤ 2932031007400 ∧ ∀ r ∈ x, FileIn r) : RowsOK x ∧ FilesOK (x.map canonR) ∧ x.map canonR = x := by
  have he : x.map canonR = x := by
    conv => rhs; rw [← List.map_id x]
    exact List.map_congr_left fun r hr => (hx.2 r hr).2.2.2.symm
  refine ⟨⟨hx.1, fun r hr => by have := (hx.2 r hr).2.1; omega⟩, ?_, he⟩
  rw [he]
  exact fun r hr => ⟨(hx.2 r hr).1, by have := (hx.2 r hr).2.1; omega⟩
theorem links_le {d : DkT} (h : Okd d) : (opGo (readM d cN).2).2.length ≤ 1300000000000 := by
  have h1 := read_len h cN
  have h2 := opGo_inv (readM d cN).2
  unfold OpI at h2
  omega
theorem open_links {d : DkT} : (openM d).2.1 = [] ∨ (openM d).2.1 = (opGo (readM d cN).2).2 := by
  unfold openM
  split
  · exact .inl rfl
  split
  · exact .inl rfl
  split
  · split
    · exact .inl rfl
    · exact .inr rfl
  · exact .inr rfl
theorem open_len {d : DkT} (h : Okd d) : (openM d).2.1.length ≤ 1300000000000 := by
  rcases open_links (d := d) with h1 | h1
  · rw [h1]; exact Nat.zero_le _
  · rw [h1]; exact links_le h
theorem law_twice {ro : Int} {x : List Rec} (_ : InI64 ro) (hx : x.length ≤ 2932031007400 ∧ ∀ r ∈ x, FileIn r) :
    ∃ Γ, GamOK Tryd.prog DF Γ ∧ ∃ ds ps, runF Tryd.prog DF Γ 100 Tryd.f3 [.one (.int .i64 false ro), .one (.prs fSh x)] ds = some (.v (.one (.bool true true)), ps) ∧ AllQ ps := by
  obtain ⟨hr, hf, he⟩ := files_rowsC hx
  by_cases hm : mountE ro (x.map canonR) = 0
  · have hd := mount_okd hf hm
    have hN : OkN (mountM ro (x.map canonR)) 0 := ⟨hd, Int.le_refl _⟩
    by_cases ho : (openM (mountM ro (x.map canonR))).1 = 0
    · have h1 := open_nxt hN
      obtain ⟨a1, a2, a3⟩ := open_again (ro := clampR ro) (st := 0) (es := (moGo (x.map canonR) []).2) ⟨hd, show (0 : Int) ≤ 4000000000 by decide⟩ ho
      have h2 := open_nxt h1
      obtain ⟨ps, p1, p2⟩ := tw_run ro x (openM (mountM ro (x.map canonR))).2.1 (openM (mountM ro (x.map canonR))).2.1 (openM (openM (mountM ro (x.map canonR))).2.2).2.2 hr hf hm (hN.le (by decide)) ho h1.1 (h1.le (by decide)) a1
        (ne_bne (fun h => h (congrArg (fun l : List Rec => (l.length : Int)) a2.symm))) h2.1 (decide_eq_true (congrArg (fun es => (imageM es).map canonR) a3.symm)) (rows_image h1.1) (rows_image h2.1)
        (tw_loop _ _ (open_len hd)) rfl rfl rfl rfl rfl rfl a2
      exact ⟨_, gTw_ok, _, ps, p1, p2⟩
    · obtain ⟨ps, p1, p2⟩ := tw_err ro x hr hf hm (hN.le (by decide)) ho (bne_iff_ne.2 ho)
      exact ⟨_, gTwO_ok openBad_ok, _, ps, p1, p2⟩
  · obtain ⟨ps, p1, p2⟩ := tw_bad ro x hr hf hm (bne_iff_ne.2 hm)
    exact ⟨_, gTwB_ok, _, ps, p1, p2⟩
end Go.Num
namespace Go.Laws
open Go.Abs Go.Proofs Go.Proofs.YthdhjbmgmfndhaaDoor Go.ChangeShapes Go.WideShapes Go.ChangeAt Go.RowKit Go.Num
theorem own : ownKnob Tryd.prog.godebug = none := by kernel_rfl
theorem laidOut : laidOutB Tryd.prog = true := by kernel_rfl
theorem trodAll_below {H : Type} {enc : TypeId × Value → H} {P : Program} (hl : laidOutB P = true) {W W' : World} (hb : Below W.heap.size W W') :
    ∀ {ts : List TypeId} {vs : List Value} {ds : List (DataW H)} {ps : List MemPlace}, (ts.all fun t => P.readableRec t && decide (t < P.types.size)) = true →
      DataW.TrodAll enc P W 0 (fun _ => true) true ts vs ds ps → (∀ x ∈ ps, x.block < W.heap.size) → DataW.TrodAll enc P W' 0 (fun b => decide (b < W.heap.size)) true ts vs ds ps
  | [], [], [], _, _, h, _ => h
  | [], [], _ :: _, _, _, h, _ => h.elim
  | [], _ :: _, _, _, _, h, _ => h.elim
  | _ :: _, [], _, _, _, h, _ => h.elim
  | _ :: _, _ :: _, [], _, _, h, _ => h.elim
  | t :: ts, v :: vs, d :: ds, ps, hr, h, hlt => by
    obtain ⟨p, q, h1, h2, rfl⟩ := h
    simp only [List.all_cons, Bool.and_eq_true, decide_eq_true_eq] at hr
    exact ⟨p, q, Below.trod hl hr.1.1 hr.1.2 h1 hb (fun x hx => hlt x (List.mem_append_left _ hx)), trodAll_below hl hb (by simpa using hr.2) h2 (fun x hx => hlt x (List.mem_append_right _ hx)), rfl⟩
theorem law_post {H : Type} {enc : TypeId × Value → H} {P : Program} {fn : Func} {s : ChangeSpec} {W W' : World} {args : Array Value} {ds : List (DataW H)} {before : List MemPlace} {tb : TypeId} (hl : laidOutB P = true)
    (hp : (fn.params.toList.all fun t => P.readableRec t && decide (t < P.types.size)) = true) (hs : s.vars = []) (hfn : s.fn H (ds ++ []) = { results := [.lit (.bool true)], args := ds })
    (hr : fn.resultTypes = #[tb]) (htb : P.underlying tb = some .bool) (hW : DataW.Whole enc P fn.params.toList s.vars false W args.toList ds [] before) (hb : Below W.heap.size W W') :
    s.post enc P fn false true false false W args (.bool true) W' := by
  have hlt : ∀ p ∈ before, p.block < W.heap.size := fun p hp => hW.lt p hp
  obtain ⟨p, q, hA, hV, hpq, hfz, hnd⟩ := id hW
  have hq : q = [] := by
    rw [hs] at hV
    exact hV
  subst hq
  rw [List.append_nil] at hpq
  subst hpq
  refine ⟨ds, [], before, [], before, [], hW, ?_, ?_, ?_, World.keptBut_mono (fun x hx => ⟨hx, .inr (.inl hx)⟩) (hb.frame (· ∈ before)), fun h => by cases h⟩
  · rw [hfn, hr]
    exact trodAll_cons_mk (shut_bool htb _) trodAll_mk0
  · rw [hfn]
    exact trodAll_below hl hb hp hA hlt
  · rw [hfn, hs]
    rfl
theorem no_spot {W : World} {a : Addr} {v : Value} (h : W.cell? a = some v) : a.spot = none := by
  unfold World.cell? at h
  split at h
  · split at h
    · cases h
    · rename_i hsp
      simpa using hsp
  · cases h
theorem add_plain {a : Addr} (hs : a.spot = none) (i : Nat) : a.add i = ⟨a.block, a.off + i, none⟩ := by
  unfold Addr.add
  split
  · rename_i h0
    subst h0
    cases a
    simp only at hs
    subst hs
    rfl
  · rfl
theorem cells_words {H : Type} {enc : TypeId × Value → H} {P : Program} {W : World} {t e : TypeId} {k : IntKind} {fuel : Nat} {cs : List Value} {x : DataW H × List MemPlace} (ht : P.underlying t = some (.slice e)) (he : P.underlying e = some (.int k)) (hc : P.cellsOf e = 1)
    (h : DataW.trod enc P W 0 (fun _ => true) true fuel t cs = some x) (hr : ∀ n ∈ x.1.weights P t, n ≤ reachBytes) :
    ∃ (v : Value) (l : List Int), cs = [v] ∧ SlRel (fun _ => False) W k l v ∧ v.oneCell' = true ∧ (∀ n ∈ l, (Lit.int k n).wf = true) ∧ l.length * P.bytesOf e ≤ reachBytes ∧
      ((l = [] ∧ x.1 = .nil) ∨ ∃ rest, x.1 = .slice (lits k l) rest) := by
  rcases open_ints ht he hc h with ⟨h1, h2⟩ | ⟨a, len, cap, zs, h1, _, h3, h4, h5, h6, h7, h8⟩
  · exact ⟨.slice none 0 0, [], h1, ⟨none, 0, rfl, Nat.le_refl _, Nat.zero_le _, fun _ => rfl, (fun i hi => by cases hi)⟩, rfl, (fun n hn => by cases hn), by simp, .inl ⟨rfl, by rw [h2]⟩⟩
  · subst h6
    simp only [if_true] at h5
    have hl : (zs.take len).length = len := by rw [List.length_take]; omega
    refine ⟨_, zs.take len, h1, ⟨some a, cap, by rw [hl], by omega, h4, (fun h => by cases h), fun i hi => ?_⟩, rfl, fun n hn => h8 n (List.mem_of_mem_take hn), ?_, .inr ⟨_, rfl⟩⟩
    · rw [hl] at hi
      have h0 := h7 0 (by omega)
      rw [Addr.add, if_pos rfl] at h0
      have hs := no_spot h0
      have h9 := h7 i (by omega)
      rw [add_plain hs] at h9
      refine ⟨a.block, a.off, ?_, fun h => h, ?_⟩
      · cases a
        simp only at hs
        subst hs
        rfl
      · rw [h9]
        congr 2
        rw [List.getD_eq_getElem?_getD, List.getD_eq_getElem?_getD, List.getElem?_take_of_lt hi]
    · have h10 := hr ((zs.take len).length * P.bytesOf e + (zs.drop len).length * P.bytesOf e) (by simp only [DataW.weights, ht, lits, List.length_map, Nat.add_mul]; exact List.mem_cons_self ..)
      omega
theorem choose_list {α : Type} {p : Nat → α → Prop} : ∀ {n : Nat}, (∀ i, i < n → ∃ x, p i x) → ∃ l : List α, l.length = n ∧ ∀ i x, l[i]? = some x → p i x
  | 0, _ => ⟨[], rfl, fun i x h => by cases h⟩
  | n + 1, h => by
    obtain ⟨l, h1, h2⟩ := choose_list (n := n) fun i hi => h i (by omega)
    obtain ⟨x, hx⟩ := h n (by omega)
    refine ⟨l ++ [x], by simp [h1], fun i y hy => ?_⟩
    by_cases hi : i < l.length
    · rw [List.getElem?_append_left hi] at hy
      exact h2 i y hy
    · rw [List.getElem?_append_right (by omega)] at hy
      have hi' : i - l.length = 0 := by
        have := (List.getElem?_eq_some_iff.1 hy).1
        simp at this
        omega
      rw [hi'] at hy
      simp only [List.getElem?_cons_zero, Option.some.injEq] at hy
      subst hy
      rw [show i = n from by omega]
      exact hx
theorem weights_all {H : Type} {P : Program} {e : TypeId} {d : DataW H} : ∀ {l : List (DataW H)}, d ∈ l → ∀ n ∈ d.weights P e, n ∈ DataW.weightsAll P e l
  | [], h, _, _ => by cases h
  | x :: l, h, n, hn => by
    simp only [DataW.weightsAll, List.mem_append]
    rcases List.mem_cons.1 h with rfl | h
    · exact .inl hn
    · exact .inr (weights_all h n hn)
theorem wf_u8 {n : Int} (h : (Lit.int .u8 n).wf = true) : 0 ≤ n ∧ n < 256 := by
  have h1 : IntKind.u8.min = 0 := rfl
  have h2 : IntKind.u8.max = 255 := rfl
  simp only [Lit.wf, Bool.and_eq_true, decide_eq_true_eq] at h
  omega
theorem wf_i64 {n : Int} (h : (Lit.int .i64 n).wf = true) : -9223372036854775808 ≤ n ∧ n ≤ 9223372036854775807 := by
  have h1 : IntKind.i64.min = -9223372036854775808 := rfl
  have h2 : IntKind.i64.max = 9223372036854775807 := rfl
  simp only [Lit.wf, Bool.and_eq_true, decide_eq_true_eq] at h
  omega
theorem one_num {D : Dom} {W : World} {k : IntKind} {b : Bool} {n : Int} : A0Rel D (cenv W) (.one (.int k b n)) (.int k n) := ⟨rfl, rfl⟩
theorem rel_nil {D : Dom} {E : Env} : A0sRel D E [] [] := rfl
theorem rel_cons {D : Dom} {E : Env} {a : A0 D.τ} {v : Value} {xs : List (A0 D.τ)} {vs : List Value} (h : A0Rel D E a v) (k : A0sRel D E xs vs) : A0sRel D E (a :: xs) (v :: vs) := ⟨v, vs, rfl, h, k⟩
theorem law_calls {P : Program} {D : Dom} {Γ : Gam D} (hΓ : GamOK P D Γ) (hm : P.follows .mixedOrders = true) {f : FuncId} {fn : Func} (hf : P.funcs[f]? = some fn) {fuel : Nat} {xs : List (A0 D.τ)} {ds : List (Dec D.τ)} {b : Bool} {ps : List Prop}
    (h : runF P D Γ fuel fn xs ds = some (.v (.one (.bool b true)), ps)) (hps : AllQ ps) {W : World} {vs : List Value} (hG : GlobAt D W) (hx : A0sRel D (cenv W) xs vs) :
    Calls P f vs.toArray W fun e w' => e = .returned (.bool true) ∧ Below W.heap.size W w' := by
  refine (runF_calls hΓ hm hf h hps hG hx).mono ?_
  rintro e w' ⟨v, he, ⟨ν, _, hr⟩, hb⟩
  have hv : v = .bool true := by
    obtain ⟨_, h2⟩ := hr
    simpa [PartRel] using h2
  subst hv
  exact ⟨he, hb⟩
end Go.Laws
namespace Go.Laws
open Go.Abs Go.Proofs Go.Proofs.YthdhjbmgmfndhaaDoor Go.RowKit Go.Num
theorem gFirst : Tryd.prog.globalNamed "cresset/sha.first" = some 0 := by kernel_rfl
theorem gRoots : Tryd.prog.globalNamed "cresset/sha.roots" = some 1 := by kernel_rfl
theorem tFirst : (Tryd.prog.globals[0]?).map (·.type) = some 102 := by kernel_rfl
theorem tRoots : (Tryd.prog.globals[1]?).map (·.type) = some 125 := by kernel_rfl
theorem globAt {W : World} (h : laidMet Tryd.prog [("cresset/sha.first", Rows.laid_cresset_sha_first), ("cresset/sha.roots", Rows.laid_cresset_sha_roots)] W) : GlobAt DS W := by
  have h1 : Lib.TabIs Tryd.prog W "cresset/sha.first" .u32 firstL := Lib.tabIs_of_head gFirst tFirst Tryd.underlying102 Tryd.underlying94 (by kernel_rfl) (by kernel_rfl) h
  have h2 : Lib.TabIs Tryd.prog W "cresset/sha.roots" .u32 rootsL := Lib.tabIs_of_head gRoots tRoots Tryd.underlying125 Tryd.underlying94 (by kernel_rfl) (by kernel_rfl) (laidMet.tail h)
  have put : ∀ {g : Nat} {name : String} {l : List Int}, Tryd.prog.globalNamed name = some g → Lib.TabIs Tryd.prog W name .u32 l → 0 < l.length → g < W.heap.size ∧ ∀ i, i < l.length → W.cell? ⟨g, i, none⟩ = some (.int .u32 (l.getD i 0)) := by
    intro g name l hg ht hl
    refine ⟨?_, fun i hi => ht.cell hg i hi⟩
    have h0 := ht.cell hg 0 hl
    unfold World.cell? at h0
    split at h0
    · rename_i hh
      exact (Array.getElem?_eq_some_iff.1 hh).1
    · cases h0
  intro g k l hg
  have hg : (bif Nat.beq g 0 then some (IntKind.u32, firstL) else bif Nat.beq g 1 then some (IntKind.u32, rootsL) else none) = some (k, l) := hg
  cases e1 : Nat.beq g 0 <;> rw [e1] at hg
  · cases e2 : Nat.beq g 1 <;> rw [e2] at hg
    · cases hg
    · simp only [cond_false, cond_true, Option.some.injEq, Prod.mk.injEq] at hg
      obtain ⟨rfl, rfl⟩ := hg
      obtain rfl := Nat.eq_of_beq_eq_true e2
      exact put gRoots h2 (by decide)
  · simp only [cond_true, Option.some.injEq, Prod.mk.injEq] at hg
    obtain ⟨rfl, rfl⟩ := hg
    obtain rfl := Nat.eq_of_beq_eq_true e1
    exact put gFirst h1 (by decide)
def layTab (l : List Int) : Obj → Obj
  | .cells _ t frozen => .cells (l.map (.int .u32)).toArray t frozen
  | o => o
noncomputable def laidWorld (os : Os) : World :=
  { World.holding Tryd.prog os ⟨#[], #[], []⟩ with heap := ((World.holding Tryd.prog os ⟨#[], #[], []⟩).heap.modify 0 (layTab firstL)).modify 1 (layTab rootsL) }
end Go.Laws
namespace Go.Num
open Go.Abs Go.Proofs Go.Shelf Go.RowKit
structure OpT where
  k : Int
  s : ByteArray
  t : ByteArray
  b : List Int
  n : Int
  ke : List Int
structure OpOk (o : OpT) : Prop where
  s : o.s.size ≤ 9223372036854775807
  t : o.t.size ≤ 9223372036854775807
  b : o.b.length ≤ 140737488355328
  n : o.n ≤ 9223372036854775807
  ke : o.ke.length * 8 ≤ 140737488355328
end Go.Num
namespace Go.Num
open Go.Abs Go.Proofs Go.Shelf Go.RowKit
abbrev cO : ByteArray := ⟨#[111, 119, 110]⟩
def Own (a : List Int) (es : List (Rec × Ob)) : Prop := hasE es [Fd.s cO] = true ∧ obE es [Fd.s cO] = fileOb a a.length
structure ApI (a : List Int) (d : DkT) (k : Nat) : Prop where
  ok : OkN d (k + 5)
  own : Own a d.2.2.2.2
end Go.Num
namespace Go.Laws
open Go.Abs Go.Proofs Go.ChangeShapes Go.WideShapes Go.ChangeAt Go.RowKit Go.Num
theorem cells_int {H : Type} {enc : TypeId × Value → H} {P : Program} {W : World} {t : TypeId} {k : IntKind} {fuel : Nat} {cs : List Value} {x : DataW H × List MemPlace} (ht : P.underlying t = some (.int k)) (h : DataW.trod enc P W 0 (fun _ => true) true fuel t cs = some x) :
    ∃ n, cs = [.int k n] ∧ (Lit.int k n).wf = true := by
  obtain ⟨n, h1, _, h3⟩ := DataW.trod_int ht h
  exact ⟨n, h1, h3⟩
theorem cells_str {H : Type} {enc : TypeId × Value → H} {P : Program} {W : World} {t : TypeId} {fuel : Nat} {cs : List Value} {x : DataW H × List MemPlace} (ht : P.underlying t = some .string) (h : DataW.trod enc P W 0 (fun _ => true) true fuel t cs = some x) :
    ∃ s : ByteArray, cs = [.string s] ∧ s.size ≤ 9223372036854775807 := by
  obtain ⟨s, h1, _, h3⟩ := DataW.trod_string ht h
  exact ⟨s, h1, h3⟩
theorem sl_known {W : World} {k : IntKind} {l : List Int} {v : Value} (h : SlRel (fun _ => False) W k l v) : SlRel (fun b => ¬ (cenv W).σ.zm b) (cenv W).σ.zw k l v := by
  obtain ⟨ao, cap, e, h1, h2, h3, h4⟩ := h
  refine ⟨ao, cap, e, h1, h2, h3, fun i hi => ?_⟩
  obtain ⟨b, off, e1, _, e3⟩ := h4 i hi
  exact ⟨b, off, e1, fun hn => hn (World.block_lt_of_cell? _ _ e3), e3⟩
theorem three {α : Type} {cs : List α} {a b c : α} (hl : cs.length = 3) (ha : (cs.drop 0).take 1 = [a]) (hb : (cs.drop 1).take 1 = [b]) (hc : (cs.drop 2).take 1 = [c]) : cs = [a, b, c] := by
  match cs, hl with
  | [_, _, _], _ => simp_all
theorem open_rows {P : Program} {H : Type} {enc : TypeId × Value → H} {W : World} {base : Nat} {v : Value} {d : DataW H} {ps : List MemPlace} {t e : TypeId} {sh : List FK} {n : Nat} {good : Rec → Prop} (ht : P.underlying t = some (.slice e)) (hc : P.cellsOf e = n) (hn : rsz sh = n) (h1n : 0 < n)
    (elem : ∀ {fuel : Nat} {cs : List Value} {x : DataW H × List MemPlace}, DataW.trod enc P W 0 (fun _ => true) true fuel e cs = some x → (∀ n ∈ x.1.weights P e, n ≤ reachBytes) → ∃ r : Rec, RecRel (cenv W).σ sh 0 r cs ∧ good r ∧ cs.length = n)
    (hval : Value.okWide P W .any base t v) (hd : DataW.Trod enc P W 0 (fun _ => true) true t v d ps) (hr : ∀ n ∈ d.weights P t, n ≤ reachBytes) :
    ∃ sc : List Rec, A0Rel DF (cenv W) (.one (.prs sh sc)) v ∧ sc.length * P.bytesOf e ≤ reachBytes ∧ ∀ r ∈ sc, good r := by
  obtain ⟨a0, len0, cap0, rfl⟩ := okWide_slice ht hval
  obtain ⟨fuel, hf⟩ := hd
  rcases DataW.trod_slice ht hf with ⟨h1, h2⟩ | ⟨a, len, cap, elems, rest, m, _, h1, h2, _, h3, h4, h5, h6, h7, _⟩
  · have h1' : [Value.slice a0 len0 cap0] = [.slice none 0 0] := h1
    simp only [List.cons.injEq, and_true] at h1'
    rw [h1']
    exact ⟨[], ⟨rfl, _, rfl, none, 0, rfl, Nat.le_refl _, Nat.zero_le _, fun _ => rfl, fun i r hi => by cases hi⟩, by simp, fun r hr => by cases hr⟩
  · have h1' : [Value.slice a0 len0 cap0] = [.slice (some a) len cap] := h1
    simp only [List.cons.injEq, and_true] at h1'
    rw [h1']
    simp only [Prod.mk.injEq] at h2
    obtain ⟨rfl, _⟩ := h2
    simp only [DataW.weights, ht] at hr
    have each : ∀ i, i < len → ∃ r : Rec, ∃ cs, W.cells? 0 (a.add (i * n)) n = some cs ∧ RecRel (cenv W).σ sh 0 r cs ∧ good r ∧ cs.length = n := by
      intro i hi
      have he' := h6 i hi
      have hy : elems[i]? = some (elems[i]'(by omega)) := List.getElem?_eq_getElem (by omega)
      rw [hy, hc, Option.bind_eq_some_iff] at he'
      obtain ⟨cs', hcs, hy'⟩ := he'
      obtain ⟨r, g1, g2, g3⟩ := elem hy' (fun n hn => hr n (List.mem_cons_of_mem _ (List.mem_append_left _ (weights_all (List.mem_map_of_mem (List.getElem_mem (by omega))) n hn))))
      exact ⟨r, cs', hcs, g1, g2, g3⟩
    obtain ⟨ll, hl1, hl2⟩ := choose_list each
    refine ⟨ll, ⟨rfl, _, rfl, some a, cap, by rw [hl1], by omega, h4, (fun h => by cases h), fun i r hi => ?_⟩, ?_, fun r hr => ?_⟩
    · obtain ⟨cs, q1, q2, q3, q4⟩ := hl2 i r hi
      have hil : i < len := by have := (List.getElem?_eq_some_iff.1 hi).1; omega
      obtain ⟨_, q5, q6⟩ := World.cells?_some q1
      have hs : a.spot = none := by
        obtain ⟨cs0, p1, _, _, p4⟩ := hl2 0 _ (List.getElem?_eq_getElem (show 0 < ll.length by omega))
        obtain ⟨_, _, p6⟩ := World.cells?_some p1
        have := p6 0 (by omega)
        rw [Nat.zero_mul, Addr.add, if_pos rfl, Addr.add, if_pos rfl, List.getElem?_eq_getElem (by omega)] at this
        exact no_spot this
      have ea : a = ⟨a.block, a.off, none⟩ := by
        cases a
        simp only at hs
        subst hs
        rfl
      have hat : ∀ j w, cs[j]? = some w → W.cell? ⟨a.block, a.off + i * n + j, none⟩ = some w := by
        intro j w hj
        have hjl : j < n := by have := (List.getElem?_eq_some_iff.1 hj).1; omega
        have := q6 j hjl
        rw [hj] at this
        rw [add_plain (a := a.add (i * n)) (by rw [add_plain hs]), add_plain hs] at this
        exact this
      refine ⟨a.block, a.off, cs, by rw [← ea], ?_, q2, by rw [hn]; exact hat⟩
      have h0 := hat 0 _ (List.getElem?_eq_getElem (show 0 < cs.length by omega))
      have := World.block_lt_of_cell? _ _ h0
      exact this
    · have h10 := hr _ (List.mem_cons_self ..)
      rw [List.length_map, h5] at h10
      rw [hl1]
      refine Nat.le_trans ?_ h10
      exact Nat.mul_le_mul_right _ (Nat.le_add_right _ _)
    · obtain ⟨i, hi⟩ := List.getElem?_of_mem hr
      obtain ⟨_, _, _, q3, _⟩ := hl2 i r hi
      exact q3
set_option maxRecDepth 10000 in
theorem open_file {H : Type} {enc : TypeId × Value → H} {W : World} {fuel : Nat} {cs : List Value} {x : DataW H × List MemPlace} (h : DataW.trod enc Tryd.prog W 0 (fun _ => true) true fuel 54 cs = some x)
    (hr : ∀ n ∈ x.1.weights Tryd.prog 54, n ≤ reachBytes) : ∃ r : Rec, RecRel (cenv W).σ fSh 0 r cs ∧ FileIn r ∧ cs.length = 3 := by
  obtain ⟨xs, n, _, hx, hcl, hlen, hfs⟩ := DataW.trod_struct Tryd.underlying54 h
  rw [show Tryd.prog.cellsOf 54 = 3 from by kernel_rfl] at hcl
  match xs, hlen with
  | [x0, x1, x2], _ =>
    subst hx
    have h0 := hfs 0 _ rfl
    have h1 := hfs 1 _ rfl
    have h2 := hfs 2 _ rfl
    obtain ⟨s, e0, hs⟩ := cells_str Tryd.underlying9 h0
    obtain ⟨u, l, e1, hsl, hone, hwf, hle, _⟩ := cells_words Tryd.underlying46 Tryd.underlying5 (by kernel_rfl) h1 (fun m hm => hr m (by
      simp only [DataW.weights, Tryd.underlying54]
      exact DataW.weights_mem_each (j := 1) (t := 46) rfl rfl m hm))
    obtain ⟨m, e2, _⟩ := cells_int Tryd.underlying3 h2
    rw [show Tryd.prog.bytesOf 5 = 1 from by kernel_rfl, Nat.mul_one] at hle
    obtain rfl := three hcl e0 e1 e2
    exact ⟨[.s s, .w l, .i m], ⟨[_], _, rfl, rfl, [_], _, rfl, ⟨u, rfl, sl_known hsl⟩, [_], _, rfl, rfl, rfl⟩, ⟨hs, hle, fun y hy => wf_u8 (hwf y hy), rfl⟩, hcl⟩
set_option maxRecDepth 10000 in
theorem open_files {H : Type} {enc : TypeId × Value → H} {W : World} {base : Nat} {v : Value} {d : DataW H} {ps : List MemPlace} (hval : Value.okWide Tryd.prog W .any base 22 v)
    (hd : DataW.Trod enc Tryd.prog W 0 (fun _ => true) true 22 v d ps) (hr : ∀ n ∈ d.weights Tryd.prog 22, n ≤ reachBytes) :
    ∃ sc : List Rec, A0Rel DF (cenv W) (.one (.prs fSh sc)) v ∧ sc.length ≤ 2932031007400 ∧ ∀ r ∈ sc, FileIn r := by
  obtain ⟨sc, h1, h2, h3⟩ := open_rows (n := 3) Tryd.underlying22 (by kernel_rfl) rfl (by decide) open_file hval hd hr
  rw [show Tryd.prog.bytesOf 54 = 48 from by kernel_rfl] at h2
  have h2' : sc.length * 48 ≤ 140737488351232 := h2
  exact ⟨sc, h1, by omega, h3⟩
end Go.Laws
