/- Several texts put together: Ch10 Ch11 Frame Glob. -/
import Derived.Test.YthdhjbmgmfndhaaDoorMrg9
import Derived.Test.YthdhjbmgmfndhaaDoorRows
import Derived.WalkKit
import Derived.ProofKit
import Derived.OpenShut
import Derived.ShutString
import Derived.SizedLaws
import Derived.Carry
import Derived.Stop.LaidErr
import Derived.Lib.LaidTab
namespace Go.Num
open Go.Abs Go.Proofs Go.Shelf Go.RowKit
theorem sg_run (b : List Int) :
 ∃ ps, runF Tryd.prog DF [] 100 Tryd.f17 [.one (.words .u8 b)] [] = some ((AV.v (A0.agg [(Part.arr Go.IntKind.u8 (96 : Nat) (((List.take (0 : Nat) ([(0 : Int), (0 : Int), (0 : Int), (0 : Int), (0 : Int), (0 : Int), (0 : Int), (0 : Int), (0 : Int), (0 : Int), (0 : Int), (0 : Int), (0 : Int), (0 : Int), (0 : Int), (0 : Int), (0 : Int), (0 : Int), (0 : Int), (0 : Int), (0 : Int), (0 : Int), (0 : Int), (0 : Int), (0 : Int), (0 : Int), (0 : Int), (0 : Int), (0 : Int), (0 : Int), (0 : Int), (0 : Int), (0 : Int), (0 : Int), (0 : Int), (0 : Int), (0 : Int), (0 : Int), (0 : Int), (0 : Int), (0 : Int), (0 : Int), (0 : Int), (0 : Int), (0 : Int), (0 : Int), (0 : Int), (0 : Int), (0 : Int), (0 : Int), (0 : Int), (0 : Int), (0 : Int), (0 : Int), (0 : Int), (0 : Int), (0 : Int), (0 : Int), (0 : Int), (0 : Int), (0 : Int), (0 : Int), (0 : Int), (0 : Int), (0 : Int), (0 : Int), (0 : Int), (0 : Int), (0 : Int), (0 : Int), (0 : Int), (0 : Int), (0 : Int), (0 : Int), (0 : Int), (0 : Int), (0 : Int), (0 : Int), (0 : Int), (0 : Int), (0 : Int), (0 : Int), (0 : Int), (0 : Int), (0 : Int), (0 : Int), (0 : Int), (0 : Int), (0 : Int), (0 : Int), (0 : Int), (0 : Int), (0 : Int), (0 : Int), (0 : Int), (0 : Int)] : List Int)) ++ (List.take ((96 : Nat) - (0 : Nat)) b)) ++ (List.drop ((0 : Nat) + (List.length (List.take ((96 : Nat) - (0 : Nat)) b))) ([(0 : Int), (0 : Int), (0 : Int), (0 : Int), (0 : Int), (0 : Int), (0 : Int), (0 : Int), (0 : Int), (0 : Int), (0 : Int), (0 : Int), (0 : Int), (0 : Int), (0 : Int), (0 : Int), (0 : Int), (0 : Int), (0 : Int), (0 : Int), (0 : Int), (0 : Int), (0 : Int), (0 : Int), (0 : Int), (0 : Int), (0 : Int), (0 : Int), (0 : Int), (0 : Int), (0 : Int), (0 : Int), (0 : Int), (0 : Int), (0 : Int), (0 : Int), (0 : Int), (0 : Int), (0 : Int), (0 : Int), (0 : Int), (0 : Int), (0 : Int), (0 : Int), (0 : Int), (0 : Int), (0 : Int), (0 : Int), (0 : Int), (0 : Int), (0 : Int), (0 : Int), (0 : Int), (0 : Int), (0 : Int), (0 : Int), (0 : Int), (0 : Int), (0 : Int), (0 : Int), (0 : Int), (0 : Int), (0 : Int), (0 : Int), (0 : Int), (0 : Int), (0 : Int), (0 : Int), (0 : Int), (0 : Int), (0 : Int), (0 : Int), (0 : Int), (0 : Int), (0 : Int), (0 : Int), (0 : Int), (0 : Int), (0 : Int), (0 : Int), (0 : Int), (0 : Int), (0 : Int), (0 : Int), (0 : Int), (0 : Int), (0 : Int), (0 : Int), (0 : Int), (0 : Int), (0 : Int), (0 : Int), (0 : Int), (0 : Int), (0 : Int), (0 : Int)] : List Int))))])), ps) ∧ AllQ ps := ⟨_, by kernel_rfl, qc (show ((0 : Int) ≤ (0 : Int)) from by decide) (qc (show ((0 : Int) ≤ (((96 : Nat) : Nat) : Int)) from by decide) (qc (show ((((96 : Nat) : Nat) : Int) ≤ (((96 : Nat) : Nat) : Int)) from by decide) (qc (show ((0 : Int) < (((96 : Nat) : Nat) : Int)) from by decide) (qn))))⟩
def sigP (b : List Int) : List Int := b.take 96 ++ List.replicate (96 - b.length) 0
def sgD : FnD DF
  | [.one (.words .u8 b)] => some (.v (.agg [.arr .u8 96 (sigP b)]), [b.length ≤ 140737488355328])
  | _ => none
noncomputable def gKe (Q : List (BoxSt DF.τ) → List (A0 DF.τ) → Option (AV DF.τ × List (BoxSt DF.τ) × List Prop)) (R : List (BoxSt DF.τ) → List (A0 DF.τ) → Option (AV DF.τ × List (BoxSt DF.τ) × List Prop)) : Gam DF := [(8, .fn headCD), (16, .op [false] newQ), (11, .op [true] openOkQ), (20, .op [true, false] fuseQ),
  (17, .fn sgD), (18, .op [true, false] Q), (13, .rd [true] lastR), (21, .op [true, false] crashQ), (15, .rd [true, false] R)]
noncomputable def gKeO := gKe appOkQ getOkR
noncomputable def gKeN := gKe appNoQ getNoR
def keSn (sg : List (List Int)) (ke : Int) (ls : List Rec) (d : DkT) (i : Int) : Sn DF.τ where
  slots := [(1, .v (.one (.wordss .u8 sg))), (3, .v (.one (.int .i64 false ke))), (9, .v (.one (.ref 1 0))), (10, .v (.one (.ref 0 0))), (12, .v (.one (.own 4))), (13, .v (.one (.ref 5 0))), (14, .v (.one (.int .i64 false i)))]
  boxes := enumB 0 (chB ls false d ++ [.dyn 37 (.lrs lkSh ls), .fixed 37 [.int .i64 false 0, .arr .u8 96 (List.replicate 96 0)]])
  nt := 150
def keEd (ke : Int) (ls : List Rec) (d : DkT) (ur : Int) (us : List Int) : Sn DF.τ where
  slots := [(3, .v (.one (.int .i64 false ke))), (9, .v (.one (.ref 0 0))), (12, .v (.one (.own 2))), (13, .v (.one (.ref 3 0)))]
  boxes := enumB 0 (dkBt d ++ [.dyn 37 (.lrs lkSh ls), .fixed 37 [.int .i64 false ur, .arr .u8 96 us]])
  nt := 150
def keGo (ls l2 : List Rec) (d : DkT) (ur : Int) (us : List Int) (k : Int) : Sn DF.τ where
  slots := [(10, .v (.one (.ref 0 0))), (12, .v (.one (.own 4))), (13, .v (.one (.ref 5 0))), (108, .v (.one (.int .i64 false ls.length))), (109, .v (.one (.int .i64 false k)))]
  boxes := enumB 0 (chB l2 false d ++ [.dyn 37 (.lrs lkSh ls), .fixed 37 [.int .i64 false ur, .arr .u8 96 us]])
  nt := 150
def keZ (ls l2 : List Rec) (d : DkT) (ur : Int) (us : List Int) : Sn DF.τ where
  slots := [(10, .v (.one (.ref 0 0))), (12, .v (.one (.own 4))), (13, .v (.one (.ref 5 0)))]
  boxes := enumB 0 (chB l2 false d ++ [.dyn 37 (.lrs lkSh ls), .fixed 37 [.int .i64 false ur, .arr .u8 96 us]])
  nt := 150
theorem ke_ok (sg : List (List Int)) (ke : Int) (ls ls' : List Rec) (d d' : DkT) (i : Nat)
 (h1 : ((decide (((i : Nat) : Int) < (((List.length sg) : Nat) : Int))) = true))
 (h2 : ((decide (((i : Nat) : Int) < (60 : Int))) = true))
 (h3 : (InI64 ((((List.length ls) : Nat) : Int) + (1 : Int))))
 (h4 : ((0 : Int) ≤ ((i : Nat) : Int)))
 (h5 : (((i : Nat) : Int) < (((List.length sg) : Nat) : Int)))
 (h6 : ((List.length (List.getD sg (Int.toNat ((i : Nat) : Int)) ([] : List (Int)))) ≤ (140737488355328 : Nat)))
 (h7 : (ChOK (ls, (false, d))))
 (h8 : ((List.length (sigP (List.getD sg (Int.toNat ((i : Nat) : Int)) ([] : List (Int))))) = (96 : Nat)))
 (h9 : (((chAppM (ls, (false, d)) ((((List.length ls) : Nat) : Int) + (1 : Int)) (sigP (List.getD sg (Int.toNat ((i : Nat) : Int)) ([] : List (Int)))))).1 = (0 : Int)))
 (h10 : ((((List.length ls) + (1 : Nat)) * (104 : Nat)) ≤ (140737488355328 : Nat)))
 (h11 : (((List.length ls) + (1 : Nat)) ≤ (9223372036854775807 : Nat)))
 (h12 : (InI64 (((i : Nat) : Int) + (1 : Int))))
 (h13 : (((((chAppM (ls, (false, d)) ((((List.length ls) : Nat) : Int) + (1 : Int)) (sigP (List.getD sg (Int.toNat ((i : Nat) : Int)) ([] : List (Int)))))).2).2).1 = false))
 (h14 : ((((((chAppM (ls, (false, d)) ((((List.length ls) : Nat) : Int) + (1 : Int)) (sigP (List.getD sg (Int.toNat ((i : Nat) : Int)) ([] : List (Int)))))).2).2).2).1 = (d').1))
 (h15 : (((((((chAppM (ls, (false, d)) ((((List.length ls) : Nat) : Int) + (1 : Int)) (sigP (List.getD sg (Int.toNat ((i : Nat) : Int)) ([] : List (Int)))))).2).2).2).2).1 = ((d').2).1))
 (h16 : ((((((((chAppM (ls, (false, d)) ((((List.length ls) : Nat) : Int) + (1 : Int)) (sigP (List.getD sg (Int.toNat ((i : Nat) : Int)) ([] : List (Int)))))).2).2).2).2).2).1 = (((d').2).2).1))
 (h17 : (((((((((chAppM (ls, (false, d)) ((((List.length ls) : Nat) : Int) + (1 : Int)) (sigP (List.getD sg (Int.toNat ((i : Nat) : Int)) ([] : List (Int)))))).2).2).2).2).2).2).1 = ((((d').2).2).2).1))
 (h18 : ((((chAppM (ls, (false, d)) ((((List.length ls) : Nat) : Int) + (1 : Int)) (sigP (List.getD sg (Int.toNat ((i : Nat) : Int)) ([] : List (Int)))))).2).1 = ls'))
 (h19 : (((((((((chAppM (ls, (false, d)) ((((List.length ls) : Nat) : Int) + (1 : Int)) (sigP (List.getD sg (Int.toNat ((i : Nat) : Int)) ([] : List (Int)))))).2).2).2).2).2).2).2 = ((((d').2).2).2).2))
 (h20 : ((ls ++ [[(Fd.i ((((List.length ls) : Nat) : Int) + (1 : Int))), (Fd.w (sigP (List.getD sg (Int.toNat ((i : Nat) : Int)) ([] : List (Int)))))]]) = ls')) :
 ∃ ps, stepPs Tryd.prog DF gKeO 100 (bodyN Tryd.f5 0) 100 (keSn sg ke ls d i).st [.is true, .is true, .is true] .normal (keSn sg ke ls' d' ((i : Int) + 1)) = some ps ∧ AllQ ps := ⟨_, by kernel_rfl, qc h1 (qc h2 (qc h3 (qc h4 (qc h5 (qc h6 (qc (Eq.refl (((((List.length ls) : Nat) : Int) + (1 : Int)))) (qc (Eq.refl ((sigP (List.getD sg (Int.toNat ((i : Nat) : Int)) ([] : List (Int)))))) (qc (Eq.refl false) (qc (Eq.refl ((d).1)) (qc (Eq.refl (((d).2).1)) (qc (Eq.refl ((((d).2).2).1)) (qc (Eq.refl (((((d).2).2).2).1)) (qc (Eq.refl ls) (qc (Eq.refl (((((d).2).2).2).2)) (qc h7 (qc h8 (qc h9 (qc (show (((0 : Int) == (0 : Int)) = true) from by decide) (qc h10 (qc h11 (qc h12 (qc (Eq.refl sg) (qc (Eq.refl ke) (qc (Eq.refl ((((i : Nat) : Int) + (1 : Int)))) (qc h13 (qc h14 (qc h15 (qc h16 (qc h17 (qc h18 (qc h19 (qc h20 (qc (Eq.refl ((0 : Int))) (qc (Eq.refl ((List.replicate (96 : Nat) (0 : Int)))) (qn)))))))))))))))))))))))))))))))))))⟩
theorem ke_full (sg : List (List Int)) (ke : Int) (ls : List Rec) (d d' : DkT) (i : Nat)
 (h1 : ((decide (((i : Nat) : Int) < (((List.length sg) : Nat) : Int))) = true))
 (h2 : ((decide (((i : Nat) : Int) < (60 : Int))) = true))
 (h3 : (InI64 ((((List.length ls) : Nat) : Int) + (1 : Int))))
 (h4 : ((0 : Int) ≤ ((i : Nat) : Int)))
 (h5 : (((i : Nat) : Int) < (((List.length sg) : Nat) : Int)))
 (h6 : ((List.length (List.getD sg (Int.toNat ((i : Nat) : Int)) ([] : List (Int)))) ≤ (140737488355328 : Nat)))
 (h7 : (ChOK (ls, (false, d))))
 (h8 : ((List.length (sigP (List.getD sg (Int.toNat ((i : Nat) : Int)) ([] : List (Int))))) = (96 : Nat)))
 (h9 : (((chAppM (ls, (false, d)) ((((List.length ls) : Nat) : Int) + (1 : Int)) (sigP (List.getD sg (Int.toNat ((i : Nat) : Int)) ([] : List (Int)))))).1 ≠ (0 : Int)))
 (h10 : ((((chAppM (ls, (false, d)) ((((List.length ls) : Nat) : Int) + (1 : Int)) (sigP (List.getD sg (Int.toNat ((i : Nat) : Int)) ([] : List (Int)))))).1 == (0 : Int)) = false))
 (h11 : ((((chAppM (ls, (false, d)) ((((List.length ls) : Nat) : Int) + (1 : Int)) (sigP (List.getD sg (Int.toNat ((i : Nat) : Int)) ([] : List (Int)))))).1 == (42 : Int)) = true))
 (h12 : (((((List.length ls) : Nat) : Int) != (((List.length ls) : Nat) : Int)) = false))
 (h13 : (InI64 (((i : Nat) : Int) + (1 : Int))))
 (h14 : (((((chAppM (ls, (false, d)) ((((List.length ls) : Nat) : Int) + (1 : Int)) (sigP (List.getD sg (Int.toNat ((i : Nat) : Int)) ([] : List (Int)))))).2).2).1 = false))
 (h15 : ((((((chAppM (ls, (false, d)) ((((List.length ls) : Nat) : Int) + (1 : Int)) (sigP (List.getD sg (Int.toNat ((i : Nat) : Int)) ([] : List (Int)))))).2).2).2).1 = (d').1))
 (h16 : (((((((chAppM (ls, (false, d)) ((((List.length ls) : Nat) : Int) + (1 : Int)) (sigP (List.getD sg (Int.toNat ((i : Nat) : Int)) ([] : List (Int)))))).2).2).2).2).1 = ((d').2).1))
 (h17 : ((((((((chAppM (ls, (false, d)) ((((List.length ls) : Nat) : Int) + (1 : Int)) (sigP (List.getD sg (Int.toNat ((i : Nat) : Int)) ([] : List (Int)))))).2).2).2).2).2).1 = (((d').2).2).1))
 (h18 : (((((((((chAppM (ls, (false, d)) ((((List.length ls) : Nat) : Int) + (1 : Int)) (sigP (List.getD sg (Int.toNat ((i : Nat) : Int)) ([] : List (Int)))))).2).2).2).2).2).2).1 = ((((d').2).2).2).1))
 (h19 : (((((((((chAppM (ls, (false, d)) ((((List.length ls) : Nat) : Int) + (1 : Int)) (sigP (List.getD sg (Int.toNat ((i : Nat) : Int)) ([] : List (Int)))))).2).2).2).2).2).2).2 = ((((d').2).2).2).2)) :
 ∃ ps, stepPs Tryd.prog DF gKeN 100 (bodyN Tryd.f5 0) 100 (keSn sg ke ls d i).st [.is true, .is true, .is false, .is true, .is false] .normal (keSn sg ke ls d' ((i : Int) + 1)) = some ps ∧ AllQ ps := ⟨_, by kernel_rfl, qc h1 (qc h2 (qc h3 (qc h4 (qc h5 (qc h6 (qc (Eq.refl (((((List.length ls) : Nat) : Int) + (1 : Int)))) (qc (Eq.refl ((sigP (List.getD sg (Int.toNat ((i : Nat) : Int)) ([] : List (Int)))))) (qc (Eq.refl false) (qc (Eq.refl ((d).1)) (qc (Eq.refl (((d).2).1)) (qc (Eq.refl ((((d).2).2).1)) (qc (Eq.refl (((((d).2).2).2).1)) (qc (Eq.refl ls) (qc (Eq.refl (((((d).2).2).2).2)) (qc h7 (qc h8 (qc h9 (qc h10 (qc h11 (qc (Eq.refl (((((chAppM (ls, (false, d)) ((((List.length ls) : Nat) : Int) + (1 : Int)) (sigP (List.getD sg (Int.toNat ((i : Nat) : Int)) ([] : List (Int)))))).2).2).1)) (qc (Eq.refl ((((((chAppM (ls, (false, d)) ((((List.length ls) : Nat) : Int) + (1 : Int)) (sigP (List.getD sg (Int.toNat ((i : Nat) : Int)) ([] : List (Int)))))).2).2).2).1)) (qc (Eq.refl (((((((chAppM (ls, (false, d)) ((((List.length ls) : Nat) : Int) + (1 : Int)) (sigP (List.getD sg (Int.toNat ((i : Nat) : Int)) ([] : List (Int)))))).2).2).2).2).1)) (qc (Eq.refl ((((((((chAppM (ls, (false, d)) ((((List.length ls) : Nat) : Int) + (1 : Int)) (sigP (List.getD sg (Int.toNat ((i : Nat) : Int)) ([] : List (Int)))))).2).2).2).2).2).1)) (qc (Eq.refl (((((((((chAppM (ls, (false, d)) ((((List.length ls) : Nat) : Int) + (1 : Int)) (sigP (List.getD sg (Int.toNat ((i : Nat) : Int)) ([] : List (Int)))))).2).2).2).2).2).2).1)) (qc (Eq.refl ls) (qc (Eq.refl (((((((((chAppM (ls, (false, d)) ((((List.length ls) : Nat) : Int) + (1 : Int)) (sigP (List.getD sg (Int.toNat ((i : Nat) : Int)) ([] : List (Int)))))).2).2).2).2).2).2).2)) (qc h12 (qc h13 (qc (Eq.refl sg) (qc (Eq.refl ke) (qc (Eq.refl ((((i : Nat) : Int) + (1 : Int)))) (qc h14 (qc h15 (qc h16 (qc h17 (qc h18 (qc (Eq.refl ls) (qc h19 (qc (Eq.refl ls) (qc (Eq.refl ((0 : Int))) (qc (Eq.refl ((List.replicate (96 : Nat) (0 : Int)))) (qn))))))))))))))))))))))))))))))))))))))))))⟩
theorem ke_down (sg : List (List Int)) (ke : Int) (ls : List Rec) (d d' : DkT) (i : Nat) (ur : Int) (us : List Int)
 (h1 : ((decide (((i : Nat) : Int) < (((List.length sg) : Nat) : Int))) = true))
 (h2 : ((decide (((i : Nat) : Int) < (60 : Int))) = true))
 (h3 : (InI64 ((((List.length ls) : Nat) : Int) + (1 : Int))))
 (h4 : ((0 : Int) ≤ ((i : Nat) : Int)))
 (h5 : (((i : Nat) : Int) < (((List.length sg) : Nat) : Int)))
 (h6 : ((List.length (List.getD sg (Int.toNat ((i : Nat) : Int)) ([] : List (Int)))) ≤ (140737488355328 : Nat)))
 (h7 : (ChOK (ls, (false, d))))
 (h8 : ((List.length (sigP (List.getD sg (Int.toNat ((i : Nat) : Int)) ([] : List (Int))))) = (96 : Nat)))
 (h9 : (((chAppM (ls, (false, d)) ((((List.length ls) : Nat) : Int) + (1 : Int)) (sigP (List.getD sg (Int.toNat ((i : Nat) : Int)) ([] : List (Int)))))).1 ≠ (0 : Int)))
 (h10 : ((((chAppM (ls, (false, d)) ((((List.length ls) : Nat) : Int) + (1 : Int)) (sigP (List.getD sg (Int.toNat ((i : Nat) : Int)) ([] : List (Int)))))).1 == (0 : Int)) = false))
 (h11 : ((((chAppM (ls, (false, d)) ((((List.length ls) : Nat) : Int) + (1 : Int)) (sigP (List.getD sg (Int.toNat ((i : Nat) : Int)) ([] : List (Int)))))).1 == (42 : Int)) = false))
 (h12 : ((((chAppM (ls, (false, d)) ((((List.length ls) : Nat) : Int) + (1 : Int)) (sigP (List.getD sg (Int.toNat ((i : Nat) : Int)) ([] : List (Int)))))).1 != (2 : Int)) = false))
 (h13 : (ChOK (ls, (((chAppM (ls, (false, d)) ((((List.length ls) : Nat) : Int) + (1 : Int)) (sigP (List.getD sg (Int.toNat ((i : Nat) : Int)) ([] : List (Int)))))).2).2)))
 (h14 : (((chAppM (ls, (((chAppM (ls, (false, d)) ((((List.length ls) : Nat) : Int) + (1 : Int)) (sigP (List.getD sg (Int.toNat ((i : Nat) : Int)) ([] : List (Int)))))).2).2) ((((List.length ls) : Nat) : Int) + (1 : Int)) (sigP (List.getD sg (Int.toNat ((i : Nat) : Int)) ([] : List (Int)))))).1 ≠ (0 : Int)))
 (h15 : ((((chAppM (ls, (((chAppM (ls, (false, d)) ((((List.length ls) : Nat) : Int) + (1 : Int)) (sigP (List.getD sg (Int.toNat ((i : Nat) : Int)) ([] : List (Int)))))).2).2) ((((List.length ls) : Nat) : Int) + (1 : Int)) (sigP (List.getD sg (Int.toNat ((i : Nat) : Int)) ([] : List (Int)))))).1 != (2 : Int)) = false))
 (h16 : ((((((chAppM (ls, (((chAppM (ls, (false, d)) ((((List.length ls) : Nat) : Int) + (1 : Int)) (sigP (List.getD sg (Int.toNat ((i : Nat) : Int)) ([] : List (Int)))))).2).2) ((((List.length ls) : Nat) : Int) + (1 : Int)) (sigP (List.getD sg (Int.toNat ((i : Nat) : Int)) ([] : List (Int)))))).2).2).2).1 = (d').1))
 (h17 : (((((((chAppM (ls, (((chAppM (ls, (false, d)) ((((List.length ls) : Nat) : Int) + (1 : Int)) (sigP (List.getD sg (Int.toNat ((i : Nat) : Int)) ([] : List (Int)))))).2).2) ((((List.length ls) : Nat) : Int) + (1 : Int)) (sigP (List.getD sg (Int.toNat ((i : Nat) : Int)) ([] : List (Int)))))).2).2).2).2).1 = ((d').2).1))
 (h18 : ((((((((chAppM (ls, (((chAppM (ls, (false, d)) ((((List.length ls) : Nat) : Int) + (1 : Int)) (sigP (List.getD sg (Int.toNat ((i : Nat) : Int)) ([] : List (Int)))))).2).2) ((((List.length ls) : Nat) : Int) + (1 : Int)) (sigP (List.getD sg (Int.toNat ((i : Nat) : Int)) ([] : List (Int)))))).2).2).2).2).2).1 = (((d').2).2).1))
 (h19 : (((((((((chAppM (ls, (((chAppM (ls, (false, d)) ((((List.length ls) : Nat) : Int) + (1 : Int)) (sigP (List.getD sg (Int.toNat ((i : Nat) : Int)) ([] : List (Int)))))).2).2) ((((List.length ls) : Nat) : Int) + (1 : Int)) (sigP (List.getD sg (Int.toNat ((i : Nat) : Int)) ([] : List (Int)))))).2).2).2).2).2).2).1 = ((((d').2).2).2).1))
 (h20 : (((((((((chAppM (ls, (((chAppM (ls, (false, d)) ((((List.length ls) : Nat) : Int) + (1 : Int)) (sigP (List.getD sg (Int.toNat ((i : Nat) : Int)) ([] : List (Int)))))).2).2) ((((List.length ls) : Nat) : Int) + (1 : Int)) (sigP (List.getD sg (Int.toNat ((i : Nat) : Int)) ([] : List (Int)))))).2).2).2).2).2).2).2 = ((((d').2).2).2).2))
 (h21 : (((((List.length ls) : Nat) : Int) + (1 : Int)) = ur))
 (h22 : ((sigP (List.getD sg (Int.toNat ((i : Nat) : Int)) ([] : List (Int)))) = us)) :
 ∃ ps, stepPs Tryd.prog DF gKeN 100 (bodyN Tryd.f5 0) 100 (keSn sg ke ls d i).st [.is true, .is true, .is false, .is false, .is false, .is false] (.exit 0) (keEd ke ls d' ur us) = some ps ∧ AllQ ps := ⟨_, by kernel_rfl, qc h1 (qc h2 (qc h3 (qc h4 (qc h5 (qc h6 (qc (Eq.refl (((((List.length ls) : Nat) : Int) + (1 : Int)))) (qc (Eq.refl ((sigP (List.getD sg (Int.toNat ((i : Nat) : Int)) ([] : List (Int)))))) (qc (Eq.refl false) (qc (Eq.refl ((d).1)) (qc (Eq.refl (((d).2).1)) (qc (Eq.refl ((((d).2).2).1)) (qc (Eq.refl (((((d).2).2).2).1)) (qc (Eq.refl ls) (qc (Eq.refl (((((d).2).2).2).2)) (qc h7 (qc h8 (qc h9 (qc h10 (qc h11 (qc h12 (qc (Eq.refl (((((List.length ls) : Nat) : Int) + (1 : Int)))) (qc (Eq.refl ((sigP (List.getD sg (Int.toNat ((i : Nat) : Int)) ([] : List (Int)))))) (qc (Eq.refl (((((chAppM (ls, (false, d)) ((((List.length ls) : Nat) : Int) + (1 : Int)) (sigP (List.getD sg (Int.toNat ((i : Nat) : Int)) ([] : List (Int)))))).2).2).1)) (qc (Eq.refl ((((((chAppM (ls, (false, d)) ((((List.length ls) : Nat) : Int) + (1 : Int)) (sigP (List.getD sg (Int.toNat ((i : Nat) : Int)) ([] : List (Int)))))).2).2).2).1)) (qc (Eq.refl (((((((chAppM (ls, (false, d)) ((((List.length ls) : Nat) : Int) + (1 : Int)) (sigP (List.getD sg (Int.toNat ((i : Nat) : Int)) ([] : List (Int)))))).2).2).2).2).1)) (qc (Eq.refl ((((((((chAppM (ls, (false, d)) ((((List.length ls) : Nat) : Int) + (1 : Int)) (sigP (List.getD sg (Int.toNat ((i : Nat) : Int)) ([] : List (Int)))))).2).2).2).2).2).1)) (qc (Eq.refl (((((((((chAppM (ls, (false, d)) ((((List.length ls) : Nat) : Int) + (1 : Int)) (sigP (List.getD sg (Int.toNat ((i : Nat) : Int)) ([] : List (Int)))))).2).2).2).2).2).2).1)) (qc (Eq.refl ls) (qc (Eq.refl (((((((((chAppM (ls, (false, d)) ((((List.length ls) : Nat) : Int) + (1 : Int)) (sigP (List.getD sg (Int.toNat ((i : Nat) : Int)) ([] : List (Int)))))).2).2).2).2).2).2).2)) (qc h13 (qc h8 (qc h14 (qc h15 (qc (Eq.refl ke) (qc h16 (qc h17 (qc h18 (qc h19 (qc h20 (qc (Eq.refl ls) (qc h21 (qc h22 (qn)))))))))))))))))))))))))))))))))))))))))))⟩
theorem ke_end (sg : List (List Int)) (ke : Int) (ls : List Rec) (d d' : DkT) (i : Nat)
 (h1 : ((decide (((i : Nat) : Int) < (((List.length sg) : Nat) : Int))) = false)) :
 ∃ ps, stepPs Tryd.prog DF gKeN 100 (bodyN Tryd.f5 0) 100 (keSn sg ke ls d i).st [.is false] (.exit 0) (keEd ke ls d 0 (List.replicate 96 0)) = some ps ∧ AllQ ps := ⟨_, by kernel_rfl, qc h1 (qc (Eq.refl ke) (qc (Eq.refl ((d).1)) (qc (Eq.refl (((d).2).1)) (qc (Eq.refl ((((d).2).2).1)) (qc (Eq.refl (((((d).2).2).2).1)) (qc (Eq.refl (((((d).2).2).2).2)) (qc (Eq.refl ls) (qc (Eq.refl ((0 : Int))) (qc (Eq.refl ((List.replicate (96 : Nat) (0 : Int)))) (qn))))))))))⟩
theorem ke_sixty (sg : List (List Int)) (ke : Int) (ls : List Rec) (d d' : DkT) (i : Nat)
 (h1 : ((decide (((i : Nat) : Int) < (((List.length sg) : Nat) : Int))) = true))
 (h2 : ((decide (((i : Nat) : Int) < (60 : Int))) = false)) :
 ∃ ps, stepPs Tryd.prog DF gKeN 100 (bodyN Tryd.f5 0) 100 (keSn sg ke ls d i).st [.is true, .is false] (.exit 0) (keEd ke ls d 0 (List.replicate 96 0)) = some ps ∧ AllQ ps := ⟨_, by kernel_rfl, qc h1 (qc h2 (qc (Eq.refl ke) (qc (Eq.refl ((d).1)) (qc (Eq.refl (((d).2).1)) (qc (Eq.refl ((((d).2).2).1)) (qc (Eq.refl (((((d).2).2).2).1)) (qc (Eq.refl (((((d).2).2).2).2)) (qc (Eq.refl ls) (qc (Eq.refl ((0 : Int))) (qc (Eq.refl ((List.replicate (96 : Nat) (0 : Int)))) (qn)))))))))))⟩
theorem kg_step (ls l2 : List Rec) (d : DkT) (ur : Int) (us : List Int) (k : Nat)
 (h1 : ((decide (((k : Nat) : Int) < (((List.length ls) : Nat) : Int))) = true))
 (h2 : (InI64 (((k : Nat) : Int) + (1 : Int))))
 (h3 : ((1 : Int) ≤ (((k : Nat) : Int) + (1 : Int))))
 (h4 : ((((k : Nat) : Int) + (1 : Int)) ≤ (((List.length l2) : Nat) : Int)))
 (h5 : ((((k : Nat) : Int) + (1 : Int)) ≤ (9223372036854775807 : Int)))
 (h6 : ((0 : Int) ≤ ((k : Nat) : Int)))
 (h7 : (((k : Nat) : Int) < (((List.length ls) : Nat) : Int)))
 (h8 : ((Int.toNat ((k : Nat) : Int)) < (List.length ls)))
 (h9 : ((!(((recI (List.getD l2 (Int.toNat ((((k : Nat) : Int) + (1 : Int)) - (1 : Int))) ([] : List (Abs.Fd))) (0 : Nat)) == (recI (List.getD ls (Int.toNat ((k : Nat) : Int)) ([] : List (Abs.Fd))) (0 : Nat))) && ((decide ((recW (List.getD l2 (Int.toNat ((((k : Nat) : Int) + (1 : Int)) - (1 : Int))) ([] : List (Abs.Fd))) (1 : Nat)) = (recW (List.getD ls (Int.toNat ((k : Nat) : Int)) ([] : List (Abs.Fd))) ((0 : Nat) + (1 : Nat))))) && true))) = false))
 (h10 : (EqT Tryd.prog (37 : Nat))) :
 ∃ ps, stepPs Tryd.prog DF gKeO 100 (bodyN Tryd.f5 1) 100 (keGo ls l2 d ur us k).st [.is true, .is false] .normal (keGo ls l2 d ur us ((k : Int) + 1)) = some ps ∧ AllQ ps := ⟨_, by kernel_rfl, qc h1 (qc h2 (qc (Eq.refl ((((k : Nat) : Int) + (1 : Int)))) (qc (Eq.refl false) (qc (Eq.refl ((d).1)) (qc (Eq.refl (((d).2).1)) (qc (Eq.refl ((((d).2).2).1)) (qc (Eq.refl (((((d).2).2).2).1)) (qc (Eq.refl l2) (qc (Eq.refl (((((d).2).2).2).2)) (qc h3 (qc h4 (qc h5 (qc h6 (qc h7 (qc h8 (qc h9 (qc h10 (qc h2 (qc (Eq.refl ((((List.length ls) : Nat) : Int))) (qc (Eq.refl ((((k : Nat) : Int) + (1 : Int)))) (qc (Eq.refl false) (qc (Eq.refl ((d).1)) (qc (Eq.refl (((d).2).1)) (qc (Eq.refl ((((d).2).2).1)) (qc (Eq.refl (((((d).2).2).2).1)) (qc (Eq.refl l2) (qc (Eq.refl (((((d).2).2).2).2)) (qc (Eq.refl ls) (qc (Eq.refl ur) (qc (Eq.refl us) (qn)))))))))))))))))))))))))))))))⟩
theorem kg_exit (ls l2 : List Rec) (d : DkT) (ur : Int) (us : List Int) (k : Nat)
 (h1 : ((decide (((k : Nat) : Int) < (((List.length ls) : Nat) : Int))) = false)) :
 ∃ ps, stepPs Tryd.prog DF gKeO 100 (bodyN Tryd.f5 1) 100 (keGo ls l2 d ur us k).st [.is false] (.exit 2) (keZ ls l2 d ur us) = some ps ∧ AllQ ps := ⟨_, by kernel_rfl, qc h1 (qc (Eq.refl false) (qc (Eq.refl ((d).1)) (qc (Eq.refl (((d).2).1)) (qc (Eq.refl ((((d).2).2).1)) (qc (Eq.refl (((((d).2).2).2).1)) (qc (Eq.refl l2) (qc (Eq.refl (((((d).2).2).2).2)) (qc (Eq.refl ls) (qc (Eq.refl ur) (qc (Eq.refl us) (qn)))))))))))⟩
theorem ke_no (ro fu ke : Int) (sg : List (List Int)) (ls l2 : List Rec) (d d2 : DkT) (ur : Int) (us : List Int)
 (h1 : (OkN ((clampR ro), ((0 : Int), ((0 : Int), (false, ([] : List (Rec × Ob)))))) (4611686018427387000 : Int)))
 (h2 : (((openM ((clampR ro), ((0 : Int), ((0 : Int), (false, ([] : List (Rec × Ob)))))))).1 = (0 : Int)))
 (h3 : SumOK Tryd.prog DF (bodyN Tryd.f5 0) (loopL DF (keSn sg ke [] (fuseM (clampR ro, 0, 0, false, []) fu) 0) (.exit 0) (keEd ke ls d ur us)))
 (h4 : (((fuseM (((openM ((clampR ro), ((0 : Int), ((0 : Int), (false, ([] : List (Rec × Ob)))))))).2).2 fu)).1 = ((fuseM ((clampR ro), ((0 : Int), ((0 : Int), (false, ([] : List (Rec × Ob)))))) fu)).1))
 (h5 : ((((fuseM (((openM ((clampR ro), ((0 : Int), ((0 : Int), (false, ([] : List (Rec × Ob)))))))).2).2 fu)).2).1 = (((fuseM ((clampR ro), ((0 : Int), ((0 : Int), (false, ([] : List (Rec × Ob)))))) fu)).2).1))
 (h6 : (((((fuseM (((openM ((clampR ro), ((0 : Int), ((0 : Int), (false, ([] : List (Rec × Ob)))))))).2).2 fu)).2).2).1 = ((((fuseM ((clampR ro), ((0 : Int), ((0 : Int), (false, ([] : List (Rec × Ob)))))) fu)).2).2).1))
 (h7 : ((((((fuseM (((openM ((clampR ro), ((0 : Int), ((0 : Int), (false, ([] : List (Rec × Ob)))))))).2).2 fu)).2).2).2).1 = (((((fuseM ((clampR ro), ((0 : Int), ((0 : Int), (false, ([] : List (Rec × Ob)))))) fu)).2).2).2).1))
 (h8 : ((((openM ((clampR ro), ((0 : Int), ((0 : Int), (false, ([] : List (Rec × Ob)))))))).2).1 = ([] : List (Rec))))
 (h9 : ((((((fuseM (((openM ((clampR ro), ((0 : Int), ((0 : Int), (false, ([] : List (Rec × Ob)))))))).2).2 fu)).2).2).2).2 = (((((fuseM ((clampR ro), ((0 : Int), ((0 : Int), (false, ([] : List (Rec × Ob)))))) fu)).2).2).2).2))
 (h10 : (Okd d))
 (h11 : (OkN (crashM d ([ke] : List Int)) (4611686018427387000 : Int)))
 (h12 : (((openM (crashM d ([ke] : List Int)))).1 = (0 : Int)))
 (h13 : ((decide ((((List.length (((openM (crashM d ([ke] : List Int)))).2).1) : Nat) : Int) < (((List.length ls) : Nat) : Int))) = false))
 (h14 : (InI64 ((((List.length ls) : Nat) : Int) + (1 : Int))))
 (h15 : ((decide ((((List.length (((openM (crashM d ([ke] : List Int)))).2).1) : Nat) : Int) > ((((List.length ls) : Nat) : Int) + (1 : Int)))) = false))
 (h16 : SumOK Tryd.prog DF (bodyN Tryd.f5 1) (loopL DF (keGo ls l2 d2 ur us 0) (.exit 2) (keZ ls l2 d2 ur us)))
 (h17 : (((((openM (crashM d ([ke] : List Int)))).2).2).1 = (d2).1))
 (h18 : ((((((openM (crashM d ([ke] : List Int)))).2).2).2).1 = ((d2).2).1))
 (h19 : (((((((openM (crashM d ([ke] : List Int)))).2).2).2).2).1 = (((d2).2).2).1))
 (h20 : ((((((((openM (crashM d ([ke] : List Int)))).2).2).2).2).2).1 = ((((d2).2).2).2).1))
 (h21 : ((((openM (crashM d ([ke] : List Int)))).2).1 = l2))
 (h22 : ((((((((openM (crashM d ([ke] : List Int)))).2).2).2).2).2).2 = ((((d2).2).2).2).2))
 (h23 : ((((((List.length ls) : Nat) : Int) + (1 : Int)) < (1 : Int)) ∨ ((((List.length l2) : Nat) : Int) < ((((List.length ls) : Nat) : Int) + (1 : Int))))) :
 ∃ ps, runF Tryd.prog DF gKeN 100 Tryd.f5 [.one (.int .i64 false ro), .one (.wordss .u8 sg), .one (.int .i64 false fu), .one (.int .i64 false ke)] [.loop (loopL DF (keSn sg ke [] (fuseM (clampR ro, 0, 0, false, []) fu) 0) (.exit 0) (keEd ke ls d ur us)), .is false, .is false, .loop (loopL DF (keGo ls l2 d2 ur us 0) (.exit 2) (keZ ls l2 d2 ur us))] = some ((AV.v (A0.one (Part.bool true true))), ps) ∧ AllQ ps := ⟨_, by kernel_rfl, qc (Eq.refl ro) (qc (Eq.refl ((clampR ro))) (qc (Eq.refl ((0 : Int))) (qc (Eq.refl ((0 : Int))) (qc (Eq.refl false) (qc (Eq.refl (([] : List (Rec × Ob)))) (qc h1 (qc h2 (qc (Eq.refl fu) (qc (Eq.refl (((((openM ((clampR ro), ((0 : Int), ((0 : Int), (false, ([] : List (Rec × Ob)))))))).2).2).1)) (qc (Eq.refl ((((((openM ((clampR ro), ((0 : Int), ((0 : Int), (false, ([] : List (Rec × Ob)))))))).2).2).2).1)) (qc (Eq.refl (((((((openM ((clampR ro), ((0 : Int), ((0 : Int), (false, ([] : List (Rec × Ob)))))))).2).2).2).2).1)) (qc (Eq.refl ((((((((openM ((clampR ro), ((0 : Int), ((0 : Int), (false, ([] : List (Rec × Ob)))))))).2).2).2).2).2).1)) (qc (Eq.refl ((((((((openM ((clampR ro), ((0 : Int), ((0 : Int), (false, ([] : List (Rec × Ob)))))))).2).2).2).2).2).2)) (qc h3 (qc (Eq.refl sg) (qc (Eq.refl ke) (qc (Eq.refl ((0 : Int))) (qc (Eq.refl false) (qc h4 (qc h5 (qc h6 (qc h7 (qc h8 (qc h9 (qc (Eq.refl (([] : List (Rec)))) (qc (Eq.refl ((0 : Int))) (qc (show (([(0 : Int), (0 : Int), (0 : Int), (0 : Int), (0 : Int), (0 : Int), (0 : Int), (0 : Int), (0 : Int), (0 : Int), (0 : Int), (0 : Int), (0 : Int), (0 : Int), (0 : Int), (0 : Int), (0 : Int), (0 : Int), (0 : Int), (0 : Int), (0 : Int), (0 : Int), (0 : Int), (0 : Int), (0 : Int), (0 : Int), (0 : Int), (0 : Int), (0 : Int), (0 : Int), (0 : Int), (0 : Int), (0 : Int), (0 : Int), (0 : Int), (0 : Int), (0 : Int), (0 : Int), (0 : Int), (0 : Int), (0 : Int), (0 : Int), (0 : Int), (0 : Int), (0 : Int), (0 : Int), (0 : Int), (0 : Int), (0 : Int), (0 : Int), (0 : Int), (0 : Int), (0 : Int), (0 : Int), (0 : Int), (0 : Int), (0 : Int), (0 : Int), (0 : Int), (0 : Int), (0 : Int), (0 : Int), (0 : Int), (0 : Int), (0 : Int), (0 : Int), (0 : Int), (0 : Int), (0 : Int), (0 : Int), (0 : Int), (0 : Int), (0 : Int), (0 : Int), (0 : Int), (0 : Int), (0 : Int), (0 : Int), (0 : Int), (0 : Int), (0 : Int), (0 : Int), (0 : Int), (0 : Int), (0 : Int), (0 : Int), (0 : Int), (0 : Int), (0 : Int), (0 : Int), (0 : Int), (0 : Int), (0 : Int), (0 : Int), (0 : Int), (0 : Int)] : List Int) = (List.replicate (96 : Nat) (0 : Int))) from by decide) (qc (Eq.refl (([ke] : List Int))) (qc (Eq.refl ((d).1)) (qc (Eq.refl (((d).2).1)) (qc (Eq.refl ((((d).2).2).1)) (qc (Eq.refl (((((d).2).2).2).1)) (qc (Eq.refl (((((d).2).2).2).2)) (qc h10 (qc (Eq.refl (((crashM d ([ke] : List Int))).1)) (qc (Eq.refl ((((crashM d ([ke] : List Int))).2).1)) (qc (Eq.refl (((((crashM d ([ke] : List Int))).2).2).1)) (qc (Eq.refl ((((((crashM d ([ke] : List Int))).2).2).2).1)) (qc (Eq.refl ((((((crashM d ([ke] : List Int))).2).2).2).2)) (qc h11 (qc h12 (qc (Eq.refl false) (qc (Eq.refl (((((openM (crashM d ([ke] : List Int)))).2).2).1)) (qc (Eq.refl ((((((openM (crashM d ([ke] : List Int)))).2).2).2).1)) (qc (Eq.refl (((((((openM (crashM d ([ke] : List Int)))).2).2).2).2).1)) (qc (Eq.refl ((((((((openM (crashM d ([ke] : List Int)))).2).2).2).2).2).1)) (qc (Eq.refl ((((openM (crashM d ([ke] : List Int)))).2).1)) (qc (Eq.refl ((((((((openM (crashM d ([ke] : List Int)))).2).2).2).2).2).2)) (qc h13 (qc (Eq.refl false) (qc (Eq.refl (((((openM (crashM d ([ke] : List Int)))).2).2).1)) (qc (Eq.refl ((((((openM (crashM d ([ke] : List Int)))).2).2).2).1)) (qc (Eq.refl (((((((openM (crashM d ([ke] : List Int)))).2).2).2).2).1)) (qc (Eq.refl ((((((((openM (crashM d ([ke] : List Int)))).2).2).2).2).2).1)) (qc (Eq.refl ((((openM (crashM d ([ke] : List Int)))).2).1)) (qc (Eq.refl ((((((((openM (crashM d ([ke] : List Int)))).2).2).2).2).2).2)) (qc h14 (qc h15 (qc h16 (qc (Eq.refl ((((List.length ls) : Nat) : Int))) (qc (Eq.refl ((0 : Int))) (qc (Eq.refl false) (qc h17 (qc h18 (qc h19 (qc h20 (qc h21 (qc h22 (qc (Eq.refl ls) (qc (Eq.refl ur) (qc (Eq.refl us) (qc h14 (qc (Eq.refl (((((List.length ls) : Nat) : Int) + (1 : Int)))) (qc (Eq.refl false) (qc (Eq.refl ((d2).1)) (qc (Eq.refl (((d2).2).1)) (qc (Eq.refl ((((d2).2).2).1)) (qc (Eq.refl (((((d2).2).2).2).1)) (qc (Eq.refl l2) (qc (Eq.refl (((((d2).2).2).2).2)) (qc h23 (qn))))))))))))))))))))))))))))))))))))))))))))))))))))))))))))))))))))))))))))))))))⟩
theorem ke_yes (ro fu ke : Int) (sg : List (List Int)) (ls l2 : List Rec) (d d2 : DkT) (ur : Int) (us : List Int)
 (h1 : (OkN ((clampR ro), ((0 : Int), ((0 : Int), (false, ([] : List (Rec × Ob)))))) (4611686018427387000 : Int)))
 (h2 : (((openM ((clampR ro), ((0 : Int), ((0 : Int), (false, ([] : List (Rec × Ob)))))))).1 = (0 : Int)))
 (h3 : SumOK Tryd.prog DF (bodyN Tryd.f5 0) (loopL DF (keSn sg ke [] (fuseM (clampR ro, 0, 0, false, []) fu) 0) (.exit 0) (keEd ke ls d ur us)))
 (h4 : (((fuseM (((openM ((clampR ro), ((0 : Int), ((0 : Int), (false, ([] : List (Rec × Ob)))))))).2).2 fu)).1 = ((fuseM ((clampR ro), ((0 : Int), ((0 : Int), (false, ([] : List (Rec × Ob)))))) fu)).1))
 (h5 : ((((fuseM (((openM ((clampR ro), ((0 : Int), ((0 : Int), (false, ([] : List (Rec × Ob)))))))).2).2 fu)).2).1 = (((fuseM ((clampR ro), ((0 : Int), ((0 : Int), (false, ([] : List (Rec × Ob)))))) fu)).2).1))
 (h6 : (((((fuseM (((openM ((clampR ro), ((0 : Int), ((0 : Int), (false, ([] : List (Rec × Ob)))))))).2).2 fu)).2).2).1 = ((((fuseM ((clampR ro), ((0 : Int), ((0 : Int), (false, ([] : List (Rec × Ob)))))) fu)).2).2).1))
 (h7 : ((((((fuseM (((openM ((clampR ro), ((0 : Int), ((0 : Int), (false, ([] : List (Rec × Ob)))))))).2).2 fu)).2).2).2).1 = (((((fuseM ((clampR ro), ((0 : Int), ((0 : Int), (false, ([] : List (Rec × Ob)))))) fu)).2).2).2).1))
 (h8 : ((((openM ((clampR ro), ((0 : Int), ((0 : Int), (false, ([] : List (Rec × Ob)))))))).2).1 = ([] : List (Rec))))
 (h9 : ((((((fuseM (((openM ((clampR ro), ((0 : Int), ((0 : Int), (false, ([] : List (Rec × Ob)))))))).2).2 fu)).2).2).2).2 = (((((fuseM ((clampR ro), ((0 : Int), ((0 : Int), (false, ([] : List (Rec × Ob)))))) fu)).2).2).2).2))
 (h10 : (Okd d))
 (h11 : (OkN (crashM d ([ke] : List Int)) (4611686018427387000 : Int)))
 (h12 : (((openM (crashM d ([ke] : List Int)))).1 = (0 : Int)))
 (h13 : ((decide ((((List.length (((openM (crashM d ([ke] : List Int)))).2).1) : Nat) : Int) < (((List.length ls) : Nat) : Int))) = false))
 (h14 : (InI64 ((((List.length ls) : Nat) : Int) + (1 : Int))))
 (h15 : ((decide ((((List.length (((openM (crashM d ([ke] : List Int)))).2).1) : Nat) : Int) > ((((List.length ls) : Nat) : Int) + (1 : Int)))) = false))
 (h16 : SumOK Tryd.prog DF (bodyN Tryd.f5 1) (loopL DF (keGo ls l2 d2 ur us 0) (.exit 2) (keZ ls l2 d2 ur us)))
 (h17 : (((((openM (crashM d ([ke] : List Int)))).2).2).1 = (d2).1))
 (h18 : ((((((openM (crashM d ([ke] : List Int)))).2).2).2).1 = ((d2).2).1))
 (h19 : (((((((openM (crashM d ([ke] : List Int)))).2).2).2).2).1 = (((d2).2).2).1))
 (h20 : ((((((((openM (crashM d ([ke] : List Int)))).2).2).2).2).2).1 = ((((d2).2).2).2).1))
 (h21 : ((((openM (crashM d ([ke] : List Int)))).2).1 = l2))
 (h22 : ((((((((openM (crashM d ([ke] : List Int)))).2).2).2).2).2).2 = ((((d2).2).2).2).2))
 (h23 : ((1 : Int) ≤ ((((List.length ls) : Nat) : Int) + (1 : Int))))
 (h24 : (((((List.length ls) : Nat) : Int) + (1 : Int)) ≤ (((List.length l2) : Nat) : Int)))
 (h25 : (((((List.length ls) : Nat) : Int) + (1 : Int)) ≤ (9223372036854775807 : Int)))
 (h26 : ((((recI (List.getD l2 (Int.toNat (((((List.length ls) : Nat) : Int) + (1 : Int)) - (1 : Int))) ([] : List (Abs.Fd))) (0 : Nat)) == ur) && ((decide ((recW (List.getD l2 (Int.toNat (((((List.length ls) : Nat) : Int) + (1 : Int)) - (1 : Int))) ([] : List (Abs.Fd))) (1 : Nat)) = us)) && true)) = true))
 (h27 : (EqT Tryd.prog (37 : Nat)))
 (h28 : ((decide (ur > (0 : Int))) = true)) :
 ∃ ps, runF Tryd.prog DF gKeO 100 Tryd.f5 [.one (.int .i64 false ro), .one (.wordss .u8 sg), .one (.int .i64 false fu), .one (.int .i64 false ke)] [.loop (loopL DF (keSn sg ke [] (fuseM (clampR ro, 0, 0, false, []) fu) 0) (.exit 0) (keEd ke ls d ur us)), .is false, .is false, .loop (loopL DF (keGo ls l2 d2 ur us 0) (.exit 2) (keZ ls l2 d2 ur us)), .is true, .is true] = some ((AV.v (A0.one (Part.bool true true))), ps) ∧ AllQ ps := ⟨_, by kernel_rfl, qc (Eq.refl ro) (qc (Eq.refl ((clampR ro))) (qc (Eq.refl ((0 : Int))) (qc (Eq.refl ((0 : Int))) (qc (Eq.refl false) (qc (Eq.refl (([] : List (Rec × Ob)))) (qc h1 (qc h2 (qc (Eq.refl fu) (qc (Eq.refl (((((openM ((clampR ro), ((0 : Int), ((0 : Int), (false, ([] : List (Rec × Ob)))))))).2).2).1)) (qc (Eq.refl ((((((openM ((clampR ro), ((0 : Int), ((0 : Int), (false, ([] : List (Rec × Ob)))))))).2).2).2).1)) (qc (Eq.refl (((((((openM ((clampR ro), ((0 : Int), ((0 : Int), (false, ([] : List (Rec × Ob)))))))).2).2).2).2).1)) (qc (Eq.refl ((((((((openM ((clampR ro), ((0 : Int), ((0 : Int), (false, ([] : List (Rec × Ob)))))))).2).2).2).2).2).1)) (qc (Eq.refl ((((((((openM ((clampR ro), ((0 : Int), ((0 : Int), (false, ([] : List (Rec × Ob)))))))).2).2).2).2).2).2)) (qc h3 (qc (Eq.refl sg) (qc (Eq.refl ke) (qc (Eq.refl ((0 : Int))) (qc (Eq.refl false) (qc h4 (qc h5 (qc h6 (qc h7 (qc h8 (qc h9 (qc (Eq.refl (([] : List (Rec)))) (qc (Eq.refl ((0 : Int))) (qc (show (([(0 : Int), (0 : Int), (0 : Int), (0 : Int), (0 : Int), (0 : Int), (0 : Int), (0 : Int), (0 : Int), (0 : Int), (0 : Int), (0 : Int), (0 : Int), (0 : Int), (0 : Int), (0 : Int), (0 : Int), (0 : Int), (0 : Int), (0 : Int), (0 : Int), (0 : Int), (0 : Int), (0 : Int), (0 : Int), (0 : Int), (0 : Int), (0 : Int), (0 : Int), (0 : Int), (0 : Int), (0 : Int), (0 : Int), (0 : Int), (0 : Int), (0 : Int), (0 : Int), (0 : Int), (0 : Int), (0 : Int), (0 : Int), (0 : Int), (0 : Int), (0 : Int), (0 : Int), (0 : Int), (0 : Int), (0 : Int), (0 : Int), (0 : Int), (0 : Int), (0 : Int), (0 : Int), (0 : Int), (0 : Int), (0 : Int), (0 : Int), (0 : Int), (0 : Int), (0 : Int), (0 : Int), (0 : Int), (0 : Int), (0 : Int), (0 : Int), (0 : Int), (0 : Int), (0 : Int), (0 : Int), (0 : Int), (0 : Int), (0 : Int), (0 : Int), (0 : Int), (0 : Int), (0 : Int), (0 : Int), (0 : Int), (0 : Int), (0 : Int), (0 : Int), (0 : Int), (0 : Int), (0 : Int), (0 : Int), (0 : Int), (0 : Int), (0 : Int), (0 : Int), (0 : Int), (0 : Int), (0 : Int), (0 : Int), (0 : Int), (0 : Int), (0 : Int)] : List Int) = (List.replicate (96 : Nat) (0 : Int))) from by decide) (qc (Eq.refl (([ke] : List Int))) (qc (Eq.refl ((d).1)) (qc (Eq.refl (((d).2).1)) (qc (Eq.refl ((((d).2).2).1)) (qc (Eq.refl (((((d).2).2).2).1)) (qc (Eq.refl (((((d).2).2).2).2)) (qc h10 (qc (Eq.refl (((crashM d ([ke] : List Int))).1)) (qc (Eq.refl ((((crashM d ([ke] : List Int))).2).1)) (qc (Eq.refl (((((crashM d ([ke] : List Int))).2).2).1)) (qc (Eq.refl ((((((crashM d ([ke] : List Int))).2).2).2).1)) (qc (Eq.refl ((((((crashM d ([ke] : List Int))).2).2).2).2)) (qc h11 (qc h12 (qc (Eq.refl false) (qc (Eq.refl (((((openM (crashM d ([ke] : List Int)))).2).2).1)) (qc (Eq.refl ((((((openM (crashM d ([ke] : List Int)))).2).2).2).1)) (qc (Eq.refl (((((((openM (crashM d ([ke] : List Int)))).2).2).2).2).1)) (qc (Eq.refl ((((((((openM (crashM d ([ke] : List Int)))).2).2).2).2).2).1)) (qc (Eq.refl ((((openM (crashM d ([ke] : List Int)))).2).1)) (qc (Eq.refl ((((((((openM (crashM d ([ke] : List Int)))).2).2).2).2).2).2)) (qc h13 (qc (Eq.refl false) (qc (Eq.refl (((((openM (crashM d ([ke] : List Int)))).2).2).1)) (qc (Eq.refl ((((((openM (crashM d ([ke] : List Int)))).2).2).2).1)) (qc (Eq.refl (((((((openM (crashM d ([ke] : List Int)))).2).2).2).2).1)) (qc (Eq.refl ((((((((openM (crashM d ([ke] : List Int)))).2).2).2).2).2).1)) (qc (Eq.refl ((((openM (crashM d ([ke] : List Int)))).2).1)) (qc (Eq.refl ((((((((openM (crashM d ([ke] : List Int)))).2).2).2).2).2).2)) (qc h14 (qc h15 (qc h16 (qc (Eq.refl ((((List.length ls) : Nat) : Int))) (qc (Eq.refl ((0 : Int))) (qc (Eq.refl false) (qc h17 (qc h18 (qc h19 (qc h20 (qc h21 (qc h22 (qc (Eq.refl ls) (qc (Eq.refl ur) (qc (Eq.refl us) (qc h14 (qc (Eq.refl (((((List.length ls) : Nat) : Int) + (1 : Int)))) (qc (Eq.refl false) (qc (Eq.refl ((d2).1)) (qc (Eq.refl (((d2).2).1)) (qc (Eq.refl ((((d2).2).2).1)) (qc (Eq.refl (((((d2).2).2).2).1)) (qc (Eq.refl l2) (qc (Eq.refl (((((d2).2).2).2).2)) (qc h23 (qc h24 (qc h25 (qc h26 (qc h27 (qc h28 (qn)))))))))))))))))))))))))))))))))))))))))))))))))))))))))))))))))))))))))))))))))))))))⟩
theorem sigP_len (b : List Int) : (sigP b).length = 96 := by
  unfold sigP
  rw [List.length_append, List.length_take, List.length_replicate]
  omega
set_option maxRecDepth 100000 in
theorem sg_ok : FnOK Tryd.prog DF 17 sgD := by
  refine fnOK_of gam_nil mixed Tryd.func17 (enters_of Tryd.func17 (by kernel_rfl) rfl) ?_
  intro xs r ps h hps
  unfold sgD at h
  split at h
  · rename_i b
    simp only [Option.some.injEq, Prod.mk.injEq] at h
    obtain ⟨rfl, rfl⟩ := h
    obtain ⟨qs, q1, q2⟩ := sg_run b
    refine ⟨_, _, _, _, _, ?_, q1, q2, ?_⟩
    · exact fun w vs hx => hx
    · intro E v hv
      have e : ∀ x : List Int, x = sigP b → AVRel DF E (.v (.agg [.arr .u8 96 x])) v → AVRel DF E (.v (.agg [.arr .u8 96 (sigP b)])) v := by
        rintro _ rfl h
        exact h
      refine e _ ?_ hv
      unfold sigP
      have hz : ∀ n, List.drop n (List.replicate 96 (0 : Int)) = List.replicate (96 - n) 0 := fun n => List.drop_replicate ..
      show List.take 0 (List.replicate 96 (0 : Int)) ++ List.take (96 - 0) b ++ List.drop (0 + (List.take (96 - 0) b).length) (List.replicate 96 (0 : Int)) = _
      rw [hz, List.take_zero, List.nil_append, List.length_take]
      congr 2
      omega
  · cases h
def lnF : Nat → List (List Int) → List Rec
  | _, [] => []
  | k, s :: ss => [.i ((k : Int) + 1), .w s] :: lnF (k + 1) ss
def catF : Nat → List (List Int) → List Int
  | _, [] => []
  | k, s :: ss => frameL ((k : Int) + 1) s ++ catF (k + 1) ss
def SigOK (s : List Int) : Prop := s.length = 96
theorem lnF_len : ∀ (k : Nat) (ss : List (List Int)), (lnF k ss).length = ss.length
  | _, [] => rfl
  | k, s :: ss => by simp [lnF, lnF_len (k + 1) ss]
theorem catF_len : ∀ (k : Nat) (ss : List (List Int)), (∀ s ∈ ss, SigOK s) → (catF k ss).length = 112 * ss.length
  | _, [], _ => rfl
  | k, s :: ss, h => by
    have h1 : s.length = 96 := h s (List.mem_cons_self ..)
    simp only [catF, List.length_append, frameL_len h1, List.length_cons, catF_len (k + 1) ss (fun x hx => h x (List.mem_cons_of_mem _ hx))]
    omega
theorem lnF_snoc : ∀ (k : Nat) (ss : List (List Int)) (s : List Int), lnF k (ss ++ [s]) = lnF k ss ++ [[.i (((k + ss.length : Nat) : Int) + 1), .w s]]
  | _, [], _ => rfl
  | k, a :: ss, s => by
    simp only [List.cons_append, lnF, lnF_snoc (k + 1) ss s, List.length_cons]
    rw [show k + 1 + ss.length = k + (ss.length + 1) from by omega]
theorem catF_snoc : ∀ (k : Nat) (ss : List (List Int)) (s : List Int), catF k (ss ++ [s]) = catF k ss ++ frameL (((k + ss.length : Nat) : Int) + 1) s
  | _, [], s => by simp [catF]
  | k, a :: ss, s => by
    simp only [List.cons_append, catF, catF_snoc (k + 1) ss s, List.length_cons, List.append_assoc]
    rw [show k + 1 + ss.length = k + (ss.length + 1) from by omega]
theorem frame_parts {r : Int} {s : List Int} (h : s.length = 96) : (frameL r s).take 8 = rndB r ∧ (frameL r s).take 104 = bodyL r s ∧ (frameL r s).drop 104 = sumL (bodyL r s) ∧ sigB (frameL r s) = s := by
  have hb : (bodyL r s).length = 104 := by unfold bodyL; rw [List.length_append, rndB_len, h]
  have h1 : (frameL r s).take 104 = bodyL r s := by unfold frameL; exact List.take_left' hb
  have h2 : (frameL r s).drop 104 = sumL (bodyL r s) := by unfold frameL; exact List.drop_left' hb
  have h3 : (frameL r s).take 8 = rndB r := by
    unfold frameL bodyL
    rw [List.append_assoc]
    exact List.take_left' (rndB_len r)
  refine ⟨h3, h1, h2, ?_⟩
  unfold sigB
  rw [h1]
  unfold bodyL
  rw [List.drop_left' (rndB_len r)]
  exact List.take_of_length_le (by omega)
theorem frame_fit {r : Int} {s : List Int} (h : s.length = 96) : fitsB (frameL r s) r := by
  obtain ⟨h1, h2, h3, _⟩ := frame_parts (r := r) h
  unfold fitsB
  rw [h1, h2, h3]
  refine ⟨?_, (List.take_of_length_le (by rw [sumL_len]; exact Nat.le_refl _)).symm⟩
  rw [nIt_be (inB_rnd r) (Nat.le_of_eq (rndB_len r).symm) (Nat.le_refl _), List.take_of_length_le (Nat.le_of_eq (rndB_len r)), rndB_be, be_beB, IntKind.wrap_u64]
  rfl
theorem opNx_cat {s : List Int} (hs : SigOK s) (t : List Int) (ls : List Rec) : opNx (frameL ((ls.length : Int) + 1) s ++ t, ls) = some (t, ls ++ [[.i ((ls.length : Int) + 1), .w s]]) := by
  have hl := frameL_len (r := (ls.length : Int) + 1) hs
  have h1 : (frameL ((ls.length : Int) + 1) s ++ t).take 112 = frameL ((ls.length : Int) + 1) s := List.take_left' hl
  have h2 : (frameL ((ls.length : Int) + 1) s ++ t).drop 112 = t := List.drop_left' hl
  unfold opNx
  simp only
  rw [h1, h2, (frame_parts hs).2.2.2, if_pos ⟨by rw [List.length_append, hl]; omega, frame_fit hs⟩]
theorem goOn_cat : ∀ (ss : List (List Int)) (k g : Nat) (ls : List Rec) (t : List Int), (∀ s ∈ ss, SigOK s) → ls.length = k → opNx (t, ls ++ lnF k ss) = none → ss.length ≤ g → goOn opNx g (catF k ss ++ t, ls) = (t, ls ++ lnF k ss)
  | [], k, g, ls, t, _, _, ht, _ => by
    have e : ls ++ lnF k [] = ls := List.append_nil _
    rw [e] at ht ⊢
    exact goOn_none ht g
  | s :: ss, k, g, ls, t, hs, hk, ht, hg => by
    obtain ⟨g0, rfl⟩ : ∃ g0, g = g0 + 1 := ⟨g - 1, by simp at hg; omega⟩
    subst hk
    have h1 := opNx_cat (hs s (List.mem_cons_self ..)) (catF (ls.length + 1) ss ++ t) ls
    have e1 : catF ls.length (s :: ss) ++ t = frameL ((ls.length : Int) + 1) s ++ (catF (ls.length + 1) ss ++ t) := by simp only [catF, List.append_assoc]
    have e2 : ls ++ lnF ls.length (s :: ss) = (ls ++ [[.i ((ls.length : Int) + 1), .w s]]) ++ lnF (ls.length + 1) ss := by simp only [lnF, List.append_assoc, List.cons_append, List.nil_append]
    rw [e2] at ht ⊢
    rw [e1]
    unfold goOn
    rw [h1]
    exact goOn_cat ss (ls.length + 1) g0 _ t (fun x hx => hs x (List.mem_cons_of_mem _ hx)) (by simp) ht (by simp at hg; omega)
theorem opGo_cat {ss : List (List Int)} {t : List Int} (hs : ∀ s ∈ ss, SigOK s) (ht : opNx (t, lnF 0 ss) = none) : opGo (catF 0 ss ++ t) = (t, lnF 0 ss) := by
  have h := goOn_cat ss 0 (catF 0 ss ++ t).length [] t hs rfl (by rw [List.nil_append]; exact ht) (by rw [List.length_append, catF_len 0 ss hs]; omega)
  rw [List.nil_append] at h
  exact h
theorem opNx_short {t : List Int} (h : t.length < 112) (ls : List Rec) : opNx (t, ls) = none := if_neg (fun h' => by have : 112 ≤ t.length := h'.1; omega)
theorem open_one0 {ro st : Int} {b : List Int} (h : (b.length : Int) ≤ ro) : ∃ st' es', openM (ro, st, 0, false, one cN b b.length) = (0, (opGo b).2, (ro, st', 0, false, es')) := by
  have hi := opGo_inv b
  unfold OpI at hi
  unfold openM
  rw [read_one right_c]
  simp only
  rw [if_neg (show ¬ (0 : Int) = 41 by decide), if_neg (show ¬ (0 : Int) ≠ 0 by decide)]
  by_cases c : 0 < (opGo b).1.length
  · rw [if_pos c, cut_one right_c (by omega) (by omega), if_pos (show stV 0 = true from rfl), if_neg (show ¬ (0 : Int) ≠ 0 by decide)]
    simp only
    rw [show stDn 0 false = false from rfl, show stFu 0 = 0 from rfl, sync_one right_c (by rw [List.length_take]; omega), if_pos (show stV 0 = true from rfl)]
    exact ⟨_, _, rfl⟩
  · rw [if_neg c, sync_one right_c h, if_pos (show stV 0 = true from rfl)]
    exact ⟨_, _, rfl⟩
theorem crash_nil (ro st fu : Int) (dn : Bool) (keep : List Int) : crashM (ro, st, fu, dn, []) keep = (ro, st, 0, false, []) := by
  unfold crashM
  simp only
  rw [sortK_nil]
  rfl
end Go.Num
namespace Go.Num
open Go.Abs Go.Proofs Go.Shelf Go.RowKit
theorem n420 : ¬ (42 : Int) = 0 := by decide
theorem n20 : ¬ (2 : Int) = 0 := by decide
theorem n242 : ¬ (2 : Int) = 42 := by decide
theorem gKeO_ok : GamOK Tryd.prog DF gKeO := gam_cons chead_ok (gam_op new_ok (gam_op openOk_ok (gam_op fuse_ok (gam_cons sg_ok (gam_op appOk_ok (gam_rd last_ok (gam_op crash_ok (gam_rd getOk_ok gam_nil))))))))
theorem gKeN_ok : GamOK Tryd.prog DF gKeN := gam_cons chead_ok (gam_op new_ok (gam_op openOk_ok (gam_op fuse_ok (gam_cons sg_ok (gam_op appNo_ok (gam_rd last_ok (gam_op crash_ok (gam_rd getNo_ok gam_nil))))))))
abbrev KeT := Nat × List (List Int) × DkT
def keR (sg : List (List Int)) (z : KeT) : Int × ChT := chAppM (lnF 0 z.2.1, false, z.2.2) (((lnF 0 z.2.1).length : Int) + 1) (sigP (sg.getD z.1 []))
def keNx (sg : List (List Int)) (z : KeT) : Option KeT :=
  if z.1 < sg.length ∧ z.1 < 60 then
    (if (keR sg z).1 = 0 then some (z.1 + 1, z.2.1 ++ [sigP (sg.getD z.1 [])], (keR sg z).2.2.2) else if (keR sg z).1 = 42 then some (z.1 + 1, z.2.1, (keR sg z).2.2.2) else none)
  else none
def keFin (sg : List (List Int)) (z : KeT) : DkT × Int × List Int :=
  if z.1 < sg.length ∧ z.1 < 60 then ((keR sg z).2.2.2, ((lnF 0 z.2.1).length : Int) + 1, sigP (sg.getD z.1 [])) else (z.2.2, 0, List.replicate 96 0)
structure KeI (ro : Int) (z : KeT) : Prop where
  d : ∃ st fu es, z.2.2 = (ro, st, fu, false, es) ∧ Only es (catF 0 z.2.1)
  room : ((catF 0 z.2.1).length : Int) ≤ ro
  ok : OkN z.2.2 (3 * z.1)
  sig : ∀ s ∈ z.2.1, SigOK s
  len : z.2.1.length ≤ z.1
  sixty : z.1 ≤ 60
theorem ke_round {ro : Int} {sg : List (List Int)} {z : KeT} (h : KeI ro z) (hz : z.1 < 60) :
    ∃ st' fu', (keR sg z = (0, (lnF 0 (z.2.1 ++ [sigP (sg.getD z.1 [])]), false, (ro, st', fu', false, one cN (catF 0 (z.2.1 ++ [sigP (sg.getD z.1 [])])) (catF 0 (z.2.1 ++ [sigP (sg.getD z.1 [])])).length))) ∧ ((catF 0 (z.2.1 ++ [sigP (sg.getD z.1 [])])).length : Int) ≤ ro) ∨
      keR sg z = (42, (lnF 0 z.2.1, false, (ro, st', fu', false, one cN (catF 0 z.2.1) (catF 0 z.2.1).length))) ∨
      ∃ t, (t = frameL (((lnF 0 z.2.1).length : Int) + 1) (sigP (sg.getD z.1 [])) ∨ t = []) ∧ keR sg z = (2, (lnF 0 z.2.1, true, (ro, st', fu', true, one cN (catF 0 z.2.1 ++ t) (catF 0 z.2.1).length))) := by
  obtain ⟨⟨st, fu, es, hd, ho⟩, hro, hok, hsig, hlen, _⟩ := h
  generalize hs : sigP (sg.getD z.1 []) = s
  have hsl : s.length = 96 := by rw [← hs]; exact sigP_len _
  have hc := catF_len 0 z.2.1 hsig
  have hln := lnF_len 0 z.2.1
  have hf := frameL_len (r := ((lnF 0 z.2.1).length : Int) + 1) hsl
  have hcat : catF 0 (z.2.1 ++ [s]) = catF 0 z.2.1 ++ frameL (((lnF 0 z.2.1).length : Int) + 1) s := by rw [catF_snoc, Nat.zero_add, hln]
  have hlin : lnF 0 (z.2.1 ++ [s]) = lnF 0 z.2.1 ++ [[.i (((lnF 0 z.2.1).length : Int) + 1), .w s]] := by rw [lnF_snoc, Nat.zero_add, hln]
  obtain ⟨st', fu', hp⟩ := put_only (ro := ro) (st := st) (fu := fu) (b := frameL (((lnF 0 z.2.1).length : Int) + 1) s) (k := (lnF 0 z.2.1).length) ho (by rw [hc, hf]; omega) (by rw [hc, hln])
  refine ⟨st', fu', ?_⟩
  unfold keR
  rw [hs, hd, hcat, hlin]
  rcases hp with ⟨hp, hr⟩ | hp | ⟨t, ht, hp⟩
  · left
    refine ⟨?_, hr⟩
    rw [chApp_next hp]
    rfl
  · right; left
    rw [chApp_next hp]
    rfl
  · right; right
    refine ⟨t, ht, ?_⟩
    rw [chApp_next hp]
    rfl
theorem keR_nxt {ro : Int} {sg : List (List Int)} {z : KeT} (h : KeI ro z) : OkN (keR sg z).2.2.2 (3 * (z.1 + 1 : Nat)) := by
  obtain ⟨⟨st, fu, es, hd, ho⟩, _, hok, _⟩ := h
  have h1 := put_nxt hok (frameL (((lnF 0 z.2.1).length : Int) + 1) (sigP (sg.getD z.1 []))) (lnF 0 z.2.1).length
  unfold keR
  rw [chApp_next (e := (putM z.2.2 (frameL (((lnF 0 z.2.1).length : Int) + 1) (sigP (sg.getD z.1 []))) (lnF 0 z.2.1).length).1) (d' := (putM z.2.2 (frameL (((lnF 0 z.2.1).length : Int) + 1) (sigP (sg.getD z.1 []))) (lnF 0 z.2.1).length).2) rfl]
  exact h1.le (by omega)
theorem ke_inv {ro : Int} {sg : List (List Int)} {z y : KeT} (h : KeI ro z) (hn : keNx sg z = some y) : KeI ro y ∧ y.1 = z.1 + 1 := by
  unfold keNx at hn
  split at hn
  · rename_i c
    have hk := keR_nxt (sg := sg) h
    obtain ⟨st', fu', ⟨hr, hroom⟩ | hr | ⟨t, _, hr⟩⟩ := ke_round (sg := sg) h c.2
    · rw [if_pos (by rw [hr])] at hn
      cases hn
      refine ⟨⟨⟨st', fu', _, by rw [hr], .inr rfl⟩, hroom, hk, ?_, ?_, c.2⟩, rfl⟩
      · intro s hs
        rcases List.mem_append.1 hs with hs | hs
        · exact h.sig s hs
        · rw [List.mem_singleton.1 hs]; exact sigP_len _
      · have := h.len
        show (z.2.1 ++ [_]).length ≤ z.1 + 1
        rw [List.length_append]
        simp only [List.length_cons, List.length_nil]
        omega
    · rw [if_neg (by rw [hr]; exact n420), if_pos (by rw [hr])] at hn
      cases hn
      exact ⟨⟨⟨st', fu', _, by rw [hr], .inr rfl⟩, h.room, hk, h.sig, by have := h.len; show z.2.1.length ≤ z.1 + 1; omega, c.2⟩, rfl⟩
    · rw [if_neg (by rw [hr]; exact n20), if_neg (by rw [hr]; exact n242)] at hn
      cases hn
  · cases hn
def keL (sg : List (List Int)) (ke : Int) (z : KeT) : Sn DF.τ := keSn sg ke (lnF 0 z.2.1) z.2.2 z.1
def keGo0 (sg : List (List Int)) (ro fu : Int) : KeT := goOn (keNx sg) 60 (0, [], fuseM (clampR ro, 0, 0, false, []) fu)
theorem ke_start (ro fu : Int) (hfu : fu ≤ 9223372036854775807) : KeI (clampR ro) (0, [], fuseM (clampR ro, 0, 0, false, []) fu) :=
  ⟨⟨0, mxF fu, [], rfl, .inl ⟨rfl, rfl⟩⟩, (clampR_ok ro).1, ⟨(fuse_nxt (okd_new ro) hfu).1, Int.le_refl _⟩, fun s hs => (List.not_mem_nil hs).elim, Nat.le_refl _, show 0 ≤ 60 by decide⟩
theorem ke_loop (sg : List (List Int)) (ke ro fu : Int) (hfu : fu ≤ 9223372036854775807) (hsg : ∀ l ∈ sg, l.length ≤ 140737488351232) :
    SumOK Tryd.prog DF (bodyN Tryd.f5 0) (loopL DF (keSn sg ke [] (fuseM (clampR ro, 0, 0, false, []) fu) 0) (.exit 0)
      (keEd ke (lnF 0 (keGo0 sg ro fu).2.1) (keFin sg (keGo0 sg ro fu)).1 (keFin sg (keGo0 sg ro fu)).2.1 (keFin sg (keGo0 sg ro fu)).2.2)) := by
  have hsl : ∀ i, (sg.getD i []).length ≤ 140737488355328 := fun i => by
    rw [List.getD_eq_getElem?_getD]
    cases hg : sg[i]? with
    | none => exact Nat.zero_le _
    | some l => have := hsg l (List.mem_of_getElem? hg); show l.length ≤ _; omega
  have h := sum_whileG (P := Tryd.prog) (D := DF) mixed (c := bodyN Tryd.f5 0) (keL sg ke) (keNx sg) (KeI (clampR ro)) (fun z => 60 - z.1) (e := .exit 0)
    (s := keEd ke (lnF 0 (keGo0 sg ro fu).2.1) (keFin sg (keGo0 sg ro fu)).1 (keFin sg (keGo0 sg ro fu)).2.1 (keFin sg (keGo0 sg ro fu)).2.2) rfl (0, [], fuseM (clampR ro, 0, 0, false, []) fu) (ke_start ro fu hfu) ?_ ?_
  · exact h
  · intro z y hi hn
    obtain ⟨hi', hy⟩ := ke_inv hi hn
    have hk := keR_nxt (sg := sg) hi
    obtain ⟨i, ss, d⟩ := z
    have hlen : ss.length ≤ i := hi.len
    have h60 : i ≤ 60 := hi.sixty
    have hln := lnF_len 0 ss
    have hch : ChOK (lnF 0 ss, false, d) := ⟨hi.ok.le (show (3 * (i : Int)) ≤ _ by omega), show (lnF 0 ss).length ≤ _ by omega⟩
    unfold keNx at hn
    split at hn
    · rename_i c
      have c1 : i < sg.length := c.1
      have c2 : i < 60 := c.2
      refine ⟨hi', by show 60 - y.1 < 60 - i; rw [hy]; show 60 - (i + 1) < 60 - i; omega, ?_⟩
      obtain ⟨st', fu', ⟨hr, hroom⟩ | hr | ⟨t, _, hr⟩⟩ := ke_round (sg := sg) hi c.2
      · rw [if_pos (by rw [hr])] at hn
        cases hn
        have hr2 : chAppM (lnF 0 ss, false, d) (((lnF 0 ss).length : Int) + 1) (sigP (sg.getD i [])) = (0, (lnF 0 (ss ++ [sigP (sg.getD i [])]), false, (keR sg (i, ss, d)).2.2.2)) := by
          have : keR sg (i, ss, d) = chAppM (lnF 0 ss, false, d) (((lnF 0 ss).length : Int) + 1) (sigP (sg.getD i [])) := rfl
          rw [← this, hr]
        have hl2 : lnF 0 ss ++ [[Fd.i (((lnF 0 ss).length : Int) + 1), Fd.w (sigP (sg.getD i []))]] = lnF 0 (ss ++ [sigP (sg.getD i [])]) := by rw [lnF_snoc, Nat.zero_add, hln]
        obtain ⟨ps, p1, p2⟩ := ke_ok sg ke (lnF 0 ss) (lnF 0 (ss ++ [sigP (sg.getD i [])])) d (keR sg (i, ss, d)).2.2.2 i (decide_eq_true (by omega)) (decide_eq_true (by omega)) ⟨by omega, by omega⟩ (by omega) (by omega) (hsl _) hch (sigP_len _)
          (by rw [Int.toNat_natCast, hr2]) (by omega) (by omega) ⟨by omega, by omega⟩ (by rw [Int.toNat_natCast, hr2]) (by rw [Int.toNat_natCast, hr2]) (by rw [Int.toNat_natCast, hr2]) (by rw [Int.toNat_natCast, hr2]) (by rw [Int.toNat_natCast, hr2]) (by rw [Int.toNat_natCast, hr2]) (by rw [Int.toNat_natCast, hr2]) (by rw [Int.toNat_natCast]; exact hl2)
        exact ⟨gKeO, 100, 100, _, ps, gKeO_ok, p1, p2⟩
      · rw [if_neg (by rw [hr]; exact n420), if_pos (by rw [hr])] at hn
        cases hn
        have hr2 : chAppM (lnF 0 ss, false, d) (((lnF 0 ss).length : Int) + 1) (sigP (sg.getD i [])) = (42, (lnF 0 ss, false, (keR sg (i, ss, d)).2.2.2)) := by
          have : keR sg (i, ss, d) = chAppM (lnF 0 ss, false, d) (((lnF 0 ss).length : Int) + 1) (sigP (sg.getD i [])) := rfl
          rw [← this, hr]
        obtain ⟨ps, p1, p2⟩ := ke_full sg ke (lnF 0 ss) d (keR sg (i, ss, d)).2.2.2 i (decide_eq_true (by omega)) (decide_eq_true (by omega)) ⟨by omega, by omega⟩ (by omega) (by omega) (hsl _) hch (sigP_len _)
          (by rw [Int.toNat_natCast, hr2]; exact n420) (by rw [Int.toNat_natCast, hr2]; rfl) (by rw [Int.toNat_natCast, hr2]; rfl) (ne_bne (fun h => h rfl)) ⟨by omega, by omega⟩ (by rw [Int.toNat_natCast, hr2]) (by rw [Int.toNat_natCast, hr2]) (by rw [Int.toNat_natCast, hr2]) (by rw [Int.toNat_natCast, hr2]) (by rw [Int.toNat_natCast, hr2]) (by rw [Int.toNat_natCast, hr2])
        exact ⟨gKeN, 100, 100, _, ps, gKeN_ok, p1, p2⟩
      · rw [if_neg (by rw [hr]; exact n20), if_neg (by rw [hr]; exact n242)] at hn
        cases hn
    · cases hn
  · intro z hi hn hz
    have hk := keR_nxt (sg := sg) hi
    have hz' : keGo0 sg ro fu = z := hz.symm
    rw [hz']
    obtain ⟨i, ss, d⟩ := z
    have hlen : ss.length ≤ i := hi.len
    have h60 : i ≤ 60 := hi.sixty
    have hln := lnF_len 0 ss
    have hch : ChOK (lnF 0 ss, false, d) := ⟨hi.ok.le (show (3 * (i : Int)) ≤ _ by omega), show (lnF 0 ss).length ≤ _ by omega⟩
    by_cases c : i < sg.length ∧ i < 60
    · have c1 : i < sg.length := c.1
      have c2 : i < 60 := c.2
      have hfin : keFin sg (i, ss, d) = ((keR sg (i, ss, d)).2.2.2, ((lnF 0 ss).length : Int) + 1, sigP (sg.getD i [])) := if_pos c
      rw [hfin]
      obtain ⟨st', fu', ⟨hr, hroom⟩ | hr | ⟨t, _, hr⟩⟩ := ke_round (sg := sg) hi c.2
      · unfold keNx at hn
        rw [if_pos c, if_pos (by rw [hr])] at hn
        cases hn
      · unfold keNx at hn
        rw [if_pos c, if_neg (by rw [hr]; exact n420), if_pos (by rw [hr])] at hn
        cases hn
      · have hr2 : chAppM (lnF 0 ss, false, d) (((lnF 0 ss).length : Int) + 1) (sigP (sg.getD i [])) = (2, (lnF 0 ss, true, (keR sg (i, ss, d)).2.2.2)) := by
          have : keR sg (i, ss, d) = chAppM (lnF 0 ss, false, d) (((lnF 0 ss).length : Int) + 1) (sigP (sg.getD i [])) := rfl
          rw [← this, hr]
        have hr3 : ∀ s, chAppM (lnF 0 ss, true, (keR sg (i, ss, d)).2.2.2) (((lnF 0 ss).length : Int) + 1) s = (2, (lnF 0 ss, true, (keR sg (i, ss, d)).2.2.2)) := fun s => if_pos rfl
        have hch2 : ChOK (lnF 0 ss, true, (keR sg (i, ss, d)).2.2.2) := ⟨hk.le (show (3 * ((i + 1 : Nat) : Int)) ≤ _ by omega), show (lnF 0 ss).length ≤ _ by omega⟩
        obtain ⟨ps, p1, p2⟩ := ke_down sg ke (lnF 0 ss) d (keR sg (i, ss, d)).2.2.2 i (((lnF 0 ss).length : Int) + 1) (sigP (sg.getD i [])) (decide_eq_true (by omega)) (decide_eq_true (by omega)) ⟨by omega, by omega⟩ (by omega) (by omega) (hsl _) hch (sigP_len _)
          (by rw [Int.toNat_natCast, hr2]; exact n20) (by rw [Int.toNat_natCast, hr2]; rfl) (by rw [Int.toNat_natCast, hr2]; rfl) (by rw [Int.toNat_natCast, hr2]; rfl) (by rw [Int.toNat_natCast, hr2]; exact hch2) (by rw [Int.toNat_natCast, hr2, hr3]; exact n20) (by rw [Int.toNat_natCast, hr2, hr3]; rfl)
          (by rw [Int.toNat_natCast, hr2, hr3]) (by rw [Int.toNat_natCast, hr2, hr3]) (by rw [Int.toNat_natCast, hr2, hr3]) (by rw [Int.toNat_natCast, hr2, hr3]) (by rw [Int.toNat_natCast, hr2, hr3]) rfl (by rw [Int.toNat_natCast])
        exact ⟨gKeN, 100, 100, _, ps, gKeN_ok, p1, p2⟩
    · have hfin : keFin sg (i, ss, d) = (d, 0, List.replicate 96 0) := if_neg c
      rw [hfin]
      by_cases c1 : i < sg.length
      · obtain ⟨ps, p1, p2⟩ := ke_sixty sg ke (lnF 0 ss) d d i (decide_eq_true (by omega)) (decide_eq_false (by omega))
        exact ⟨gKeN, 100, 100, _, ps, gKeN_ok, p1, p2⟩
      · obtain ⟨ps, p1, p2⟩ := ke_end sg ke (lnF 0 ss) d d i (decide_eq_false (by omega))
        exact ⟨gKeN, 100, 100, _, ps, gKeN_ok, p1, p2⟩
theorem kg_loop {ls : List Rec} (t : List Rec) (d : DkT) (ur : Int) (us : List Int) (h : ls.length ≤ 1000) :
    SumOK Tryd.prog DF (bodyN Tryd.f5 1) (loopL DF (keGo ls (ls ++ t) d ur us 0) (.exit 2) (keZ ls (ls ++ t) d ur us)) := by
  have hs := sum_loop gKeO_ok mixed (c := bodyN Tryd.f5 1) (fun k => keGo ls (ls ++ t) d ur us k) ls.length (e := .exit 2) (s := keZ ls (ls ++ t) d ur us) rfl (fun i hi => ?_) ?_
  · exact hs
  · have hl : (ls ++ t).length = ls.length + t.length := List.length_append
    refine ⟨_, _, _, kg_step ls (ls ++ t) d ur us i (decide_eq_true (by omega)) ⟨by omega, by omega⟩ (by omega) (by omega) (by omega) (by omega) (by omega) (by omega) ?_ eqLk⟩
    rw [show ((i : Int) + 1 - 1).toNat = i from by omega, Int.toNat_natCast]
    have : (ls ++ t).getD i [] = ls.getD i [] := by
      rw [List.getD_eq_getElem?_getD, List.getD_eq_getElem?_getD, List.getElem?_append_left hi]
    rw [this]
    simp
  · exact ⟨_, _, _, kg_exit ls (ls ++ t) d ur us ls.length (decide_eq_false (by omega))⟩
theorem ke_back {ro : Int} {ss : List (List Int)} (hs : ∀ s ∈ ss, SigOK s) (hro : ((catF 0 ss).length : Int) ≤ ro) {s : List Int} (hsl : SigOK s) {t : List Int} (ht : t = frameL (((lnF 0 ss).length : Int) + 1) s ∨ t = []) (st fu : Int) (dn : Bool) (keep : List Int) :
    ∃ tl, (tl = [] ∨ (t ≠ [] ∧ tl = [[.i (((lnF 0 ss).length : Int) + 1), .w s]])) ∧ (openM (crashM (ro, st, fu, dn, one cN (catF 0 ss ++ t) (catF 0 ss).length) keep)).1 = 0 ∧ (openM (crashM (ro, st, fu, dn, one cN (catF 0 ss ++ t) (catF 0 ss).length) keep)).2.1 = lnF 0 ss ++ tl := by
  rw [crash_one]
  obtain ⟨h1, h2, h3⟩ := crN_le (keep := keep) (k := 0) (l := catF 0 ss ++ t) (s := ((catF 0 ss).length : Int)) (free := ro - ((catF 0 ss).length : Int)) (by rw [List.length_append]; omega) (by omega)
  generalize crN keep 0 (catF 0 ss ++ t) ((catF 0 ss).length : Int) (ro - ((catF 0 ss).length : Int)) = c at h1 h2 h3
  rw [List.length_append] at h2
  obtain ⟨m, rfl⟩ : ∃ m : Nat, c = m := ⟨c.toNat, by omega⟩
  have hm : ((((catF 0 ss).length : Int) + (m : Int)).toNat) = (catF 0 ss).length + m := by omega
  have htk : (catF 0 ss ++ t).take ((catF 0 ss).length + m) = catF 0 ss ++ t.take m := by rw [List.take_append, List.take_of_length_le (by omega)]; congr 2; omega
  have hlen : (catF 0 ss ++ t.take m).length = (catF 0 ss).length + m := by rw [List.length_append, List.length_take]; omega
  rw [hm, htk]
  have hcast : ((catF 0 ss).length : Int) + (m : Int) = (((catF 0 ss ++ t.take m).length : Nat) : Int) := by rw [hlen]; omega
  rw [hcast]
  obtain ⟨st', es', ho⟩ := open_one0 (ro := ro) (st := st) (b := catF 0 ss ++ t.take m) (by rw [hlen]; omega)
  rw [ho]
  by_cases c : 112 ≤ (t.take m).length
  · have htf : t = frameL (((lnF 0 ss).length : Int) + 1) s := by
      rcases ht with h | h
      · exact h
      · rw [h] at c; simp at c
    have hfl := frameL_len (r := ((lnF 0 ss).length : Int) + 1) hsl
    have htm : t.take m = t := List.take_of_length_le (by rw [List.length_take] at c; rw [htf, hfl] at c ⊢; omega)
    refine ⟨[[.i (((lnF 0 ss).length : Int) + 1), .w s]], .inr ⟨fun h => by rw [h] at c; simp at c, rfl⟩, rfl, ?_⟩
    rw [htm, htf]
    have hsn : catF 0 ss ++ frameL (((lnF 0 ss).length : Int) + 1) s = catF 0 (ss ++ [s]) ++ [] := by rw [catF_snoc, Nat.zero_add, lnF_len, List.append_nil]
    rw [hsn, opGo_cat (fun x hx => (List.mem_append.1 hx).elim (hs x) (fun h => by rw [List.mem_singleton.1 h]; exact hsl)) (opNx_short (by simp) _)]
    show lnF 0 (ss ++ [s]) = _
    rw [lnF_snoc, Nat.zero_add, lnF_len]
  · refine ⟨[], .inl rfl, rfl, ?_⟩
    rw [opGo_cat hs (opNx_short (by omega) _), List.append_nil]
theorem ke_last {ro fu ke : Int} {sg : List (List Int)} {ls tl : List Rec} {d : DkT} {ur : Int} {us : List Int} (hls : ls.length ≤ 60) (htl : tl = [] ∨ (0 < ur ∧ tl = [[.i ur, .w us]])) (hO : OkN d 200)
    (b1 : (openM (crashM d [ke])).1 = 0) (b2 : (openM (crashM d [ke])).2.1 = ls ++ tl)
    (hL : SumOK Tryd.prog DF (bodyN Tryd.f5 0) (loopL DF (keSn sg ke [] (fuseM (clampR ro, 0, 0, false, []) fu) 0) (.exit 0) (keEd ke ls d ur us))) :
    ∃ Γ, GamOK Tryd.prog DF Γ ∧ ∃ ds ps, runF Tryd.prog DF Γ 100 Tryd.f5 [.one (.int .i64 false ro), .one (.wordss .u8 sg), .one (.int .i64 false fu), .one (.int .i64 false ke)] ds = some (.v (.one (.bool true true)), ps) ∧ AllQ ps := by
  have e0 : openM (clampR ro, 0, 0, false, []) = (0, [], (clampR ro, 0, 0, false, [])) := open_nil _ _ _
  have o0 : OkN (clampR ro, 0, 0, false, []) 0 := ⟨okd_new ro, Int.le_refl _⟩
  have hC : OkN (crashM d [ke]) 201 := hO.nxt (crash_nxt hO.1 [ke])
  have hG := kg_loop (ls := ls) tl (openM (crashM d [ke])).2.2 ur us (by omega)
  have hl2 : (ls ++ tl).length = ls.length + tl.length := List.length_append
  generalize hw : openM (crashM d [ke]) = w at b1 b2 hG
  obtain ⟨w1, w2, w3⟩ := w
  simp only at b1 b2 hG
  subst b2
  rcases htl with rfl | ⟨hpos, rfl⟩
  · simp only [List.length_nil] at hl2
    obtain ⟨ps, p1, p2⟩ := ke_no ro fu ke sg ls (ls ++ []) d w3 ur us (o0.le (by decide)) (by rw [e0]) hL (by rw [e0]) (by rw [e0]) (by rw [e0]) (by rw [e0]) (by rw [e0]) (by rw [e0])
      hO.1 (hC.le (by decide)) (by rw [hw]; exact b1) (decide_eq_false (by rw [hw, hl2]; omega)) ⟨by omega, by omega⟩ (decide_eq_false (by rw [hw, hl2]; omega)) hG (by rw [hw]) (by rw [hw]) (by rw [hw]) (by rw [hw]) (by rw [hw]) (by rw [hw]) (.inr (by rw [hl2]; omega))
    exact ⟨_, gKeN_ok, _, ps, p1, p2⟩
  · have hg : (ls ++ [[Fd.i ur, Fd.w us]]).getD ls.length [] = [Fd.i ur, Fd.w us] := by
      rw [List.getD_eq_getElem?_getD, List.getElem?_append_right (Nat.le_refl _), Nat.sub_self]
      rfl
    simp only [List.length_cons, List.length_nil] at hl2
    obtain ⟨ps, p1, p2⟩ := ke_yes ro fu ke sg ls (ls ++ [[Fd.i ur, Fd.w us]]) d w3 ur us (o0.le (by decide)) (by rw [e0]) hL (by rw [e0]) (by rw [e0]) (by rw [e0]) (by rw [e0]) (by rw [e0]) (by rw [e0])
      hO.1 (hC.le (by decide)) (by rw [hw]; exact b1) (decide_eq_false (by rw [hw, hl2]; omega)) ⟨by omega, by omega⟩ (decide_eq_false (by rw [hw, hl2]; omega)) hG (by rw [hw]) (by rw [hw]) (by rw [hw]) (by rw [hw]) (by rw [hw]) (by rw [hw]) (by omega) (by rw [hl2]; omega) (by omega)
      (by rw [show ((ls.length : Int) + 1 - 1).toNat = ls.length from by omega, hg]; simp [recI, recW]) eqLk (decide_eq_true hpos)
    exact ⟨_, gKeO_ok, _, ps, p1, p2⟩
theorem law_keeps {ro : Int} {sg : List (List Int)} {fu ke : Int} (_ : InI64 ro) (hsg : ∀ l ∈ sg, InB l ∧ l.length ≤ 140737488351232) (_ : sg.length * 24 ≤ 140737488351232) (hfu : InI64 fu) (_ : InI64 ke) :
    ∃ Γ, GamOK Tryd.prog DF Γ ∧ ∃ ds ps, runF Tryd.prog DF Γ 100 Tryd.f5 [.one (.int .i64 false ro), .one (.wordss .u8 sg), .one (.int .i64 false fu), .one (.int .i64 false ke)] ds = some (.v (.one (.bool true true)), ps) ∧ AllQ ps := by
  have hcl := clampR_ok ro
  have hL := ke_loop sg ke ro fu hfu.2 (fun l hl => (hsg l hl).2)
  have hI : KeI (clampR ro) (keGo0 sg ro fu) := goOn_inv (inv := KeI (clampR ro)) (fun _ _ h hn => (ke_inv h hn).1) _ _ (ke_start ro fu hfu.2)
  have hEnd : keNx sg (keGo0 sg ro fu) = none :=
    goOn_end (inv := KeI (clampR ro)) (μ := fun z => 60 - z.1) (fun a b h hn => ⟨(ke_inv h hn).1, by
      have := (ke_inv h hn).2
      have hb := (ke_inv h hn).1.sixty
      show 60 - b.1 < 60 - a.1
      omega⟩) 60 _ (ke_start ro fu hfu.2) (by show 60 - 0 ≤ 60; omega)
  generalize hz : keGo0 sg ro fu = z at hL hI hEnd
  have hk := keR_nxt (sg := sg) hI
  have hln := lnF_len 0 z.2.1
  have hlen := hI.len
  have h60 := hI.sixty
  have hI1 : InI64 (((lnF 0 z.2.1).length : Int) + 1) := ⟨by omega, by omega⟩
  have hI2 : (1 : Int) ≤ ((lnF 0 z.2.1).length : Int) + 1 := by omega
  have hI3 : (((lnF 0 z.2.1).length : Int) + 1 - 1).toNat = (lnF 0 z.2.1).length := by omega
  have e0 : openM (clampR ro, 0, 0, false, []) = (0, [], (clampR ro, 0, 0, false, [])) := open_nil _ _ _
  have o0 : OkN (clampR ro, 0, 0, false, []) 0 := ⟨okd_new ro, Int.le_refl _⟩
  -- the disk in the end, and what is read of it behind the crash
  obtain ⟨tl, htl, hO, b1, b2⟩ : ∃ tl, (tl = [] ∨ (0 < (keFin sg z).2.1 ∧ tl = [[.i (keFin sg z).2.1, .w (keFin sg z).2.2]] ∧ (keFin sg z).2.1 = ((lnF 0 z.2.1).length : Int) + 1)) ∧ OkN (keFin sg z).1 200 ∧
      (openM (crashM (keFin sg z).1 [ke])).1 = 0 ∧ (openM (crashM (keFin sg z).1 [ke])).2.1 = lnF 0 z.2.1 ++ tl := by
    by_cases c : z.1 < sg.length ∧ z.1 < 60
    · have hfin : keFin sg z = ((keR sg z).2.2.2, ((lnF 0 z.2.1).length : Int) + 1, sigP (sg.getD z.1 [])) := if_pos c
      rw [hfin]
      simp only
      obtain ⟨st', fu', ⟨hr, hroom⟩ | hr | ⟨t, ht, hr⟩⟩ := ke_round (sg := sg) hI c.2
      · unfold keNx at hEnd
        rw [if_pos c, if_pos (by rw [hr])] at hEnd
        cases hEnd
      · unfold keNx at hEnd
        rw [if_pos c, if_neg (by rw [hr]; exact n420), if_pos (by rw [hr])] at hEnd
        cases hEnd
      · obtain ⟨tl, h1, h2, h3⟩ := ke_back hI.sig hI.room (s := sigP (sg.getD z.1 [])) (sigP_len _) ht st' fu' true [ke]
        refine ⟨tl, ?_, hk.le (show (3 * ((z.1 + 1 : Nat) : Int)) ≤ _ by omega), by rw [hr]; exact h2, by rw [hr]; exact h3⟩
        rcases h1 with h1 | ⟨_, h1⟩
        · exact .inl h1
        · exact .inr ⟨by omega, h1, trivial⟩
    · have hfin : keFin sg z = (z.2.2, 0, List.replicate 96 0) := if_neg c
      rw [hfin]
      simp only
      refine ⟨[], .inl rfl, hI.ok.le (show (3 * (z.1 : Int)) ≤ _ by omega), ?_⟩
      obtain ⟨st, fu1, es, hd, ho⟩ := hI.d
      rw [hd]
      rcases ho with ⟨rfl, hnil⟩ | rfl
      · rw [crash_nil, open_nil]
        have : z.2.1 = [] := by
          have := catF_len 0 z.2.1 hI.sig
          rw [hnil] at this
          exact List.length_eq_zero_iff.1 (by simp at this; omega)
        rw [this]
        exact ⟨rfl, rfl⟩
      · obtain ⟨tl, h1, h2, h3⟩ := ke_back hI.sig hI.room (s := List.replicate 96 0) rfl (t := []) (.inr rfl) st fu1 false [ke]
        rw [List.append_nil] at h2 h3
        rcases h1 with h1 | ⟨h1, _⟩
        · rw [h1] at h3
          exact ⟨h2, h3⟩
        · exact absurd rfl h1
  exact ke_last (by omega) (htl.imp (fun h => h) (fun h => ⟨h.1, h.2.1⟩)) hO b1 b2 hL
end Go.Num
namespace Go.Laws
open Go.Abs Go.Proofs Go.Proofs.YthdhjbmgmfndhaaDoor Go.ChangeShapes Go.WideShapes Go.ChangeAt Go.RowKit Go.Num
theorem own : ownKnob Tryd.prog.godebug = none := by kernel_rfl
theorem laidOut : laidOutB Tryd.prog = true := by kernel_rfl
theorem trodAll_below {H : Type} {enc : TypeId × Value → H} {P : Program} (hl : laidOutB P = true) {W W' : World} (hb : Below W.heap.size W W') :
    ∀ {ts : List TypeId} {vs : List Value} {ds : List (DataW H)} {ps : List MemPlace}, (ts.all fun t => P.readableRec t && decide (t < P.types.size)) = true →
      DataW.TrodAll enc P W 0 (fun _ => true) true ts vs ds ps → (∀ x ∈ ps, x.block < W.heap.size) → DataW.TrodAll enc P W' 0 (fun b => decide (b < W.heap.size)) true ts vs ds ps
  | [], [], [], _, _, h, _ => h
  | [], [], _ :: _, _, _, h, _ => h.elim
  | [], _ :: _, _, _, _, h, _ => h.elim
  | _ :: _, [], _, _, _, h, _ => h.elim
  | _ :: _, _ :: _, [], _, _, h, _ => h.elim
  | t :: ts, v :: vs, d :: ds, ps, hr, h, hlt => by
    obtain ⟨p, q, h1, h2, rfl⟩ := h
    simp only [List.all_cons, Bool.and_eq_true, decide_eq_true_eq] at hr
    exact ⟨p, q, Below.trod hl hr.1.1 hr.1.2 h1 hb (fun x hx => hlt x (List.mem_append_left _ hx)), trodAll_below hl hb (by simpa using hr.2) h2 (fun x hx => hlt x (List.mem_append_right _ hx)), rfl⟩
theorem law_post {H : Type} {enc : TypeId × Value → H} {P : Program} {fn : Func} {s : ChangeSpec} {W W' : World} {args : Array Value} {ds : List (DataW H)} {before : List MemPlace} {tb : TypeId} (hl : laidOutB P = true)
    (hp : (fn.params.toList.all fun t => P.readableRec t && decide (t < P.types.size)) = true) (hs : s.vars = []) (hfn : s.fn H (ds ++ []) = { results := [.lit (.bool true)], args := ds })
    (hr : fn.resultTypes = #[tb]) (htb : P.underlying tb = some .bool) (hW : DataW.Whole enc P fn.params.toList s.vars false W args.toList ds [] before) (hb : Below W.heap.size W W') :
    s.post enc P fn false true false false W args (.bool true) W' := by
  have hlt : ∀ p ∈ before, p.block < W.heap.size := fun p hp => hW.lt p hp
  obtain ⟨p, q, hA, hV, hpq, hfz, hnd⟩ := id hW
  have hq : q = [] := by
    rw [hs] at hV
    exact hV
  subst hq
  rw [List.append_nil] at hpq
  subst hpq
  refine ⟨ds, [], before, [], before, [], hW, ?_, ?_, ?_, World.keptBut_mono (fun x hx => ⟨hx, .inr (.inl hx)⟩) (hb.frame (· ∈ before)), fun h => by cases h⟩
  · rw [hfn, hr]
    exact trodAll_cons_mk (shut_bool htb _) trodAll_mk0
  · rw [hfn]
    exact trodAll_below hl hb hp hA hlt
  · rw [hfn, hs]
    rfl
theorem no_spot {W : World} {a : Addr} {v : Value} (h : W.cell? a = some v) : a.spot = none := by
  unfold World.cell? at h
  split at h
  · split at h
    · cases h
    · rename_i hsp
      simpa using hsp
  · cases h
theorem add_plain {a : Addr} (hs : a.spot = none) (i : Nat) : a.add i = ⟨a.block, a.off + i, none⟩ := by
  unfold Addr.add
  split
  · rename_i h0
    subst h0
    cases a
    simp only at hs
    subst hs
    rfl
  · rfl
theorem cells_words {H : Type} {enc : TypeId × Value → H} {P : Program} {W : World} {t e : TypeId} {k : IntKind} {fuel : Nat} {cs : List Value} {x : DataW H × List MemPlace} (ht : P.underlying t = some (.slice e)) (he : P.underlying e = some (.int k)) (hc : P.cellsOf e = 1)
    (h : DataW.trod enc P W 0 (fun _ => true) true fuel t cs = some x) (hr : ∀ n ∈ x.1.weights P t, n ≤ reachBytes) :
    ∃ (v : Value) (l : List Int), cs = [v] ∧ SlRel (fun _ => False) W k l v ∧ v.oneCell' = true ∧ (∀ n ∈ l, (Lit.int k n).wf = true) ∧ l.length * P.bytesOf e ≤ reachBytes ∧
      ((l = [] ∧ x.1 = .nil) ∨ ∃ rest, x.1 = .slice (lits k l) rest) := by
  rcases open_ints ht he hc h with ⟨h1, h2⟩ | ⟨a, len, cap, zs, h1, _, h3, h4, h5, h6, h7, h8⟩
  · exact ⟨.slice none 0 0, [], h1, ⟨none, 0, rfl, Nat.le_refl _, Nat.zero_le _, fun _ => rfl, (fun i hi => by cases hi)⟩, rfl, (fun n hn => by cases hn), by simp, .inl ⟨rfl, by rw [h2]⟩⟩
  · subst h6
    simp only [if_true] at h5
    have hl : (zs.take len).length = len := by rw [List.length_take]; omega
    refine ⟨_, zs.take len, h1, ⟨some a, cap, by rw [hl], by omega, h4, (fun h => by cases h), fun i hi => ?_⟩, rfl, fun n hn => h8 n (List.mem_of_mem_take hn), ?_, .inr ⟨_, rfl⟩⟩
    · rw [hl] at hi
      have h0 := h7 0 (by omega)
      rw [Addr.add, if_pos rfl] at h0
      have hs := no_spot h0
      have h9 := h7 i (by omega)
      rw [add_plain hs] at h9
      refine ⟨a.block, a.off, ?_, fun h => h, ?_⟩
      · cases a
        simp only at hs
        subst hs
        rfl
      · rw [h9]
        congr 2
        rw [List.getD_eq_getElem?_getD, List.getD_eq_getElem?_getD, List.getElem?_take_of_lt hi]
    · have h10 := hr ((zs.take len).length * P.bytesOf e + (zs.drop len).length * P.bytesOf e) (by simp only [DataW.weights, ht, lits, List.length_map, Nat.add_mul]; exact List.mem_cons_self ..)
      omega
theorem choose_list {α : Type} {p : Nat → α → Prop} : ∀ {n : Nat}, (∀ i, i < n → ∃ x, p i x) → ∃ l : List α, l.length = n ∧ ∀ i x, l[i]? = some x → p i x
  | 0, _ => ⟨[], rfl, fun i x h => by cases h⟩
  | n + 1, h => by
    obtain ⟨l, h1, h2⟩ := choose_list (n := n) fun i hi => h i (by omega)
    obtain ⟨x, hx⟩ := h n (by omega)
    refine ⟨l ++ [x], by simp [h1], fun i y hy => ?_⟩
    by_cases hi : i < l.length
    · rw [List.getElem?_append_left hi] at hy
      exact h2 i y hy
    · rw [List.getElem?_append_right (by omega)] at hy
      have hi' : i - l.length = 0 := by
        have := (List.getElem?_eq_some_iff.1 hy).1
        simp at this
        omega
      rw [hi'] at hy
      simp only [List.getElem?_cons_zero, Option.some.injEq] at hy
      subst hy
      rw [show i = n from by omega]
      exact hx
theorem weights_all {H : Type} {P : Program} {e : TypeId} {d : DataW H} : ∀ {l : List (DataW H)}, d ∈ l → ∀ n ∈ d.weights P e, n ∈ DataW.weightsAll P e l
  | [], h, _, _ => by cases h
  | x :: l, h, n, hn => by
    simp only [DataW.weightsAll, List.mem_append]
    rcases List.mem_cons.1 h with rfl | h
    · exact .inl hn
    · exact .inr (weights_all h n hn)
theorem cells_wordss {H : Type} {enc : TypeId × Value → H} {P : Program} {W : World} {t u e : TypeId} {k : IntKind} {fuel : Nat} {cs : List Value} {x : DataW H × List MemPlace} (ht : P.underlying t = some (.slice u)) (hu : P.underlying u = some (.slice e)) (he : P.underlying e = some (.int k)) (hcu : P.cellsOf u = 1) (hc : P.cellsOf e = 1)
    (h : DataW.trod enc P W 0 (fun _ => true) true fuel t cs = some x) (hr : ∀ n ∈ x.1.weights P t, n ≤ reachBytes) :
    ∃ (v : Value) (ll : List (List Int)), cs = [v] ∧ SlsRel (fun _ => False) W k ll v ∧ v.oneCell' = true ∧ (∀ l ∈ ll, (∀ n ∈ l, (Lit.int k n).wf = true) ∧ l.length * P.bytesOf e ≤ reachBytes) ∧ ll.length * P.bytesOf u ≤ reachBytes ∧
      ((ll = [] ∧ x.1 = .nil) ∨ ∃ elems rest, x.1 = .slice elems rest ∧ elems.length = ll.length ∧ ∀ (i : Nat) l d, ll[i]? = some l → elems[i]? = some d → (l = [] ∧ d = .nil) ∨ ∃ r, d = .slice (lits k l) r) := by
  rcases DataW.trod_slice ht h with ⟨h1, h2⟩ | ⟨a, len, cap, elems, rest, m, _, h1, h2, _, h3, h4, h5, h6, h7, _⟩
  · exact ⟨.slice none 0 0, [], h1, ⟨none, 0, rfl, Nat.le_refl _, Nat.zero_le _, fun _ => rfl, (fun i hi => by cases hi)⟩, rfl, (fun n hn => by cases hn), by simp, .inl ⟨rfl, by rw [h2]⟩⟩
  · subst h2
    simp only [DataW.weights, ht] at hr
    have each : ∀ i, i < len → ∃ l : List Int, ∃ v y, elems[i]? = some y ∧ W.cell? (a.add i) = some v ∧ SlRel (fun _ => False) W k l v ∧ (∀ n ∈ l, (Lit.int k n).wf = true) ∧ l.length * P.bytesOf e ≤ reachBytes ∧ ((l = [] ∧ y.1 = .nil) ∨ ∃ r, y.1 = .slice (lits k l) r) := by
      intro i hi
      have he' := h6 i hi
      have hy : elems[i]? = some (elems[i]'(by omega)) := List.getElem?_eq_getElem (by omega)
      rw [hy, hcu, Nat.mul_one, Option.bind_eq_some_iff] at he'
      obtain ⟨cs', hcs, hy'⟩ := he'
      obtain ⟨v, l, g1, g2, _, g4, g5, g6⟩ := cells_words hu he hc hy' (fun n hn => hr n (List.mem_cons_of_mem _ (List.mem_append_left _ (weights_all (List.mem_map_of_mem (List.getElem_mem (by omega))) n hn))))
      subst g1
      exact ⟨l, v, _, hy, cell_of_cells?_one hcs, g2, g4, g5, g6⟩
    obtain ⟨ll, hl1, hl2⟩ := choose_list each
    refine ⟨_, ll, h1, ⟨some a, cap, by rw [hl1], by omega, h4, (fun h => by cases h), fun i hi => ?_⟩, rfl, fun l hl => ?_, ?_, .inr ⟨_, _, rfl, by rw [List.length_map, h5, hl1], fun i l d hl hd => ?_⟩⟩
    · obtain ⟨v, y, _, g2, g3, _⟩ := hl2 i (ll.getD i []) (by rw [List.getD_eq_getElem?_getD, List.getElem?_eq_getElem hi]; rfl)
      obtain ⟨v0, _, _, g0, _⟩ := hl2 0 _ (List.getElem?_eq_getElem (show 0 < ll.length by omega))
      rw [Addr.add, if_pos rfl] at g0
      have hs := no_spot g0
      rw [add_plain hs] at g2
      refine ⟨a.block, a.off, v, ?_, fun h => h, g2, g3⟩
      cases a
      simp only at hs
      subst hs
      rfl
    · obtain ⟨i, hi⟩ := List.getElem?_of_mem hl
      obtain ⟨_, _, _, _, _, g4, g5, _⟩ := hl2 i l hi
      exact ⟨g4, g5⟩
    · have := hr _ (List.mem_cons_self ..)
      rw [List.length_map, List.length_map, Nat.add_mul] at this
      rw [hl1, ← h5]
      omega
    · obtain ⟨_, y, g1, _, _, _, _, g6⟩ := hl2 i l hl
      rw [List.getElem?_map, g1] at hd
      simp only [Option.map_some, Option.some.injEq] at hd
      subst hd
      exact g6
theorem open_wordss {H : Type} {enc : TypeId × Value → H} {P : Program} {W : World} {base : Nat} {t u e : TypeId} {k : IntKind} {v : Value} {d : DataW H} {ps : List MemPlace} (ht : P.underlying t = some (.slice u)) (hu : P.underlying u = some (.slice e)) (he : P.underlying e = some (.int k)) (hcu : P.cellsOf u = 1) (hc : P.cellsOf e = 1)
    (hval : Value.okWide P W .any base t v) (hd : DataW.Trod enc P W 0 (fun _ => true) true t v d ps) (hr : ∀ n ∈ d.weights P t, n ≤ reachBytes) :
    ∃ ll : List (List Int), SlsRel (fun _ => False) W k ll v ∧ v.oneCell' = true ∧ (∀ l ∈ ll, (∀ n ∈ l, (Lit.int k n).wf = true) ∧ l.length * P.bytesOf e ≤ reachBytes) ∧ ll.length * P.bytesOf u ≤ reachBytes ∧
      ((ll = [] ∧ d = .nil) ∨ ∃ elems rest, d = .slice elems rest ∧ elems.length = ll.length ∧ ∀ (i : Nat) l d, ll[i]? = some l → elems[i]? = some d → (l = [] ∧ d = .nil) ∨ ∃ r, d = .slice (lits k l) r) := by
  obtain ⟨a0, len, cap, rfl⟩ := okWide_slice ht hval
  obtain ⟨fuel, hf⟩ := hd
  obtain ⟨v, ll, h1, h2, h3, h4, h5, h6⟩ := cells_wordss ht hu he hcu hc hf hr
  have h1' : [Value.slice a0 len cap] = [v] := h1
  simp only [List.cons.injEq, and_true] at h1'
  subst h1'
  exact ⟨ll, h2, h3, h4, h5, h6⟩
theorem wf_u8 {n : Int} (h : (Lit.int .u8 n).wf = true) : 0 ≤ n ∧ n < 256 := by
  have h1 : IntKind.u8.min = 0 := rfl
  have h2 : IntKind.u8.max = 255 := rfl
  simp only [Lit.wf, Bool.and_eq_true, decide_eq_true_eq] at h
  omega
theorem wf_i64 {n : Int} (h : (Lit.int .i64 n).wf = true) : -9223372036854775808 ≤ n ∧ n ≤ 9223372036854775807 := by
  have h1 : IntKind.i64.min = -9223372036854775808 := rfl
  have h2 : IntKind.i64.max = 9223372036854775807 := rfl
  simp only [Lit.wf, Bool.and_eq_true, decide_eq_true_eq] at h
  omega
theorem one_wordss {D : Dom} {W : World} {k : IntKind} {ll : List (List Int)} {v : Value} (h : SlsRel (fun _ => False) W k ll v) (h1 : v.oneCell' = true) : A0Rel D (cenv W) (.one (.wordss k ll)) v := ⟨h1, v, rfl, h⟩
theorem one_num {D : Dom} {W : World} {k : IntKind} {b : Bool} {n : Int} : A0Rel D (cenv W) (.one (.int k b n)) (.int k n) := ⟨rfl, rfl⟩
theorem rel_nil {D : Dom} {E : Env} : A0sRel D E [] [] := rfl
theorem rel_cons {D : Dom} {E : Env} {a : A0 D.τ} {v : Value} {xs : List (A0 D.τ)} {vs : List Value} (h : A0Rel D E a v) (k : A0sRel D E xs vs) : A0sRel D E (a :: xs) (v :: vs) := ⟨v, vs, rfl, h, k⟩
theorem law_calls {P : Program} {D : Dom} {Γ : Gam D} (hΓ : GamOK P D Γ) (hm : P.follows .mixedOrders = true) {f : FuncId} {fn : Func} (hf : P.funcs[f]? = some fn) {fuel : Nat} {xs : List (A0 D.τ)} {ds : List (Dec D.τ)} {b : Bool} {ps : List Prop}
    (h : runF P D Γ fuel fn xs ds = some (.v (.one (.bool b true)), ps)) (hps : AllQ ps) {W : World} {vs : List Value} (hG : GlobAt D W) (hx : A0sRel D (cenv W) xs vs) :
    Calls P f vs.toArray W fun e w' => e = .returned (.bool true) ∧ Below W.heap.size W w' := by
  refine (runF_calls hΓ hm hf h hps hG hx).mono ?_
  rintro e w' ⟨v, he, ⟨ν, _, hr⟩, hb⟩
  have hv : v = .bool true := by
    obtain ⟨_, h2⟩ := hr
    simpa [PartRel] using h2
  subst hv
  exact ⟨he, hb⟩
end Go.Laws
namespace Go.Laws
open Go.Abs Go.Proofs Go.Proofs.YthdhjbmgmfndhaaDoor Go.RowKit Go.Num
theorem gFirst : Tryd.prog.globalNamed "cresset/sha.first" = some 0 := by kernel_rfl
theorem gRoots : Tryd.prog.globalNamed "cresset/sha.roots" = some 1 := by kernel_rfl
theorem tFirst : (Tryd.prog.globals[0]?).map (·.type) = some 102 := by kernel_rfl
theorem tRoots : (Tryd.prog.globals[1]?).map (·.type) = some 125 := by kernel_rfl
theorem globAt {W : World} (h : laidMet Tryd.prog [("cresset/sha.first", Rows.laid_cresset_sha_first), ("cresset/sha.roots", Rows.laid_cresset_sha_roots)] W) : GlobAt DS W := by
  have h1 : Lib.TabIs Tryd.prog W "cresset/sha.first" .u32 firstL := Lib.tabIs_of_head gFirst tFirst Tryd.underlying102 Tryd.underlying94 (by kernel_rfl) (by kernel_rfl) h
  have h2 : Lib.TabIs Tryd.prog W "cresset/sha.roots" .u32 rootsL := Lib.tabIs_of_head gRoots tRoots Tryd.underlying125 Tryd.underlying94 (by kernel_rfl) (by kernel_rfl) (laidMet.tail h)
  have put : ∀ {g : Nat} {name : String} {l : List Int}, Tryd.prog.globalNamed name = some g → Lib.TabIs Tryd.prog W name .u32 l → 0 < l.length → g < W.heap.size ∧ ∀ i, i < l.length → W.cell? ⟨g, i, none⟩ = some (.int .u32 (l.getD i 0)) := by
    intro g name l hg ht hl
    refine ⟨?_, fun i hi => ht.cell hg i hi⟩
    have h0 := ht.cell hg 0 hl
    unfold World.cell? at h0
    split at h0
    · rename_i hh
      exact (Array.getElem?_eq_some_iff.1 hh).1
    · cases h0
  intro g k l hg
  have hg : (bif Nat.beq g 0 then some (IntKind.u32, firstL) else bif Nat.beq g 1 then some (IntKind.u32, rootsL) else none) = some (k, l) := hg
  cases e1 : Nat.beq g 0 <;> rw [e1] at hg
  · cases e2 : Nat.beq g 1 <;> rw [e2] at hg
    · cases hg
    · simp only [cond_false, cond_true, Option.some.injEq, Prod.mk.injEq] at hg
      obtain ⟨rfl, rfl⟩ := hg
      obtain rfl := Nat.eq_of_beq_eq_true e2
      exact put gRoots h2 (by decide)
  · simp only [cond_true, Option.some.injEq, Prod.mk.injEq] at hg
    obtain ⟨rfl, rfl⟩ := hg
    obtain rfl := Nat.eq_of_beq_eq_true e1
    exact put gFirst h1 (by decide)
def layTab (l : List Int) : Obj → Obj
  | .cells _ t frozen => .cells (l.map (.int .u32)).toArray t frozen
  | o => o
noncomputable def laidWorld (os : Os) : World :=
  { World.holding Tryd.prog os ⟨#[], #[], []⟩ with heap := ((World.holding Tryd.prog os ⟨#[], #[], []⟩).heap.modify 0 (layTab firstL)).modify 1 (layTab rootsL) }
end Go.Laws
