/- Several texts put together: Ch8 Ch9 Frame Glob D16 D17 FrD. -/
import Derived.Test.YthdhjbmgmfndhaaDoorMrg10
import Derived.Test.YthdhjbmgmfndhaaDoorRows
import Derived.WalkKit
import Derived.ProofKit
import Derived.OpenShut
import Derived.ShutString
import Derived.SizedLaws
import Derived.Carry
import Derived.Stop.LaidErr
import Derived.Lib.LaidTab
namespace Go.Num
open Go.Abs Go.Proofs Go.Shelf Go.RowKit
noncomputable def gFm : Gam DF := [(38, .fn rfD)]
theorem gFm_ok : GamOK Tryd.prog DF gFm := gam_cons ref_ok gam_nil
def fmSn (r : Int) (s b : List Int) (k : Int) : Sn DF.τ where
  slots := [(1, .v (.one (.ref 0 0))), (3, .v (.one (.own 1))), (21, .v (.one (.int .i64 false k)))]
  boxes := [(0, .fixed 37 [.int .i64 false r, .arr .u8 96 s]), (1, .dyn 5 (.ints .u8 b))]
  nt := 37
def fmEd (b : List Int) : Sn DF.τ where
  slots := [(3, .v (.one (.own 1)))]
  boxes := [(1, .dyn 5 (.ints .u8 b))]
  nt := 37
theorem fm_step (r : Int) (s b b' : List Int) (k : Nat)
 (h1 : ((decide (((k : Nat) : Int) < (96 : Int))) = true))
 (h2 : ((0 : Int) ≤ ((k : Nat) : Int)))
 (h3 : (((k : Nat) : Int) < (((96 : Nat) : Nat) : Int)))
 (h4 : (((List.length b) + (1 : Nat)) ≤ (9223372036854775807 : Nat)))
 (h5 : ((((List.length b) + (1 : Nat)) * (1 : Nat)) ≤ (140737488355328 : Nat)))
 (h6 : (InI64 (((k : Nat) : Int) + (1 : Int))))
 (h7 : ((b ++ ([(List.getD s (Int.toNat ((k : Nat) : Int)) (0 : Int))] : List Int)) = b')) :
 ∃ ps, stepPs Tryd.prog DF gFm 100 (bodyN Tryd.f22 1) 100 (fmSn r s b k).st [.is true] .normal (fmSn r s b' ((k : Int) + 1)) = some ps ∧ AllQ ps := ⟨_, by kernel_rfl, qc h1 (qc h2 (qc h3 (qc h4 (qc h5 (qc h6 (qc (Eq.refl ((((k : Nat) : Int) + (1 : Int)))) (qc (Eq.refl r) (qc (Eq.refl s) (qc h7 (qn))))))))))⟩
theorem fm_exit (r : Int) (s b : List Int) (k : Nat)
 (h1 : ((decide (((k : Nat) : Int) < (96 : Int))) = false)) :
 ∃ ps, stepPs Tryd.prog DF gFm 100 (bodyN Tryd.f22 1) 100 (fmSn r s b k).st [.is false] (.exit 2) (fmEd b) = some ps ∧ AllQ ps := ⟨_, by kernel_rfl, qc h1 (qc (Eq.refl b) (qn))⟩
theorem fm_run (r : Int) (s b b' : List Int)
 (h1 : (((0 : Nat) + (1 : Nat)) ≤ (9223372036854775807 : Nat)))
 (h2 : ((((0 : Nat) + (1 : Nat)) * (1 : Nat)) ≤ (140737488355328 : Nat)))
 (h3 : (((List.length (([] : List (Int)) ++ ([(Go.IntKind.wrap Go.IntKind.u8 (Int.fdiv r ((2 : Int) ^ (min (56 : Nat) (64 : Nat)))))] : List Int))) + (1 : Nat)) ≤ (9223372036854775807 : Nat)))
 (h4 : ((((List.length (([] : List (Int)) ++ ([(Go.IntKind.wrap Go.IntKind.u8 (Int.fdiv r ((2 : Int) ^ (min (56 : Nat) (64 : Nat)))))] : List Int))) + (1 : Nat)) * (1 : Nat)) ≤ (140737488355328 : Nat)))
 (h5 : (((List.length ((([] : List (Int)) ++ ([(Go.IntKind.wrap Go.IntKind.u8 (Int.fdiv r ((2 : Int) ^ (min (56 : Nat) (64 : Nat)))))] : List Int)) ++ ([(Go.IntKind.wrap Go.IntKind.u8 (Int.fdiv r ((2 : Int) ^ (min (48 : Nat) (64 : Nat)))))] : List Int))) + (1 : Nat)) ≤ (9223372036854775807 : Nat)))
 (h6 : ((((List.length ((([] : List (Int)) ++ ([(Go.IntKind.wrap Go.IntKind.u8 (Int.fdiv r ((2 : Int) ^ (min (56 : Nat) (64 : Nat)))))] : List Int)) ++ ([(Go.IntKind.wrap Go.IntKind.u8 (Int.fdiv r ((2 : Int) ^ (min (48 : Nat) (64 : Nat)))))] : List Int))) + (1 : Nat)) * (1 : Nat)) ≤ (140737488355328 : Nat)))
 (h7 : (((List.length (((([] : List (Int)) ++ ([(Go.IntKind.wrap Go.IntKind.u8 (Int.fdiv r ((2 : Int) ^ (min (56 : Nat) (64 : Nat)))))] : List Int)) ++ ([(Go.IntKind.wrap Go.IntKind.u8 (Int.fdiv r ((2 : Int) ^ (min (48 : Nat) (64 : Nat)))))] : List Int)) ++ ([(Go.IntKind.wrap Go.IntKind.u8 (Int.fdiv r ((2 : Int) ^ (min (40 : Nat) (64 : Nat)))))] : List Int))) + (1 : Nat)) ≤ (9223372036854775807 : Nat)))
 (h8 : ((((List.length (((([] : List (Int)) ++ ([(Go.IntKind.wrap Go.IntKind.u8 (Int.fdiv r ((2 : Int) ^ (min (56 : Nat) (64 : Nat)))))] : List Int)) ++ ([(Go.IntKind.wrap Go.IntKind.u8 (Int.fdiv r ((2 : Int) ^ (min (48 : Nat) (64 : Nat)))))] : List Int)) ++ ([(Go.IntKind.wrap Go.IntKind.u8 (Int.fdiv r ((2 : Int) ^ (min (40 : Nat) (64 : Nat)))))] : List Int))) + (1 : Nat)) * (1 : Nat)) ≤ (140737488355328 : Nat)))
 (h9 : (((List.length ((((([] : List (Int)) ++ ([(Go.IntKind.wrap Go.IntKind.u8 (Int.fdiv r ((2 : Int) ^ (min (56 : Nat) (64 : Nat)))))] : List Int)) ++ ([(Go.IntKind.wrap Go.IntKind.u8 (Int.fdiv r ((2 : Int) ^ (min (48 : Nat) (64 : Nat)))))] : List Int)) ++ ([(Go.IntKind.wrap Go.IntKind.u8 (Int.fdiv r ((2 : Int) ^ (min (40 : Nat) (64 : Nat)))))] : List Int)) ++ ([(Go.IntKind.wrap Go.IntKind.u8 (Int.fdiv r ((2 : Int) ^ (min (32 : Nat) (64 : Nat)))))] : List Int))) + (1 : Nat)) ≤ (9223372036854775807 : Nat)))
 (h10 : ((((List.length ((((([] : List (Int)) ++ ([(Go.IntKind.wrap Go.IntKind.u8 (Int.fdiv r ((2 : Int) ^ (min (56 : Nat) (64 : Nat)))))] : List Int)) ++ ([(Go.IntKind.wrap Go.IntKind.u8 (Int.fdiv r ((2 : Int) ^ (min (48 : Nat) (64 : Nat)))))] : List Int)) ++ ([(Go.IntKind.wrap Go.IntKind.u8 (Int.fdiv r ((2 : Int) ^ (min (40 : Nat) (64 : Nat)))))] : List Int)) ++ ([(Go.IntKind.wrap Go.IntKind.u8 (Int.fdiv r ((2 : Int) ^ (min (32 : Nat) (64 : Nat)))))] : List Int))) + (1 : Nat)) * (1 : Nat)) ≤ (140737488355328 : Nat)))
 (h11 : (((List.length (((((([] : List (Int)) ++ ([(Go.IntKind.wrap Go.IntKind.u8 (Int.fdiv r ((2 : Int) ^ (min (56 : Nat) (64 : Nat)))))] : List Int)) ++ ([(Go.IntKind.wrap Go.IntKind.u8 (Int.fdiv r ((2 : Int) ^ (min (48 : Nat) (64 : Nat)))))] : List Int)) ++ ([(Go.IntKind.wrap Go.IntKind.u8 (Int.fdiv r ((2 : Int) ^ (min (40 : Nat) (64 : Nat)))))] : List Int)) ++ ([(Go.IntKind.wrap Go.IntKind.u8 (Int.fdiv r ((2 : Int) ^ (min (32 : Nat) (64 : Nat)))))] : List Int)) ++ ([(Go.IntKind.wrap Go.IntKind.u8 (Int.fdiv r ((2 : Int) ^ (min (24 : Nat) (64 : Nat)))))] : List Int))) + (1 : Nat)) ≤ (9223372036854775807 : Nat)))
 (h12 : ((((List.length (((((([] : List (Int)) ++ ([(Go.IntKind.wrap Go.IntKind.u8 (Int.fdiv r ((2 : Int) ^ (min (56 : Nat) (64 : Nat)))))] : List Int)) ++ ([(Go.IntKind.wrap Go.IntKind.u8 (Int.fdiv r ((2 : Int) ^ (min (48 : Nat) (64 : Nat)))))] : List Int)) ++ ([(Go.IntKind.wrap Go.IntKind.u8 (Int.fdiv r ((2 : Int) ^ (min (40 : Nat) (64 : Nat)))))] : List Int)) ++ ([(Go.IntKind.wrap Go.IntKind.u8 (Int.fdiv r ((2 : Int) ^ (min (32 : Nat) (64 : Nat)))))] : List Int)) ++ ([(Go.IntKind.wrap Go.IntKind.u8 (Int.fdiv r ((2 : Int) ^ (min (24 : Nat) (64 : Nat)))))] : List Int))) + (1 : Nat)) * (1 : Nat)) ≤ (140737488355328 : Nat)))
 (h13 : (((List.length ((((((([] : List (Int)) ++ ([(Go.IntKind.wrap Go.IntKind.u8 (Int.fdiv r ((2 : Int) ^ (min (56 : Nat) (64 : Nat)))))] : List Int)) ++ ([(Go.IntKind.wrap Go.IntKind.u8 (Int.fdiv r ((2 : Int) ^ (min (48 : Nat) (64 : Nat)))))] : List Int)) ++ ([(Go.IntKind.wrap Go.IntKind.u8 (Int.fdiv r ((2 : Int) ^ (min (40 : Nat) (64 : Nat)))))] : List Int)) ++ ([(Go.IntKind.wrap Go.IntKind.u8 (Int.fdiv r ((2 : Int) ^ (min (32 : Nat) (64 : Nat)))))] : List Int)) ++ ([(Go.IntKind.wrap Go.IntKind.u8 (Int.fdiv r ((2 : Int) ^ (min (24 : Nat) (64 : Nat)))))] : List Int)) ++ ([(Go.IntKind.wrap Go.IntKind.u8 (Int.fdiv r ((2 : Int) ^ (min (16 : Nat) (64 : Nat)))))] : List Int))) + (1 : Nat)) ≤ (9223372036854775807 : Nat)))
 (h14 : ((((List.length ((((((([] : List (Int)) ++ ([(Go.IntKind.wrap Go.IntKind.u8 (Int.fdiv r ((2 : Int) ^ (min (56 : Nat) (64 : Nat)))))] : List Int)) ++ ([(Go.IntKind.wrap Go.IntKind.u8 (Int.fdiv r ((2 : Int) ^ (min (48 : Nat) (64 : Nat)))))] : List Int)) ++ ([(Go.IntKind.wrap Go.IntKind.u8 (Int.fdiv r ((2 : Int) ^ (min (40 : Nat) (64 : Nat)))))] : List Int)) ++ ([(Go.IntKind.wrap Go.IntKind.u8 (Int.fdiv r ((2 : Int) ^ (min (32 : Nat) (64 : Nat)))))] : List Int)) ++ ([(Go.IntKind.wrap Go.IntKind.u8 (Int.fdiv r ((2 : Int) ^ (min (24 : Nat) (64 : Nat)))))] : List Int)) ++ ([(Go.IntKind.wrap Go.IntKind.u8 (Int.fdiv r ((2 : Int) ^ (min (16 : Nat) (64 : Nat)))))] : List Int))) + (1 : Nat)) * (1 : Nat)) ≤ (140737488355328 : Nat)))
 (h15 : (((List.length (((((((([] : List (Int)) ++ ([(Go.IntKind.wrap Go.IntKind.u8 (Int.fdiv r ((2 : Int) ^ (min (56 : Nat) (64 : Nat)))))] : List Int)) ++ ([(Go.IntKind.wrap Go.IntKind.u8 (Int.fdiv r ((2 : Int) ^ (min (48 : Nat) (64 : Nat)))))] : List Int)) ++ ([(Go.IntKind.wrap Go.IntKind.u8 (Int.fdiv r ((2 : Int) ^ (min (40 : Nat) (64 : Nat)))))] : List Int)) ++ ([(Go.IntKind.wrap Go.IntKind.u8 (Int.fdiv r ((2 : Int) ^ (min (32 : Nat) (64 : Nat)))))] : List Int)) ++ ([(Go.IntKind.wrap Go.IntKind.u8 (Int.fdiv r ((2 : Int) ^ (min (24 : Nat) (64 : Nat)))))] : List Int)) ++ ([(Go.IntKind.wrap Go.IntKind.u8 (Int.fdiv r ((2 : Int) ^ (min (16 : Nat) (64 : Nat)))))] : List Int)) ++ ([(Go.IntKind.wrap Go.IntKind.u8 (Int.fdiv r ((2 : Int) ^ (min (8 : Nat) (64 : Nat)))))] : List Int))) + (1 : Nat)) ≤ (9223372036854775807 : Nat)))
 (h16 : ((((List.length (((((((([] : List (Int)) ++ ([(Go.IntKind.wrap Go.IntKind.u8 (Int.fdiv r ((2 : Int) ^ (min (56 : Nat) (64 : Nat)))))] : List Int)) ++ ([(Go.IntKind.wrap Go.IntKind.u8 (Int.fdiv r ((2 : Int) ^ (min (48 : Nat) (64 : Nat)))))] : List Int)) ++ ([(Go.IntKind.wrap Go.IntKind.u8 (Int.fdiv r ((2 : Int) ^ (min (40 : Nat) (64 : Nat)))))] : List Int)) ++ ([(Go.IntKind.wrap Go.IntKind.u8 (Int.fdiv r ((2 : Int) ^ (min (32 : Nat) (64 : Nat)))))] : List Int)) ++ ([(Go.IntKind.wrap Go.IntKind.u8 (Int.fdiv r ((2 : Int) ^ (min (24 : Nat) (64 : Nat)))))] : List Int)) ++ ([(Go.IntKind.wrap Go.IntKind.u8 (Int.fdiv r ((2 : Int) ^ (min (16 : Nat) (64 : Nat)))))] : List Int)) ++ ([(Go.IntKind.wrap Go.IntKind.u8 (Int.fdiv r ((2 : Int) ^ (min (8 : Nat) (64 : Nat)))))] : List Int))) + (1 : Nat)) * (1 : Nat)) ≤ (140737488355328 : Nat)))
 (h17 : SumOK Tryd.prog DF (bodyN Tryd.f22 1) (loopL DF (fmSn r s b 0) (.exit 2) (fmEd b')))
 (h18 : (((((((((([] : List (Int)) ++ ([(Go.IntKind.wrap Go.IntKind.u8 (Int.fdiv r ((2 : Int) ^ (min (56 : Nat) (64 : Nat)))))] : List Int)) ++ ([(Go.IntKind.wrap Go.IntKind.u8 (Int.fdiv r ((2 : Int) ^ (min (48 : Nat) (64 : Nat)))))] : List Int)) ++ ([(Go.IntKind.wrap Go.IntKind.u8 (Int.fdiv r ((2 : Int) ^ (min (40 : Nat) (64 : Nat)))))] : List Int)) ++ ([(Go.IntKind.wrap Go.IntKind.u8 (Int.fdiv r ((2 : Int) ^ (min (32 : Nat) (64 : Nat)))))] : List Int)) ++ ([(Go.IntKind.wrap Go.IntKind.u8 (Int.fdiv r ((2 : Int) ^ (min (24 : Nat) (64 : Nat)))))] : List Int)) ++ ([(Go.IntKind.wrap Go.IntKind.u8 (Int.fdiv r ((2 : Int) ^ (min (16 : Nat) (64 : Nat)))))] : List Int)) ++ ([(Go.IntKind.wrap Go.IntKind.u8 (Int.fdiv r ((2 : Int) ^ (min (8 : Nat) (64 : Nat)))))] : List Int)) ++ ([(Go.IntKind.wrap Go.IntKind.u8 (Int.fdiv r ((2 : Int) ^ (min (0 : Nat) (64 : Nat)))))] : List Int)) = b))
 (h19 : ((List.length b') ≤ (140737488351232 : Nat)))
 (h20 : ((8 : Int) ≤ (((List.length (rfSum b')) : Nat) : Int)))
 (h21 : (((List.length b') + (List.length (List.take (8 : Nat) (rfSum b')))) ≤ (9223372036854775807 : Nat)))
 (h22 : ((((List.length b') + (List.length (List.take (8 : Nat) (rfSum b')))) * (1 : Nat)) ≤ (140737488355328 : Nat))) :
 ∃ ps, runF Tryd.prog DF gFm 100 Tryd.f22 [.agg [.int .i64 false r, .arr .u8 96 s]] [.roll, .loop (loopL DF (fmSn r s b 0) (.exit 2) (fmEd b'))] = some ((AV.v (A0.one (Part.fresh (0 : Nat) (5 : Nat) Go.IntKind.u8 (b' ++ (List.take (8 : Nat) (rfSum b')))))), ps) ∧ AllQ ps := ⟨_, by kernel_rfl, qc h1 (qc h2 (qc h3 (qc h4 (qc h5 (qc h6 (qc h7 (qc h8 (qc h9 (qc h10 (qc h11 (qc h12 (qc h13 (qc h14 (qc h15 (qc h16 (qc h17 (qc (Eq.refl ((0 : Int))) (qc (Eq.refl r) (qc (Eq.refl s) (qc h18 (qc h19 (qc (show ((0 : Int) ≤ (8 : Int)) from by decide) (qc h20 (qc h21 (qc h22 (qn))))))))))))))))))))))))))⟩
def fmD : FnD DF
  | [.agg [.int .i64 _ r, .arr .u8 96 s]] => some (.v (.one (.fresh 0 5 .u8 (frameL r s))), [s.length = 96, InB s])
  | _ => none
noncomputable def gRf : Gam DF := [(22, .fn fmD), (23, .fn (sameD DF))]
def rdiSn (b : List Int) (at_ : Int) (ls : List Rec) (r : Int) (s : List Int) (k : Int) : Sn DF.τ where
  slots := [(0, .v (.one (.words .u8 b))), (4, .v (.one (.own 0))), (5, .v (.one (.int .i64 false at_))), (6, .v (.one (.ref 1 0))), (18, .v (.one (.int .i64 false k)))]
  boxes := [(0, .dyn 37 (.lrs lkSh ls)), (1, .fixed 37 [.int .i64 false r, .arr .u8 96 s])]
  nt := 49
def rdoSn (b : List Int) (at_ : Int) (ls : List Rec) : Sn DF.τ where
  slots := [(0, .v (.one (.words .u8 b))), (4, .v (.one (.own 0))), (5, .v (.one (.int .i64 false at_)))]
  boxes := [(0, .dyn 37 (.lrs lkSh ls))]
  nt := 49
theorem ri_step (b : List Int) (p : Int) (ls : List Rec) (r : Int) (s s' : List Int) (k : Nat)
 (h1 : ((decide (((k : Nat) : Int) < (96 : Int))) = true))
 (h2 : (InI64 (p + (8 : Int))))
 (h3 : (InI64 ((p + (8 : Int)) + ((k : Nat) : Int))))
 (h4 : ((0 : Int) ≤ ((p + (8 : Int)) + ((k : Nat) : Int))))
 (h5 : (((p + (8 : Int)) + ((k : Nat) : Int)) < (((List.length b) : Nat) : Int)))
 (h6 : ((0 : Int) ≤ ((k : Nat) : Int)))
 (h7 : (((k : Nat) : Int) < (((96 : Nat) : Nat) : Int)))
 (h8 : (InI64 (((k : Nat) : Int) + (1 : Int))))
 (h9 : ((List.set s (Int.toNat ((k : Nat) : Int)) (List.getD b (Int.toNat ((p + (8 : Int)) + ((k : Nat) : Int))) (0 : Int))) = s')) :
 ∃ ps, stepPs Tryd.prog DF gRf 100 (bodyN Tryd.f25 1) 100 (rdiSn b p ls r s k).st [.is true] .normal (rdiSn b p ls r s' ((k : Int) + 1)) = some ps ∧ AllQ ps := ⟨_, by kernel_rfl, qc h1 (qc h2 (qc h3 (qc h4 (qc h5 (qc h6 (qc h7 (qc h8 (qc (Eq.refl b) (qc (Eq.refl p) (qc (Eq.refl ((((k : Nat) : Int) + (1 : Int)))) (qc (Eq.refl ls) (qc (Eq.refl r) (qc h9 (qn))))))))))))))⟩
theorem ri_exit (b : List Int) (p : Int) (ls : List Rec) (r : Int) (s : List Int) (k : Nat)
 (h1 : ((decide (((k : Nat) : Int) < (96 : Int))) = false)) :
 ∃ ps, stepPs Tryd.prog DF gRf 100 (bodyN Tryd.f25 1) 100 (rdiSn b p ls r s k).st [.is false] (.exit 2) (rdiSn b p ls r s k) = some ps ∧ AllQ ps := ⟨_, by kernel_rfl, qc h1 (qc (Eq.refl b) (qc (Eq.refl p) (qc (Eq.refl (((k : Nat) : Int))) (qc (Eq.refl ls) (qc (Eq.refl r) (qc (Eq.refl s) (qn)))))))⟩
theorem ro_step (b : List Int) (p : Int) (ls ls' : List Rec) (s : List Int)
 (h1 : (InI64 (p + (112 : Int))))
 (h2 : ((decide ((p + (112 : Int)) ≤ (((List.length b) : Nat) : Int))) = true))
 (h3 : (InI64 ((((List.length ls) : Nat) : Int) + (1 : Int))))
 (h4 : SumOK Tryd.prog DF (bodyN Tryd.f25 1) (loopL DF (rdiSn b p ls ((ls.length : Int) + 1) (List.replicate 96 0) 0) (.exit 2) (rdiSn b p ls ((ls.length : Int) + 1) s 96)))
 (h5 : ((List.length s) = (96 : Nat)))
 (h6 : (InB s))
 (h7 : ((0 : Int) ≤ p))
 (h8 : (p ≤ (p + (112 : Int))))
 (h9 : ((p + (112 : Int)) ≤ (((List.length b) : Nat) : Int)))
 (h10 : ((decide ((frameL ((((List.length ls) : Nat) : Int) + (1 : Int)) s) = (List.drop (Int.toNat p) (List.take (Int.toNat (p + (112 : Int))) b)))) = true))
 (h11 : ((List.length (frameL ((((List.length ls) : Nat) : Int) + (1 : Int)) s)) ≤ (9223372036854775807 : Nat)))
 (h12 : ((List.length (List.drop (Int.toNat p) (List.take (Int.toNat (p + (112 : Int))) b))) ≤ (9223372036854775807 : Nat)))
 (h13 : ((((List.length ls) + (1 : Nat)) * (104 : Nat)) ≤ (140737488355328 : Nat)))
 (h14 : (((List.length ls) + (1 : Nat)) ≤ (9223372036854775807 : Nat)))
 (h15 : ((ls ++ [[(Fd.i ((((List.length ls) : Nat) : Int) + (1 : Int))), (Fd.w s)]]) = ls')) :
 ∃ ps, stepPs Tryd.prog DF gRf 100 (bodyN Tryd.f25 0) 100 (rdoSn b p ls).st [.is true, .loop (loopL DF (rdiSn b p ls ((ls.length : Int) + 1) (List.replicate 96 0) 0) (.exit 2) (rdiSn b p ls ((ls.length : Int) + 1) s 96)), .is true] .normal (rdoSn b (p + 112) ls') = some ps ∧ AllQ ps := ⟨_, by kernel_rfl, qc h1 (qc h2 (qc h3 (qc h4 (qc (Eq.refl b) (qc (Eq.refl p) (qc (Eq.refl ((0 : Int))) (qc (Eq.refl ls) (qc (Eq.refl (((((List.length ls) : Nat) : Int) + (1 : Int)))) (qc (show (([(0 : Int), (0 : Int), (0 : Int), (0 : Int), (0 : Int), (0 : Int), (0 : Int), (0 : Int), (0 : Int), (0 : Int), (0 : Int), (0 : Int), (0 : Int), (0 : Int), (0 : Int), (0 : Int), (0 : Int), (0 : Int), (0 : Int), (0 : Int), (0 : Int), (0 : Int), (0 : Int), (0 : Int), (0 : Int), (0 : Int), (0 : Int), (0 : Int), (0 : Int), (0 : Int), (0 : Int), (0 : Int), (0 : Int), (0 : Int), (0 : Int), (0 : Int), (0 : Int), (0 : Int), (0 : Int), (0 : Int), (0 : Int), (0 : Int), (0 : Int), (0 : Int), (0 : Int), (0 : Int), (0 : Int), (0 : Int), (0 : Int), (0 : Int), (0 : Int), (0 : Int), (0 : Int), (0 : Int), (0 : Int), (0 : Int), (0 : Int), (0 : Int), (0 : Int), (0 : Int), (0 : Int), (0 : Int), (0 : Int), (0 : Int), (0 : Int), (0 : Int), (0 : Int), (0 : Int), (0 : Int), (0 : Int), (0 : Int), (0 : Int), (0 : Int), (0 : Int), (0 : Int), (0 : Int), (0 : Int), (0 : Int), (0 : Int), (0 : Int), (0 : Int), (0 : Int), (0 : Int), (0 : Int), (0 : Int), (0 : Int), (0 : Int), (0 : Int), (0 : Int), (0 : Int), (0 : Int), (0 : Int), (0 : Int), (0 : Int), (0 : Int), (0 : Int)] : List Int) = (List.replicate (96 : Nat) (0 : Int))) from by decide) (qc h5 (qc h6 (qc h1 (qc h7 (qc h8 (qc h9 (qc h10 (qc h11 (qc h12 (qc h13 (qc h14 (qc h1 (qc (Eq.refl b) (qc (Eq.refl ((p + (112 : Int)))) (qc h15 (qn)))))))))))))))))))))))))⟩
theorem ro_stop (b : List Int) (p : Int) (ls : List Rec) (s : List Int)
 (h1 : (InI64 (p + (112 : Int))))
 (h2 : ((decide ((p + (112 : Int)) ≤ (((List.length b) : Nat) : Int))) = true))
 (h3 : (InI64 ((((List.length ls) : Nat) : Int) + (1 : Int))))
 (h4 : SumOK Tryd.prog DF (bodyN Tryd.f25 1) (loopL DF (rdiSn b p ls ((ls.length : Int) + 1) (List.replicate 96 0) 0) (.exit 2) (rdiSn b p ls ((ls.length : Int) + 1) s 96)))
 (h5 : ((List.length s) = (96 : Nat)))
 (h6 : (InB s))
 (h7 : ((0 : Int) ≤ p))
 (h8 : (p ≤ (p + (112 : Int))))
 (h9 : ((p + (112 : Int)) ≤ (((List.length b) : Nat) : Int)))
 (h10 : ((decide ((frameL ((((List.length ls) : Nat) : Int) + (1 : Int)) s) = (List.drop (Int.toNat p) (List.take (Int.toNat (p + (112 : Int))) b)))) = false))
 (h11 : ((List.length (frameL ((((List.length ls) : Nat) : Int) + (1 : Int)) s)) ≤ (9223372036854775807 : Nat)))
 (h12 : ((List.length (List.drop (Int.toNat p) (List.take (Int.toNat (p + (112 : Int))) b))) ≤ (9223372036854775807 : Nat))) :
 ∃ ps, stepPs Tryd.prog DF gRf 100 (bodyN Tryd.f25 0) 100 (rdoSn b p ls).st [.is true, .loop (loopL DF (rdiSn b p ls ((ls.length : Int) + 1) (List.replicate 96 0) 0) (.exit 2) (rdiSn b p ls ((ls.length : Int) + 1) s 96)), .is false] (.exit 0) (rdoSn b p ls) = some ps ∧ AllQ ps := ⟨_, by kernel_rfl, qc h1 (qc h2 (qc h3 (qc h4 (qc (Eq.refl b) (qc (Eq.refl p) (qc (Eq.refl ((0 : Int))) (qc (Eq.refl ls) (qc (Eq.refl (((((List.length ls) : Nat) : Int) + (1 : Int)))) (qc (show (([(0 : Int), (0 : Int), (0 : Int), (0 : Int), (0 : Int), (0 : Int), (0 : Int), (0 : Int), (0 : Int), (0 : Int), (0 : Int), (0 : Int), (0 : Int), (0 : Int), (0 : Int), (0 : Int), (0 : Int), (0 : Int), (0 : Int), (0 : Int), (0 : Int), (0 : Int), (0 : Int), (0 : Int), (0 : Int), (0 : Int), (0 : Int), (0 : Int), (0 : Int), (0 : Int), (0 : Int), (0 : Int), (0 : Int), (0 : Int), (0 : Int), (0 : Int), (0 : Int), (0 : Int), (0 : Int), (0 : Int), (0 : Int), (0 : Int), (0 : Int), (0 : Int), (0 : Int), (0 : Int), (0 : Int), (0 : Int), (0 : Int), (0 : Int), (0 : Int), (0 : Int), (0 : Int), (0 : Int), (0 : Int), (0 : Int), (0 : Int), (0 : Int), (0 : Int), (0 : Int), (0 : Int), (0 : Int), (0 : Int), (0 : Int), (0 : Int), (0 : Int), (0 : Int), (0 : Int), (0 : Int), (0 : Int), (0 : Int), (0 : Int), (0 : Int), (0 : Int), (0 : Int), (0 : Int), (0 : Int), (0 : Int), (0 : Int), (0 : Int), (0 : Int), (0 : Int), (0 : Int), (0 : Int), (0 : Int), (0 : Int), (0 : Int), (0 : Int), (0 : Int), (0 : Int), (0 : Int), (0 : Int), (0 : Int), (0 : Int), (0 : Int), (0 : Int)] : List Int) = (List.replicate (96 : Nat) (0 : Int))) from by decide) (qc h5 (qc h6 (qc h1 (qc h7 (qc h8 (qc h9 (qc h10 (qc h11 (qc h12 (qc (Eq.refl b) (qc (Eq.refl p) (qc (Eq.refl ls) (qn))))))))))))))))))))))⟩
theorem ro_exit (b : List Int) (p : Int) (ls : List Rec)
 (h1 : (InI64 (p + (112 : Int))))
 (h2 : ((decide ((p + (112 : Int)) ≤ (((List.length b) : Nat) : Int))) = false)) :
 ∃ ps, stepPs Tryd.prog DF gRf 100 (bodyN Tryd.f25 0) 100 (rdoSn b p ls).st [.is false] (.exit 0) (rdoSn b p ls) = some ps ∧ AllQ ps := ⟨_, by kernel_rfl, qc h1 (qc h2 (qc (Eq.refl b) (qc (Eq.refl p) (qc (Eq.refl ls) (qn)))))⟩
theorem ro_run (b : List Int) (p : Int) (ls : List Rec)
 (h1 : SumOK Tryd.prog DF (bodyN Tryd.f25 0) (loopL DF (rdoSn b 0 []) (.exit 0) (rdoSn b p ls))) :
 ∃ ps, runO Tryd.prog DF gRf 100 Tryd.f25 ([], [.one (.words .u8 b)]) [.loop (loopL DF (rdoSn b 0 []) (.exit 0) (rdoSn b p ls))] (.tup [.one (.own 0), .one (.int .i64 false p)]) [.dyn 37 (.lrs lkSh ls)] = some ps ∧ AllQ ps := ⟨_, by kernel_rfl, qc h1 (qc (Eq.refl b) (qc (Eq.refl ((0 : Int))) (qc (Eq.refl (([] : List (Rec)))) (qc (Eq.refl p) (qc (Eq.refl ls) (qn))))))⟩
theorem or_nat64 {a b : Nat} (ha : a < 18446744073709551616) (hb : b < 18446744073709551616) : bitsOf .or .u64 (a : Int) (b : Int) = ((a ||| b : Nat) : Int) := by
  have h : a ||| b < 2 ^ 64 := Nat.or_lt_two_pow (by omega) (by omega)
  show IntKind.u64.wrap (((BitVec.ofInt 64 (a : Int) ||| BitVec.ofInt 64 (b : Int)).toNat : Nat) : Int) = _
  rw [BitVec.toNat_or, BitVec.ofInt_natCast, BitVec.ofInt_natCast, BitVec.toNat_ofNat, BitVec.toNat_ofNat, Nat.mod_eq_of_lt (by omega), Nat.mod_eq_of_lt (by omega), IntKind.wrap_u64]
  omega
theorem or_add64 {q b t : Nat} (hb : b < 2 ^ t) (h : 2 ^ t * q + b < 18446744073709551616) : bitsOf .or .u64 ((2 ^ t * q : Nat) : Int) (b : Int) = ((2 ^ t * q + b : Nat) : Int) := by
  rw [or_nat64 (by omega) (by omega), Nat.two_pow_add_eq_or_of_lt hb]
theorem p256 {i : Nat} (h : i ≤ 7) : (256 : Int) ^ i ≤ 72057594037927936 := by
  have : i = 0 ∨ i = 1 ∨ i = 2 ∨ i = 3 ∨ i = 4 ∨ i = 5 ∨ i = 6 ∨ i = 7 := by omega
  rcases this with rfl | rfl | rfl | rfl | rfl | rfl | rfl | rfl <;> decide
theorem nIt_be {l : List Int} (hl : InB l) : ∀ {i : Nat}, i ≤ l.length → i ≤ 8 → nIt l i = be (l.take i)
  | 0, _, _ => by rw [List.take_zero]; rfl
  | i + 1, h1, h2 => by
    have ih := nIt_be hl (i := i) (by omega) (by omega)
    have hb : ∀ a ∈ l.take i, 0 ≤ a ∧ a < 256 := fun a ha => hl a (List.mem_of_mem_take ha)
    obtain ⟨r1, r2⟩ := be_range (l := l.take i) hb
    have hlen : (l.take i).length = i := by rw [List.length_take]; omega
    rw [hlen] at r2
    have h256 : (256 : Int) ^ i ≤ 72057594037927936 := p256 (by omega)
    have r3 : be (l.take i) < 72057594037927936 := Int.lt_of_lt_of_le r2 h256
    clear r2 h256
    have hx : l[i]? = some (l.getD i 0) := by rw [List.getD_eq_getElem?_getD, List.getElem?_eq_getElem (by omega)]; rfl
    have hxm : l.getD i 0 ∈ l := List.mem_of_getElem? hx
    have hxb := hl _ hxm
    have ht : l.take (i + 1) = l.take i ++ [l.getD i 0] := by rw [List.take_add_one, hx]; rfl
    rw [ht, be_append]
    show bitsOf .or .u64 (IntKind.u64.wrap (nIt l i * 2 ^ min 8 64)) (IntKind.u64.wrap (l.getD i 0)) = _
    rw [ih]
    generalize be (l.take i) = q at r1 r3 ⊢
    generalize l.getD i 0 = x at hxb ⊢
    obtain ⟨n, rfl⟩ : ∃ n : Nat, q = n := ⟨q.toNat, by omega⟩
    obtain ⟨m, rfl⟩ : ∃ m : Nat, x = m := ⟨x.toNat, by omega⟩
    have e1 : IntKind.u64.wrap ((n : Int) * 2 ^ min 8 64) = ((2 ^ 8 * n : Nat) : Int) := by rw [IntKind.wrap_u64, show (2 : Int) ^ min 8 64 = 256 from rfl]; omega
    have e2 : IntKind.u64.wrap (m : Int) = ((m : Nat) : Int) := by rw [IntKind.wrap_u64]; omega
    rw [e1, e2, or_add64 (by omega) (by omega)]
    simp only [be, List.length_cons, List.length_nil]
    omega
theorem rndB_be (r : Int) : rndB r = beB 8 r := by
  unfold rndB
  simp only [beB, IntKind.wrap_u8]
  simp only [Int.fdiv_eq_ediv_of_nonneg _ (show (0 : Int) ≤ 2 ^ min 56 64 by decide), Int.fdiv_eq_ediv_of_nonneg _ (show (0 : Int) ≤ 2 ^ min 48 64 by decide), Int.fdiv_eq_ediv_of_nonneg _ (show (0 : Int) ≤ 2 ^ min 40 64 by decide), Int.fdiv_eq_ediv_of_nonneg _ (show (0 : Int) ≤ 2 ^ min 32 64 by decide),
    Int.fdiv_eq_ediv_of_nonneg _ (show (0 : Int) ≤ 2 ^ min 24 64 by decide), Int.fdiv_eq_ediv_of_nonneg _ (show (0 : Int) ≤ 2 ^ min 16 64 by decide), Int.fdiv_eq_ediv_of_nonneg _ (show (0 : Int) ≤ 2 ^ min 8 64 by decide), Int.fdiv_eq_ediv_of_nonneg _ (show (0 : Int) ≤ 2 ^ min 0 64 by decide)]
  rfl
theorem inB_append {a b : List Int} (ha : InB a) (hb : InB b) : InB (a ++ b) := fun x hx => (List.mem_append.1 hx).elim (ha x) (hb x)
theorem inB_take {a : List Int} (ha : InB a) (n : Nat) : InB (a.take n) := fun x hx => ha x (List.mem_of_mem_take hx)
theorem inB_drop {a : List Int} (ha : InB a) (n : Nat) : InB (a.drop n) := fun x hx => ha x (List.mem_of_mem_drop hx)
theorem inB_rnd (r : Int) : InB (rndB r) := by rw [rndB_be]; exact beB_inB 8 r
theorem sumL_rf {l : List Int} (h : InB l) : sumL l = (rfSum l).take 8 := by
  have := of_same (ll := [l]) (by rw [List.flatten_cons, List.flatten_nil, List.append_nil]; exact h)
  unfold sumL
  rw [this, List.flatten_cons, List.flatten_nil, List.append_nil]
theorem sig_cut {t : List Int} (h : t.length = 112) : t.take 104 = t.take 8 ++ sigB t ∧ (sigB t).length = 96 ∧ t = (t.take 8 ++ sigB t) ++ t.drop 104 := by
  have e1 : sigB t = (t.take 104).drop 8 := by unfold sigB; exact List.take_of_length_le (by rw [List.length_drop, List.length_take]; omega)
  have e2 : t.take 104 = t.take 8 ++ sigB t := by
    rw [e1]
    have := List.take_append_drop 8 (t.take 104)
    rw [List.take_take, Nat.min_eq_left (by decide : 8 ≤ 104)] at this
    exact this.symm
  refine ⟨e2, by rw [e1, List.length_drop, List.length_take]; omega, ?_⟩
  rw [← e2, List.take_append_drop]
theorem frame_fits {t : List Int} (h : t.length = 112) (hb : InB t) (r : Int) : frameL r (sigB t) = t ↔ fitsB t r := by
  obtain ⟨h1, h2, h3⟩ := sig_cut h
  have h8 : (t.take 8).length = 8 := by rw [List.length_take]; omega
  have hn : nIt (t.take 8) 8 = be (t.take 8) := by
    rw [nIt_be (inB_take hb 8) (by omega) (Nat.le_refl _), List.take_take, Nat.min_self]
  have hd : (t.drop 104).take 8 = t.drop 104 := List.take_of_length_le (by rw [List.length_drop]; omega)
  have hw : IntKind.u64.wrap r = r % 256 ^ 8 := by rw [IntKind.wrap_u64]; rfl
  unfold fitsB
  rw [hn, hd, hw]
  constructor
  · intro he
    unfold frameL bodyL at he
    have he2 := he.trans h3
    have hl1 : (rndB r ++ sigB t).length = (t.take 8 ++ sigB t).length := by rw [List.length_append, List.length_append, rndB_len, h8]
    obtain ⟨e1, e2⟩ := List.append_inj he2 hl1
    obtain ⟨e3, _⟩ := List.append_inj e1 (by rw [rndB_len, h8])
    refine ⟨by rw [← e3, rndB_be, be_beB], ?_⟩
    rw [h1, ← e3]
    exact e2
  · rintro ⟨e1, e2⟩
    have : t.take 8 = rndB r := by
      rw [rndB_be]
      exact (be_inj (inB_take hb 8) (beB_inB 8 r) (by rw [h8, beB_len])).1 (by rw [e1, be_beB])
    unfold frameL bodyL
    rw [← this, ← h1, e2, List.take_append_drop]
theorem fm_loop (r : Int) {s : List Int} (hs : s.length = 96) : SumOK Tryd.prog DF (bodyN Tryd.f22 1) (loopL DF (fmSn r s (rndB r ++ s.take 0) 0) (.exit 2) (fmEd (rndB r ++ s))) := by
  have h := sum_loop gFm_ok mixed (c := bodyN Tryd.f22 1) (fun k => fmSn r s (rndB r ++ s.take k) k) 96 (e := .exit 2) (s := fmEd (rndB r ++ s)) rfl (fun k hk => ?_) ?_
  · exact h
  · have hl : (rndB r ++ s.take k).length = 8 + k := by rw [List.length_append, rndB_len, List.length_take]; omega
    have hx : s[k]? = some (s.getD k 0) := by rw [List.getD_eq_getElem?_getD, List.getElem?_eq_getElem (by omega)]; rfl
    exact ⟨_, _, _, fm_step r s _ _ k (decide_eq_true (by omega)) (by omega) (by omega) (by omega) (by omega) ⟨by omega, by omega⟩ (by rw [Int.toNat_natCast, List.append_assoc, List.take_add_one, hx]; rfl)⟩
  · have ht : s.take 96 = s := List.take_of_length_le (by omega)
    rw [ht]
    exact ⟨_, _, _, fm_exit r s (rndB r ++ s) 96 (by decide)⟩
theorem fm_ok : FnOK Tryd.prog DF 22 fmD := by
  refine fnOK_of gFm_ok mixed Tryd.func22 (enters_of Tryd.func22 (by kernel_rfl) rfl) ?_
  intro xs r ps h hps
  unfold fmD at h
  split at h
  · rename_i _ r0 s
    simp only [Option.some.injEq, Prod.mk.injEq] at h
    obtain ⟨rfl, rfl⟩ := h
    have hl : s.length = 96 := hps (s.length = 96) (by simp)
    have hb : InB s := hps (InB s) (by simp)
    have hB : InB (bodyL r0 s) := inB_append (inB_rnd r0) hb
    have hbl : (bodyL r0 s).length = 104 := by unfold bodyL; rw [List.length_append, rndB_len, hl]
    have hsl : (rfSum (bodyL r0 s)).length = 32 := by
      have := of_same (ll := [bodyL r0 s]) (by rw [List.flatten_cons, List.flatten_nil, List.append_nil]; exact hB)
      rw [List.flatten_cons, List.flatten_nil, List.append_nil] at this
      rw [← this, ofF_len]
    obtain ⟨qs, q1, q2⟩ := fm_run r0 s (rndB r0 ++ s.take 0) (bodyL r0 s) (by simp) (by simp) (by simp) (by simp) (by simp) (by simp) (by simp) (by simp) (by simp) (by simp) (by simp) (by simp) (by simp) (by simp) (by simp) (by simp) (fm_loop r0 hl) (by rw [List.take_zero, List.append_nil]; rfl) (by omega) (by omega) (by rw [List.length_take]; omega) (by rw [List.length_take]; omega)
    refine ⟨_, _, _, _, _, ?_, q1, q2, ?_⟩
    · exact fun w vs hx => hx
    · intro E v hv
      have e : ∀ x : List Int, x = frameL r0 s → AVRel DF E (.v (.one (.fresh 0 5 .u8 x))) v → AVRel DF E (.v (.one (.fresh 0 5 .u8 (frameL r0 s)))) v := by
        rintro _ rfl h
        exact h
      refine e _ ?_ hv
      unfold frameL
      rw [sumL_rf hB]
  · cases h
theorem gRf_ok : GamOK Tryd.prog DF gRf := gam_cons fm_ok (gam_cons (same_ok DF) gam_nil)
theorem sig_get {b : List Int} {p k : Nat} (h : p + 112 ≤ b.length) (hk : k < 96) : (sigB ((b.drop p).take 112)).getD k 0 = b.getD (p + 8 + k) 0 := by
  unfold sigB
  simp only [List.getD_eq_getElem?_getD, List.getElem?_take, List.getElem?_drop]
  rw [if_pos hk, if_pos (by omega), if_pos (by omega)]
  rw [show p + (8 + k) = p + 8 + k from by omega]
theorem ri_loop {b : List Int} (p : Nat) (ls : List Rec) (r : Int) (h : p + 112 ≤ b.length) (hb : b.length ≤ 140737488355328) : SumOK Tryd.prog DF (bodyN Tryd.f25 1)
    (loopL DF (rdiSn b p ls r (List.replicate 96 0) 0) (.exit 2) (rdiSn b p ls r (sigB ((b.drop p).take 112)) 96)) := by
  have hl : (sigB ((b.drop p).take 112)).length = 96 := (sig_cut (by rw [List.length_take, List.length_drop]; omega)).2.1
  have h0 : part1 (sigB ((b.drop p).take 112)) 0 = List.replicate 96 0 := by unfold part1; rw [hl]; rfl
  have h1 : part1 (sigB ((b.drop p).take 112)) 96 = sigB ((b.drop p).take 112) := by unfold part1; rw [hl, List.take_of_length_le (by omega)]; simp
  have hs := sum_loop gRf_ok mixed (c := bodyN Tryd.f25 1) (fun k => rdiSn b p ls r (part1 (sigB ((b.drop p).take 112)) k) k) 96 (e := .exit 2) (s := rdiSn b p ls r (sigB ((b.drop p).take 112)) 96) rfl (fun k hk => ?_) ?_
  · rw [h0] at hs
    exact hs
  · refine ⟨_, _, _, ri_step b p ls r _ _ k (decide_eq_true (by omega)) ⟨by omega, by omega⟩ ⟨by omega, by omega⟩ (by omega) (by omega) (by omega) (by omega) ⟨by omega, by omega⟩ ?_⟩
    rw [Int.toNat_natCast, show ((p : Int) + 8 + (k : Int)).toNat = p + 8 + k from by omega, ← sig_get h hk]
    exact part1_succ (by omega)
  · rw [h1]
    exact ⟨_, _, _, ri_exit b p ls r _ 96 (by decide)⟩
def RfI (b : List Int) (t : List Int × List Rec) : Prop := t.1 = b.drop (112 * t.2.length) ∧ 112 * t.2.length ≤ b.length
theorem ref_loop {b : List Int} (hb : b.length ≤ 140737488351232) (hB : InB b) : SumOK Tryd.prog DF (bodyN Tryd.f25 0) (loopL DF (rdoSn b 0 []) (.exit 0) (rdoSn b (112 * ((opGo b).2.length : Int)) (opGo b).2)) := by
  have h := sum_while gRf_ok mixed (c := bodyN Tryd.f25 0) (fun t => rdoSn b (112 * (t.2.length : Int)) t.2) opNx (RfI b) (fun t => t.1.length) (e := .exit 0) (s := rdoSn b (112 * ((opGo b).2.length : Int)) (opGo b).2) rfl (b, []) ⟨rfl, by simp⟩ ?_ ?_
  · exact h
  · rintro ⟨rest, ls⟩ y ⟨hi1, hi2⟩ hn
    obtain ⟨h1, h2, rfl⟩ := opNx_some hn
    simp only at hi1 hi2 h1 h2
    subst hi1
    rw [List.length_drop] at h1
    have hp : 112 * ls.length + 112 ≤ b.length := by omega
    have hT : ((b.drop (112 * ls.length)).take 112).length = 112 := by rw [List.length_take, List.length_drop]; omega
    have hTb : InB ((b.drop (112 * ls.length)).take 112) := inB_take (inB_drop hB _) _
    refine ⟨⟨?_, ?_⟩, ?_, 100, 100, [.is true, .loop (loopL DF (rdiSn b (112 * (ls.length : Int)) ls ((ls.length : Int) + 1) (List.replicate 96 0) 0) (.exit 2) (rdiSn b (112 * (ls.length : Int)) ls ((ls.length : Int) + 1) (sigB ((b.drop (112 * ls.length)).take 112)) 96)), .is true], ?_⟩
    · simp only [List.length_append, List.length_cons, List.length_nil, List.drop_drop]
      rw [show 112 * ls.length + 112 = 112 * (ls.length + (0 + 1)) from by omega]
    · simp only [List.length_append, List.length_cons, List.length_nil]
      omega
    · show ((b.drop (112 * ls.length)).drop 112).length < (b.drop (112 * ls.length)).length
      rw [List.length_drop, List.length_drop]; omega
    · have hst := ro_step b (112 * (ls.length : Int)) ls _ (sigB ((b.drop (112 * ls.length)).take 112)) ⟨by omega, by omega⟩ (decide_eq_true (by omega)) ⟨by omega, by omega⟩
        (by have := ri_loop (b := b) (112 * ls.length) ls ((ls.length : Int) + 1) hp (by omega); rw [show ((112 * ls.length : Nat) : Int) = 112 * (ls.length : Int) from by omega] at this; exact this)
        (sig_cut hT).2.1 (fun a ha => hTb a (List.mem_of_mem_take (List.mem_of_mem_drop (List.mem_of_mem_take ha)))) (by omega) (by omega) (by omega)
        (by
          rw [show (112 * (ls.length : Int)).toNat = 112 * ls.length from by omega, show (112 * (ls.length : Int) + 112).toNat = 112 * ls.length + 112 from by omega, List.drop_take, Nat.add_sub_cancel_left]
          exact decide_eq_true ((frame_fits hT hTb _).2 h2))
        (by rw [frameL_len (sig_cut hT).2.1]; decide)
        (by rw [List.length_drop, List.length_take]; omega) (by omega) (by omega) rfl
      have he : (112 * (((ls ++ [[Fd.i ((ls.length : Int) + 1), Fd.w (sigB ((b.drop (112 * ls.length)).take 112))]]).length : Nat) : Int)) = 112 * (ls.length : Int) + 112 := by
        rw [List.length_append]
        simp only [List.length_cons, List.length_nil]
        omega
      show ∃ ps, stepPs _ _ _ _ _ _ _ _ _ (rdoSn b (112 * _) _) = some ps ∧ _
      rw [he]
      exact hst
  · rintro ⟨rest, ls⟩ ⟨hi1, hi2⟩ hn hz
    have hz' : opGo b = (rest, ls) := hz.symm
    rw [hz']
    simp only at hi1 hi2 ⊢
    subst hi1
    by_cases c : 112 ≤ (b.drop (112 * ls.length)).length
    · have hf : ¬ fitsB ((b.drop (112 * ls.length)).take 112) ((ls.length : Int) + 1) := fun h => by
        unfold opNx at hn
        rw [if_pos ⟨c, h⟩] at hn
        cases hn
      rw [List.length_drop] at c
      have hp : 112 * ls.length + 112 ≤ b.length := by omega
      have hT : ((b.drop (112 * ls.length)).take 112).length = 112 := by rw [List.length_take, List.length_drop]; omega
      have hTb : InB ((b.drop (112 * ls.length)).take 112) := inB_take (inB_drop hB _) _
      exact ⟨_, _, _, ro_stop b (112 * (ls.length : Int)) ls (sigB ((b.drop (112 * ls.length)).take 112)) ⟨by omega, by omega⟩ (decide_eq_true (by omega)) ⟨by omega, by omega⟩
        (by have := ri_loop (b := b) (112 * ls.length) ls ((ls.length : Int) + 1) hp (by omega); rw [show ((112 * ls.length : Nat) : Int) = 112 * (ls.length : Int) from by omega] at this; exact this)
        (sig_cut hT).2.1 (fun a ha => hTb a (List.mem_of_mem_take (List.mem_of_mem_drop (List.mem_of_mem_take ha)))) (by omega) (by omega) (by omega)
        (by
          rw [show (112 * (ls.length : Int)).toNat = 112 * ls.length from by omega, show (112 * (ls.length : Int) + 112).toNat = 112 * ls.length + 112 from by omega, List.drop_take, Nat.add_sub_cancel_left]
          exact decide_eq_false (fun h => hf ((frame_fits hT hTb _).1 h)))
        (by rw [frameL_len (sig_cut hT).2.1]; decide)
        (by rw [List.length_drop, List.length_take]; omega)⟩
    · rw [List.length_drop] at c
      exact ⟨_, _, _, ro_exit b (112 * (ls.length : Int)) ls ⟨by omega, by omega⟩ (decide_eq_false (by omega))⟩
noncomputable def refReadR := mkF DF Tryd.f25.ntmps (fun bs xs => match bs, xs with | [], [.one (.words .u8 b)] => some b | _, _ => none) (fun b => ([], [.one (.words .u8 b)]))
  (fun b => some (.tup [.one (.own 0), .one (.int .i64 false (112 * ((opGo b).2.length : Int)))], [.dyn 37 (.lrs lkSh (opGo b).2)], [b.length ≤ 140737488351232, InB b]))
theorem refRead_ok : OpOK Tryd.prog DF 25 (withNew refReadR) := by
  refine opOK_mkR mixed Tryd.func25 (enters_of Tryd.func25 (by kernel_rfl) rfl) (fun bs xs t h => by
    split at h
    · rfl
    · cases h) ?_
  intro b r' ns ps h hps
  simp only [Option.some.injEq, Prod.mk.injEq] at h
  obtain ⟨rfl, rfl, rfl⟩ := h
  exact ⟨_, _, _, gRf_ok, ro_run b _ _ (ref_loop (hps (b.length ≤ 140737488351232) (by simp)) (hps (InB b) (by simp)))⟩
end Go.Num
namespace Go.Num
open Go.Abs Go.Proofs Go.Shelf Go.RowKit
noncomputable def gNs (Q : List (BoxSt DF.τ) → List (A0 DF.τ) → Option (AV DF.τ × List (BoxSt DF.τ) × List Prop)) : Gam DF := [(freezeId, .fn (freezeD DF [28, 39, 79, 118])), (8, .fn headCD), (10, .rd [false] copy17R), (9, .op [false, false] mountOkQ), (11, .op [true] (orF Q openNilQ)),
  (24, .rd [true, false] readR), (12, .rd [true] imageR), (13, .rd [true] lastR), (14, .fn same17D), (15, .rd [true, false] getOkR), (25, .rd [false] refReadR), (23, .fn (sameD DF)), (18, .op [true, false] appNilQ)]
noncomputable def gNsB : Gam DF := [(freezeId, .fn (freezeD DF [28])), (8, .fn headCD), (10, .rd [false] copy17R), (9, .op [false, false] mountBadQ)]
noncomputable def gNsO := gNs openOkQ
noncomputable def gNsE := gNs openBadQ
def nsSn (ls l2 : List Rec) (d : DkT) (k : Int) : Sn DF.τ where
  slots := [(5, .v (.one (.ref 1 0))), (10, .v (.one (.ref 0 0))), (11, .v (.one (.own 4))), (95, .v (.one (.int .i64 false l2.length))), (96, .v (.one (.int .i64 false k)))]
  boxes := enumB 0 (chB ls false d ++ [.dyn 37 (.lrs lkSh l2)])
  nt := 153
def nsEd (d : DkT) : Sn DF.τ where
  slots := [(5, .v (.one (.ref 0 0)))]
  boxes := enumB 0 (dkBt d)
  nt := 153
def nsIm (im : List Rec) (k : Int) : Sn DF.τ where
  slots := [(118, .v (.one (.prs fSh im))), (119, .v (.one (.int .i64 false im.length))), (120, .v (.one (.int .i64 false k)))]
  boxes := []
  nt := 153
def nsZ : Sn DF.τ where
  slots := []
  boxes := []
  nt := 153
abbrev nsX (ro : Int) (x : List Rec) : List (A0 DF.τ) := [.one (.int .i64 false ro), .one (.prs fSh x)]
theorem ns_bad (ro : Int) (x : List Rec)
 (h1 : (RowsOK x))
 (h2 : (FilesOK (List.map (canonR) x)))
 (h3 : ((mountE ro (List.map (canonR) x)) ≠ (0 : Int)))
 (h4 : (((mountE ro (List.map (canonR) x)) != (0 : Int)) = true)) :
 ∃ ps, runF Tryd.prog DF gNsB 100 Tryd.f7 (nsX ro x) [.is true] = some ((AV.v (A0.one (Part.bool true true))), ps) ∧ AllQ ps := ⟨_, by kernel_rfl, qc (Eq.refl x) (qc h1 (qc (Eq.refl ro) (qc (Eq.refl ((List.map (canonR) x))) (qc h2 (qc h3 (qc h4 (qn)))))))⟩
theorem ns_gone (ro : Int) (x : List Rec)
 (h1 : (RowsOK x))
 (h2 : (FilesOK (List.map (canonR) x)))
 (h3 : ((mountE ro (List.map (canonR) x)) = (0 : Int)))
 (h4 : (Okd (mountM ro (List.map (canonR) x))))
 (h5 : (OkN (mountM ro (List.map (canonR) x)) (4611686018427387000 : Int)))
 (h6 : (((openM (mountM ro (List.map (canonR) x)))).1 = (0 : Int)))
 (h7 : ((((readM (mountM ro (List.map (canonR) x)) (⟨#[99, 104, 97, 105, 110]⟩ : ByteArray))).1 == (41 : Int)) = true))
 (h8 : (((((List.length (((openM (mountM ro (List.map (canonR) x)))).2).1) : Nat) : Int) == (0 : Int)) = true))
 (h9 : (Okd (((openM (mountM ro (List.map (canonR) x)))).2).2))
 (h10 : ((decide ((List.map (canonR) (imageM (((((((openM (mountM ro (List.map (canonR) x)))).2).2).2).2).2).2)) = (List.map (canonR) (imageM (((((mountM ro (List.map (canonR) x))).2).2).2).2)))) = true))
 (h11 : (RowsOK (imageM (((((((openM (mountM ro (List.map (canonR) x)))).2).2).2).2).2).2)))
 (h12 : (RowsOK (imageM (((((mountM ro (List.map (canonR) x))).2).2).2).2))) :
 ∃ ps, runF Tryd.prog DF gNsO 100 Tryd.f7 (nsX ro x) [.is true, .is true, .is true] = some ((AV.v (A0.one (Part.bool true true))), ps) ∧ AllQ ps := ⟨_, by kernel_rfl, qc (Eq.refl x) (qc h1 (qc (Eq.refl ro) (qc (Eq.refl ((List.map (canonR) x))) (qc h2 (qc h3 (qc (Eq.refl ((⟨#[99, 104, 97, 105, 110]⟩ : ByteArray))) (qc (Eq.refl (((mountM ro (List.map (canonR) x))).1)) (qc (Eq.refl ((((mountM ro (List.map (canonR) x))).2).1)) (qc (Eq.refl (((((mountM ro (List.map (canonR) x))).2).2).1)) (qc (Eq.refl ((((((mountM ro (List.map (canonR) x))).2).2).2).1)) (qc (Eq.refl ((((((mountM ro (List.map (canonR) x))).2).2).2).2)) (qc h4 (qc (show ((5 : Nat) ≤ (9223372036854775807 : Nat)) from by decide) (qc (Eq.refl (((mountM ro (List.map (canonR) x))).1)) (qc (Eq.refl ((((mountM ro (List.map (canonR) x))).2).1)) (qc (Eq.refl (((((mountM ro (List.map (canonR) x))).2).2).1)) (qc (Eq.refl ((((((mountM ro (List.map (canonR) x))).2).2).2).1)) (qc (Eq.refl ((((((mountM ro (List.map (canonR) x))).2).2).2).2)) (qc h4 (qc (Eq.refl (((mountM ro (List.map (canonR) x))).1)) (qc (Eq.refl ((((mountM ro (List.map (canonR) x))).2).1)) (qc (Eq.refl (((((mountM ro (List.map (canonR) x))).2).2).1)) (qc (Eq.refl ((((((mountM ro (List.map (canonR) x))).2).2).2).1)) (qc (Eq.refl ((((((mountM ro (List.map (canonR) x))).2).2).2).2)) (qc h5 (qc h6 (qc h7 (qc (Eq.refl false) (qc (Eq.refl (((((openM (mountM ro (List.map (canonR) x)))).2).2).1)) (qc (Eq.refl ((((((openM (mountM ro (List.map (canonR) x)))).2).2).2).1)) (qc (Eq.refl (((((((openM (mountM ro (List.map (canonR) x)))).2).2).2).2).1)) (qc (Eq.refl ((((((((openM (mountM ro (List.map (canonR) x)))).2).2).2).2).2).1)) (qc (Eq.refl ((((openM (mountM ro (List.map (canonR) x)))).2).1)) (qc (Eq.refl ((((((((openM (mountM ro (List.map (canonR) x)))).2).2).2).2).2).2)) (qc h8 (qc (Eq.refl (((((openM (mountM ro (List.map (canonR) x)))).2).2).1)) (qc (Eq.refl ((((((openM (mountM ro (List.map (canonR) x)))).2).2).2).1)) (qc (Eq.refl (((((((openM (mountM ro (List.map (canonR) x)))).2).2).2).2).1)) (qc (Eq.refl ((((((((openM (mountM ro (List.map (canonR) x)))).2).2).2).2).2).1)) (qc (Eq.refl ((((((((openM (mountM ro (List.map (canonR) x)))).2).2).2).2).2).2)) (qc h9 (qc h10 (qc h11 (qc h12 (qn)))))))))))))))))))))))))))))))))))))))))))))⟩
theorem ns_err (ro : Int) (x : List Rec)
 (h1 : (RowsOK x))
 (h2 : (FilesOK (List.map (canonR) x)))
 (h3 : ((mountE ro (List.map (canonR) x)) = (0 : Int)))
 (h4 : (Okd (mountM ro (List.map (canonR) x))))
 (h5 : (OkN (mountM ro (List.map (canonR) x)) (4611686018427387000 : Int)))
 (h6 : (((openM (mountM ro (List.map (canonR) x)))).1 ≠ (0 : Int)))
 (h7 : ((((readM (mountM ro (List.map (canonR) x)) (⟨#[99, 104, 97, 105, 110]⟩ : ByteArray))).1 == (41 : Int)) = false))
 (h8 : ((List.length ((readM (mountM ro (List.map (canonR) x)) (⟨#[99, 104, 97, 105, 110]⟩ : ByteArray))).2) ≤ (140737488351232 : Nat)))
 (h9 : (InB ((readM (mountM ro (List.map (canonR) x)) (⟨#[99, 104, 97, 105, 110]⟩ : ByteArray))).2))
 (h10 : ((((openM (mountM ro (List.map (canonR) x)))).1 != (0 : Int)) = true))
 (h11 : ((((openM (mountM ro (List.map (canonR) x)))).1 == (42 : Int)) = true)) :
 ∃ ps, runF Tryd.prog DF gNsE 100 Tryd.f7 (nsX ro x) [.is false, .is true, .is true] = some ((AV.v (A0.one (Part.bool true true))), ps) ∧ AllQ ps := ⟨_, by kernel_rfl, qc (Eq.refl x) (qc h1 (qc (Eq.refl ro) (qc (Eq.refl ((List.map (canonR) x))) (qc h2 (qc h3 (qc (Eq.refl ((⟨#[99, 104, 97, 105, 110]⟩ : ByteArray))) (qc (Eq.refl (((mountM ro (List.map (canonR) x))).1)) (qc (Eq.refl ((((mountM ro (List.map (canonR) x))).2).1)) (qc (Eq.refl (((((mountM ro (List.map (canonR) x))).2).2).1)) (qc (Eq.refl ((((((mountM ro (List.map (canonR) x))).2).2).2).1)) (qc (Eq.refl ((((((mountM ro (List.map (canonR) x))).2).2).2).2)) (qc h4 (qc (show ((5 : Nat) ≤ (9223372036854775807 : Nat)) from by decide) (qc (Eq.refl (((mountM ro (List.map (canonR) x))).1)) (qc (Eq.refl ((((mountM ro (List.map (canonR) x))).2).1)) (qc (Eq.refl (((((mountM ro (List.map (canonR) x))).2).2).1)) (qc (Eq.refl ((((((mountM ro (List.map (canonR) x))).2).2).2).1)) (qc (Eq.refl ((((((mountM ro (List.map (canonR) x))).2).2).2).2)) (qc h4 (qc (Eq.refl (((mountM ro (List.map (canonR) x))).1)) (qc (Eq.refl ((((mountM ro (List.map (canonR) x))).2).1)) (qc (Eq.refl (((((mountM ro (List.map (canonR) x))).2).2).1)) (qc (Eq.refl ((((((mountM ro (List.map (canonR) x))).2).2).2).1)) (qc (Eq.refl ((((((mountM ro (List.map (canonR) x))).2).2).2).2)) (qc h5 (qc h6 (qc h7 (qc (Eq.refl (((readM (mountM ro (List.map (canonR) x)) (⟨#[99, 104, 97, 105, 110]⟩ : ByteArray))).2)) (qc h8 (qc h9 (qc h10 (qc h11 (qn)))))))))))))))))))))))))))))))))⟩
theorem ns_step (ls l2 : List Rec) (d : DkT) (k : Nat)
 (h1 : ((decide (((k : Nat) : Int) < (((List.length l2) : Nat) : Int))) = true))
 (h2 : (InI64 (((k : Nat) : Int) + (1 : Int))))
 (h3 : ((1 : Int) ≤ (((k : Nat) : Int) + (1 : Int))))
 (h4 : ((((k : Nat) : Int) + (1 : Int)) ≤ (((List.length ls) : Nat) : Int)))
 (h5 : ((((k : Nat) : Int) + (1 : Int)) ≤ (9223372036854775807 : Int)))
 (h6 : ((0 : Int) ≤ ((k : Nat) : Int)))
 (h7 : (((k : Nat) : Int) < (((List.length l2) : Nat) : Int)))
 (h8 : ((Int.toNat ((k : Nat) : Int)) < (List.length l2)))
 (h9 : ((!(((recI (List.getD ls (Int.toNat ((((k : Nat) : Int) + (1 : Int)) - (1 : Int))) ([] : List (Abs.Fd))) (0 : Nat)) == (recI (List.getD l2 (Int.toNat ((k : Nat) : Int)) ([] : List (Abs.Fd))) (0 : Nat))) && ((decide ((recW (List.getD ls (Int.toNat ((((k : Nat) : Int) + (1 : Int)) - (1 : Int))) ([] : List (Abs.Fd))) (1 : Nat)) = (recW (List.getD l2 (Int.toNat ((k : Nat) : Int)) ([] : List (Abs.Fd))) ((0 : Nat) + (1 : Nat))))) && true))) = false))
 (h10 : (EqT Tryd.prog (37 : Nat))) :
 ∃ ps, stepPs Tryd.prog DF gNsO 100 (bodyN Tryd.f7 0) 100 (nsSn ls l2 d k).st [.is true, .is false] .normal (nsSn ls l2 d ((k : Int) + 1)) = some ps ∧ AllQ ps := ⟨_, by kernel_rfl, qc h1 (qc h2 (qc (Eq.refl ((((k : Nat) : Int) + (1 : Int)))) (qc (Eq.refl false) (qc (Eq.refl ((d).1)) (qc (Eq.refl (((d).2).1)) (qc (Eq.refl ((((d).2).2).1)) (qc (Eq.refl (((((d).2).2).2).1)) (qc (Eq.refl ls) (qc (Eq.refl (((((d).2).2).2).2)) (qc h3 (qc h4 (qc h5 (qc h6 (qc h7 (qc h8 (qc h9 (qc h10 (qc h2 (qc (Eq.refl ((((List.length l2) : Nat) : Int))) (qc (Eq.refl ((((k : Nat) : Int) + (1 : Int)))) (qc (Eq.refl false) (qc (Eq.refl ((d).1)) (qc (Eq.refl (((d).2).1)) (qc (Eq.refl ((((d).2).2).1)) (qc (Eq.refl (((((d).2).2).2).1)) (qc (Eq.refl ls) (qc (Eq.refl (((((d).2).2).2).2)) (qc (Eq.refl l2) (qn)))))))))))))))))))))))))))))⟩
theorem ns_exit (ls l2 : List Rec) (d : DkT) (k : Nat)
 (h1 : ((decide (((k : Nat) : Int) < (((List.length l2) : Nat) : Int))) = false)) :
 ∃ ps, stepPs Tryd.prog DF gNsO 100 (bodyN Tryd.f7 0) 100 (nsSn ls l2 d k).st [.is false] (.exit 0) (nsEd d) = some ps ∧ AllQ ps := ⟨_, by kernel_rfl, qc h1 (qc (Eq.refl ((d).1)) (qc (Eq.refl (((d).2).1)) (qc (Eq.refl ((((d).2).2).1)) (qc (Eq.refl (((((d).2).2).2).1)) (qc (Eq.refl (((((d).2).2).2).2)) (qn))))))⟩
theorem nm_other (im : List Rec) (k : Nat)
 (h1 : ((decide (((k : Nat) : Int) < (((List.length im) : Nat) : Int))) = true))
 (h2 : ((0 : Int) ≤ ((k : Nat) : Int)))
 (h3 : (((k : Nat) : Int) < (((List.length im) : Nat) : Int)))
 (h4 : ((decide ((recS (List.getD im (Int.toNat ((k : Nat) : Int)) ([] : List (Abs.Fd))) (0 : Nat)) = (⟨#[99, 104, 97, 105, 110]⟩ : ByteArray))) = false))
 (h5 : (InI64 (((k : Nat) : Int) + (1 : Int)))) :
 ∃ ps, stepPs Tryd.prog DF gNsO 100 (bodyN Tryd.f7 1) 100 (nsIm im k).st [.is true, .is false] .normal (nsIm im ((k : Int) + 1)) = some ps ∧ AllQ ps := ⟨_, by kernel_rfl, qc h1 (qc h2 (qc h3 (qc h4 (qc h5 (qc (Eq.refl im) (qc (Eq.refl ((((List.length im) : Nat) : Int))) (qc (Eq.refl ((((k : Nat) : Int) + (1 : Int)))) (qn))))))))⟩
theorem nm_chain (im : List Rec) (k : Nat)
 (h1 : ((decide (((k : Nat) : Int) < (((List.length im) : Nat) : Int))) = true))
 (h2 : ((0 : Int) ≤ ((k : Nat) : Int)))
 (h3 : (((k : Nat) : Int) < (((List.length im) : Nat) : Int)))
 (h4 : ((decide ((recS (List.getD im (Int.toNat ((k : Nat) : Int)) ([] : List (Abs.Fd))) (0 : Nat)) = (⟨#[99, 104, 97, 105, 110]⟩ : ByteArray))) = true))
 (h5 : (((recI (List.getD im (Int.toNat ((k : Nat) : Int)) ([] : List (Abs.Fd))) (((0 : Nat) + (1 : Nat)) + (1 : Nat))) != (((List.length (recW (List.getD im (Int.toNat ((k : Nat) : Int)) ([] : List (Abs.Fd))) ((0 : Nat) + (1 : Nat)))) : Nat) : Int)) = false))
 (h6 : (InI64 (((k : Nat) : Int) + (1 : Int)))) :
 ∃ ps, stepPs Tryd.prog DF gNsO 100 (bodyN Tryd.f7 1) 100 (nsIm im k).st [.is true, .is true, .is false] .normal (nsIm im ((k : Int) + 1)) = some ps ∧ AllQ ps := ⟨_, by kernel_rfl, qc h1 (qc h2 (qc h3 (qc h4 (qc h5 (qc h6 (qc (Eq.refl im) (qc (Eq.refl ((((List.length im) : Nat) : Int))) (qc (Eq.refl ((((k : Nat) : Int) + (1 : Int)))) (qn)))))))))⟩
theorem nm_exit (im : List Rec) (k : Nat)
 (h1 : ((decide (((k : Nat) : Int) < (((List.length im) : Nat) : Int))) = false)) :
 ∃ ps, stepPs Tryd.prog DF gNsO 100 (bodyN Tryd.f7 1) 100 (nsIm im k).st [.is false] (.exit 2) nsZ = some ps ∧ AllQ ps := ⟨_, by kernel_rfl, qc h1 (qn)⟩
theorem ns_run (ro : Int) (x ls l2 im : List Rec) (d : DkT)
 (h1 : (RowsOK x))
 (h2 : (FilesOK (List.map (canonR) x)))
 (h3 : ((mountE ro (List.map (canonR) x)) = (0 : Int)))
 (h4 : (Okd (mountM ro (List.map (canonR) x))))
 (h5 : (OkN (mountM ro (List.map (canonR) x)) (4611686018427387000 : Int)))
 (h6 : (((openM (mountM ro (List.map (canonR) x)))).1 = (0 : Int)))
 (h7 : ((((readM (mountM ro (List.map (canonR) x)) (⟨#[99, 104, 97, 105, 110]⟩ : ByteArray))).1 == (41 : Int)) = false))
 (h8 : ((List.length ((readM (mountM ro (List.map (canonR) x)) (⟨#[99, 104, 97, 105, 110]⟩ : ByteArray))).2) ≤ (140737488351232 : Nat)))
 (h9 : (InB ((readM (mountM ro (List.map (canonR) x)) (⟨#[99, 104, 97, 105, 110]⟩ : ByteArray))).2))
 (h10 : (Okd (((openM (mountM ro (List.map (canonR) x)))).2).2))
 (h11 : (((((List.length (((openM (mountM ro (List.map (canonR) x)))).2).1) : Nat) : Int) != (((List.length ((opGo ((readM (mountM ro (List.map (canonR) x)) (⟨#[99, 104, 97, 105, 110]⟩ : ByteArray))).2)).2) : Nat) : Int)) = false))
 (h12 : ((0 : Int) ≤ ((112 : Int) * (((List.length ((opGo ((readM (mountM ro (List.map (canonR) x)) (⟨#[99, 104, 97, 105, 110]⟩ : ByteArray))).2)).2) : Nat) : Int))))
 (h13 : (((112 : Int) * (((List.length ((opGo ((readM (mountM ro (List.map (canonR) x)) (⟨#[99, 104, 97, 105, 110]⟩ : ByteArray))).2)).2) : Nat) : Int)) ≤ (((List.length ((readM (mountM ro (List.map (canonR) x)) (⟨#[99, 104, 97, 105, 110]⟩ : ByteArray))).2) : Nat) : Int)))
 (h14 : ((decide (((readM (((openM (mountM ro (List.map (canonR) x)))).2).2 (⟨#[99, 104, 97, 105, 110]⟩ : ByteArray))).2 = (List.drop (0 : Nat) (List.take (Int.toNat ((112 : Int) * (((List.length ((opGo ((readM (mountM ro (List.map (canonR) x)) (⟨#[99, 104, 97, 105, 110]⟩ : ByteArray))).2)).2) : Nat) : Int))) ((readM (mountM ro (List.map (canonR) x)) (⟨#[99, 104, 97, 105, 110]⟩ : ByteArray))).2)))) = true))
 (h15 : ((List.length ((readM (((openM (mountM ro (List.map (canonR) x)))).2).2 (⟨#[99, 104, 97, 105, 110]⟩ : ByteArray))).2) ≤ (9223372036854775807 : Nat)))
 (h16 : ((List.length (List.drop (0 : Nat) (List.take (Int.toNat ((112 : Int) * (((List.length ((opGo ((readM (mountM ro (List.map (canonR) x)) (⟨#[99, 104, 97, 105, 110]⟩ : ByteArray))).2)).2) : Nat) : Int))) ((readM (mountM ro (List.map (canonR) x)) (⟨#[99, 104, 97, 105, 110]⟩ : ByteArray))).2))) ≤ (9223372036854775807 : Nat)))
 (h17 : SumOK Tryd.prog DF (bodyN Tryd.f7 0) (loopL DF (nsSn ls l2 d 0) (.exit 0) (nsEd d)))
 (h18 : ((((List.length ((opGo ((readM (mountM ro (List.map (canonR) x)) (⟨#[99, 104, 97, 105, 110]⟩ : ByteArray))).2)).2) : Nat) : Int) = (((List.length l2) : Nat) : Int)))
 (h19 : (((((openM (mountM ro (List.map (canonR) x)))).2).2).1 = (d).1))
 (h20 : ((((((openM (mountM ro (List.map (canonR) x)))).2).2).2).1 = ((d).2).1))
 (h21 : (((((((openM (mountM ro (List.map (canonR) x)))).2).2).2).2).1 = (((d).2).2).1))
 (h22 : ((((((((openM (mountM ro (List.map (canonR) x)))).2).2).2).2).2).1 = ((((d).2).2).2).1))
 (h23 : ((((openM (mountM ro (List.map (canonR) x)))).2).1 = ls))
 (h24 : ((((((((openM (mountM ro (List.map (canonR) x)))).2).2).2).2).2).2 = ((((d).2).2).2).2))
 (h25 : (((opGo ((readM (mountM ro (List.map (canonR) x)) (⟨#[99, 104, 97, 105, 110]⟩ : ByteArray))).2)).2 = l2))
 (h26 : (Okd d))
 (h27 : SumOK Tryd.prog DF (bodyN Tryd.f7 1) (loopL DF (nsIm im 0) (.exit 2) nsZ))
 (h28 : ((imageM ((((d).2).2).2).2) = im))
 (h29 : ((((List.length (imageM ((((d).2).2).2).2)) : Nat) : Int) = (((List.length im) : Nat) : Int))) :
 ∃ ps, runF Tryd.prog DF gNsO 100 Tryd.f7 (nsX ro x) [.is false, .is false, .is true, .loop (loopL DF (nsSn ls l2 d 0) (.exit 0) (nsEd d)), .loop (loopL DF (nsIm im 0) (.exit 2) nsZ)] = some ((AV.v (A0.one (Part.bool (true && true) ((1 : Int) == (1 : Int))))), ps) ∧ AllQ ps := ⟨_, by kernel_rfl, qc (Eq.refl x) (qc h1 (qc (Eq.refl ro) (qc (Eq.refl ((List.map (canonR) x))) (qc h2 (qc h3 (qc (Eq.refl ((⟨#[99, 104, 97, 105, 110]⟩ : ByteArray))) (qc (Eq.refl (((mountM ro (List.map (canonR) x))).1)) (qc (Eq.refl ((((mountM ro (List.map (canonR) x))).2).1)) (qc (Eq.refl (((((mountM ro (List.map (canonR) x))).2).2).1)) (qc (Eq.refl ((((((mountM ro (List.map (canonR) x))).2).2).2).1)) (qc (Eq.refl ((((((mountM ro (List.map (canonR) x))).2).2).2).2)) (qc h4 (qc (show ((5 : Nat) ≤ (9223372036854775807 : Nat)) from by decide) (qc (Eq.refl (((mountM ro (List.map (canonR) x))).1)) (qc (Eq.refl ((((mountM ro (List.map (canonR) x))).2).1)) (qc (Eq.refl (((((mountM ro (List.map (canonR) x))).2).2).1)) (qc (Eq.refl ((((((mountM ro (List.map (canonR) x))).2).2).2).1)) (qc (Eq.refl ((((((mountM ro (List.map (canonR) x))).2).2).2).2)) (qc h4 (qc (Eq.refl (((mountM ro (List.map (canonR) x))).1)) (qc (Eq.refl ((((mountM ro (List.map (canonR) x))).2).1)) (qc (Eq.refl (((((mountM ro (List.map (canonR) x))).2).2).1)) (qc (Eq.refl ((((((mountM ro (List.map (canonR) x))).2).2).2).1)) (qc (Eq.refl ((((((mountM ro (List.map (canonR) x))).2).2).2).2)) (qc h5 (qc h6 (qc h7 (qc (Eq.refl (((readM (mountM ro (List.map (canonR) x)) (⟨#[99, 104, 97, 105, 110]⟩ : ByteArray))).2)) (qc h8 (qc h9 (qc (Eq.refl ((⟨#[99, 104, 97, 105, 110]⟩ : ByteArray))) (qc (Eq.refl (((((openM (mountM ro (List.map (canonR) x)))).2).2).1)) (qc (Eq.refl ((((((openM (mountM ro (List.map (canonR) x)))).2).2).2).1)) (qc (Eq.refl (((((((openM (mountM ro (List.map (canonR) x)))).2).2).2).2).1)) (qc (Eq.refl ((((((((openM (mountM ro (List.map (canonR) x)))).2).2).2).2).2).1)) (qc (Eq.refl ((((((((openM (mountM ro (List.map (canonR) x)))).2).2).2).2).2).2)) (qc h10 (qc (show ((5 : Nat) ≤ (9223372036854775807 : Nat)) from by decide) (qc (Eq.refl false) (qc (Eq.refl (((((openM (mountM ro (List.map (canonR) x)))).2).2).1)) (qc (Eq.refl ((((((openM (mountM ro (List.map (canonR) x)))).2).2).2).1)) (qc (Eq.refl (((((((openM (mountM ro (List.map (canonR) x)))).2).2).2).2).1)) (qc (Eq.refl ((((((((openM (mountM ro (List.map (canonR) x)))).2).2).2).2).2).1)) (qc (Eq.refl ((((openM (mountM ro (List.map (canonR) x)))).2).1)) (qc (Eq.refl ((((((((openM (mountM ro (List.map (canonR) x)))).2).2).2).2).2).2)) (qc h11 (qc (show ((0 : Int) ≤ (0 : Int)) from by decide) (qc h12 (qc h13 (qc h14 (qc h15 (qc h16 (qc h17 (qc h18 (qc (Eq.refl ((0 : Int))) (qc (Eq.refl false) (qc h19 (qc h20 (qc h21 (qc h22 (qc h23 (qc h24 (qc h25 (qc (Eq.refl ((d).1)) (qc (Eq.refl (((d).2).1)) (qc (Eq.refl ((((d).2).2).1)) (qc (Eq.refl (((((d).2).2).2).1)) (qc (Eq.refl (((((d).2).2).2).2)) (qc h26 (qc h27 (qc h28 (qc h29 (qc (Eq.refl ((0 : Int))) (qc (Eq.refl ((1 : Int))) (qc (Eq.refl (([(0 : Int), (0 : Int), (0 : Int), (0 : Int), (0 : Int), (0 : Int), (0 : Int), (0 : Int), (0 : Int), (0 : Int), (0 : Int), (0 : Int), (0 : Int), (0 : Int), (0 : Int), (0 : Int), (0 : Int), (0 : Int), (0 : Int), (0 : Int), (0 : Int), (0 : Int), (0 : Int), (0 : Int), (0 : Int), (0 : Int), (0 : Int), (0 : Int), (0 : Int), (0 : Int), (0 : Int), (0 : Int), (0 : Int), (0 : Int), (0 : Int), (0 : Int), (0 : Int), (0 : Int), (0 : Int), (0 : Int), (0 : Int), (0 : Int), (0 : Int), (0 : Int), (0 : Int), (0 : Int), (0 : Int), (0 : Int), (0 : Int), (0 : Int), (0 : Int), (0 : Int), (0 : Int), (0 : Int), (0 : Int), (0 : Int), (0 : Int), (0 : Int), (0 : Int), (0 : Int), (0 : Int), (0 : Int), (0 : Int), (0 : Int), (0 : Int), (0 : Int), (0 : Int), (0 : Int), (0 : Int), (0 : Int), (0 : Int), (0 : Int), (0 : Int), (0 : Int), (0 : Int), (0 : Int), (0 : Int), (0 : Int), (0 : Int), (0 : Int), (0 : Int), (0 : Int), (0 : Int), (0 : Int), (0 : Int), (0 : Int), (0 : Int), (0 : Int), (0 : Int), (0 : Int), (0 : Int), (0 : Int), (0 : Int), (0 : Int), (0 : Int), (0 : Int)] : List Int))) (qn))))))))))))))))))))))))))))))))))))))))))))))))))))))))))))))))))))))))))))⟩
theorem mountC_data {ll : List Rec} {P : List Int → Prop} (h0 : P []) (h : ∀ r ∈ ll, P (recW r 1)) : ∀ (es : List (Rec × Ob)), (∀ k, P (obD (obE es k))) → ∀ k, P (obD (obE (moGo ll es).2 k)) := by
  induction ll with
  | nil => intro es he k; exact he k
  | cons r rs ih =>
    intro es he k
    unfold moGo
    split
    · exact he k
    · refine ih (fun q hq => h q (List.mem_cons_of_mem _ hq)) _ (fun j => ?_) k
      unfold moPut
      rw [obE_set]
      split
      · exact h r (List.mem_cons_self ..)
      · exact he j
theorem mountC_read {n : Int} {ll : List Rec} {P : List Int → Prop} (h0 : P []) (h : ∀ r ∈ ll, P (recW r 1)) (s : ByteArray) : P (readM (mountM n ll) s).2 := by
  unfold readM
  split
  · exact h0
  · exact mountC_data h0 h [] (fun k => h0) _
theorem gNsB_ok : GamOK Tryd.prog DF gNsB := gam_freeze (gam_cons chead_ok (gam_rd copy17_ok (gam_op mountBad_ok gam_nil)))
theorem gNs_ok {Q} (h : OpOK Tryd.prog DF 11 Q) : GamOK Tryd.prog DF (gNs Q) := gam_freeze (gam_cons chead_ok (gam_rd copy17_ok (gam_op mountOk_ok (gam_op (opOK_or h openNil_ok) (gam_rd read_ok (gam_rd image_ok (gam_rd last_ok (gam_cons same17_ok (gam_rd getOk_ok (gam_rd refRead_ok (gam_cons (same_ok DF) (gam_op appNil_ok gam_nil))))))))))))
theorem gNsO_ok : GamOK Tryd.prog DF gNsO := gNs_ok openOk_ok
theorem ns_loop (ls : List Rec) (d : DkT) (h : ls.length ≤ 1300000000000) : SumOK Tryd.prog DF (bodyN Tryd.f7 0) (loopL DF (nsSn ls ls d 0) (.exit 0) (nsEd d)) := by
  have hs := sum_loop gNsO_ok mixed (c := bodyN Tryd.f7 0) (fun k => nsSn ls ls d k) ls.length (e := .exit 0) (s := nsEd d) rfl (fun i hi => ?_) ?_
  · exact hs
  · refine ⟨_, _, _, ns_step ls ls d i (decide_eq_true (by omega)) ⟨by omega, by omega⟩ (by omega) (by omega) (by omega) (by omega) (by omega) (by omega) ?_ eqLk⟩
    rw [show ((i : Int) + 1 - 1).toNat = i from by omega, Int.toNat_natCast]
    simp
  · exact ⟨_, _, _, ns_exit ls ls d ls.length (decide_eq_false (by omega))⟩
theorem nm_loop {im : List Rec} (hl : im.length ≤ 32) (h : ∀ r ∈ im, recS r 0 = cN → recI r 2 = ((recW r 1).length : Int)) : SumOK Tryd.prog DF (bodyN Tryd.f7 1) (loopL DF (nsIm im 0) (.exit 2) nsZ) := by
  have hs := sum_loop gNsO_ok mixed (c := bodyN Tryd.f7 1) (fun k => nsIm im k) im.length (e := .exit 2) (s := nsZ) rfl (fun i hi => ?_) ?_
  · exact hs
  · have hm : im.getD i [] ∈ im := by
      rw [List.getD_eq_getElem?_getD, List.getElem?_eq_getElem hi]
      exact List.getElem_mem hi
    by_cases c : recS (im.getD i []) 0 = cN
    · exact ⟨_, _, _, nm_chain im i (decide_eq_true (by omega)) (by omega) (by omega) (decide_eq_true (by rw [Int.toNat_natCast]; exact c)) (ne_bne (fun hn => hn (by rw [Int.toNat_natCast]; exact h _ hm c))) ⟨by omega, by omega⟩⟩
    · exact ⟨_, _, _, nm_other im i (decide_eq_true (by omega)) (by omega) (by omega) (decide_eq_false (by rw [Int.toNat_natCast]; exact c)) ⟨by omega, by omega⟩⟩
  · exact ⟨_, _, _, nm_exit im im.length (decide_eq_false (by omega))⟩
theorem law_opens {ro : Int} {x : List Rec} (_ : InI64 ro) (hx : x.length ≤ 2932031007400 ∧ ∀ r ∈ x, FileIn r) :
    ∃ Γ, GamOK Tryd.prog DF Γ ∧ ∃ ds ps, runF Tryd.prog DF Γ 100 Tryd.f7 [.one (.int .i64 false ro), .one (.prs fSh x)] ds = some (.v (.one (.bool true true)), ps) ∧ AllQ ps := by
  obtain ⟨hr, hf, he⟩ := files_rowsC hx
  by_cases hm : mountE ro (x.map canonR) = 0
  · have hd := mount_okd hf hm
    have hlen : (readM (mountM ro (x.map canonR)) cN).2.length ≤ 140737488351232 :=
      mountC_read (P := fun l => l.length ≤ 140737488351232) (by simp) (by rw [he]; exact fun r hr => (hx.2 r hr).2.1) cN
    have hin : InB (readM (mountM ro (x.map canonR)) cN).2 :=
      mountC_read (P := InB) (fun a h => by cases h) (by rw [he]; exact fun r hr => (hx.2 r hr).2.2.1) cN
    have hN : OkN (mountM ro (x.map canonR)) 0 := ⟨hd, Int.le_refl _⟩
    have h1 := open_nxt hN
    rcases open_shape (ro := clampR ro) (st := 0) (es := (moGo (x.map canonR) []).2) hd with ⟨g1, g2⟩ | ⟨hh, g1, g2 | ⟨st', g2⟩⟩
    · have g1' : readM (mountM ro (x.map canonR)) cN = (41, []) := g1
      have g2' : openM (mountM ro (x.map canonR)) = (0, [], mountM ro (x.map canonR)) := g2
      obtain ⟨ps, p1, p2⟩ := ns_gone ro x hr hf hm hd (hN.le (by decide)) (by rw [g2']) (by rw [show readM _ _ = _ from g1']; rfl) (by rw [g2']; rfl) h1.1 (decide_eq_true (by rw [g2'])) (rows_image h1.1) (rows_image hd)
      exact ⟨_, gNsO_ok, _, ps, p1, p2⟩
    · have g1' : readM (mountM ro (x.map canonR)) cN = (0, _) := g1
      have g2' : (openM (mountM ro (x.map canonR))).1 = 42 := g2
      obtain ⟨ps, p1, p2⟩ := ns_err ro x hr hf hm hd (hN.le (by decide)) (by rw [g2']; decide) (by rw [show readM _ _ = _ from g1']; rfl) hlen hin (by rw [g2']; rfl) (by rw [g2']; rfl)
      exact ⟨_, gNs_ok openBad_ok, _, ps, p1, p2⟩
    · generalize hb : obD (obE (moGo (x.map canonR) []).2 [Fd.s cN]) = b at g1 g2
      have g1' : readM (mountM ro (x.map canonR)) cN = (0, b) := g1
      have g2' : openM (mountM ro (x.map canonR)) = (0, (opGo b).2, (clampR ro, st', 0, false, setE (moGo (x.map canonR) []).2 [Fd.s cN] (fileOb (cutC b) (cutC b).length))) := g2
      rw [g1'] at hlen hin
      change b.length ≤ 140737488351232 at hlen
      have hi := opGo_inv b
      unfold OpI at hi
      have hk := h1.1
      have hr2 : readM (openM (mountM ro (x.map canonR))).2.2 cN = (0, cutC b) := by
        rw [g2']
        have he : DkT.err (clampR ro, st', 0, false, setE (moGo (x.map canonR) []).2 [Fd.s cN] (fileOb (cutC b) (cutC b).length)) cN = 0 := by
          show errF false _ cN = 0
          unfold errF
          simp [right_c, hasE_set]
        unfold readM
        rw [if_neg (by rw [he]; decide)]
        show (0, obD (obE (setE _ [Fd.s cN] _) [Fd.s cN])) = _
        rw [obE_set, if_pos rfl]
        rfl
      have hcut : (112 * ((opGo b).2.length : Int)).toNat = 112 * (opGo b).2.length := by omega
      have hcl : (cutC b).length ≤ 140737488351232 := by unfold cutC; rw [List.length_take]; omega
      have him : (imageM (openM (mountM ro (x.map canonR))).2.2.2.2.2.2).length ≤ 32 := by
        unfold imageM
        rw [List.length_map, sortK_len]
        exact hk.len
      have hL := nm_loop (im := imageM (openM (mountM ro (x.map canonR))).2.2.2.2.2.2) him (fun r hr hs => by
        obtain ⟨k, _, rfl⟩ := List.mem_map.1 hr
        have hs' : recS k 0 = cN := hs
        show obS (obE _ [Fd.s (recS k 0)]) = ((obD (obE _ [Fd.s (recS k 0)])).length : Int)
        rw [hs', g2']
        show obS (obE (setE _ [Fd.s cN] _) [Fd.s cN]) = ((obD (obE (setE _ [Fd.s cN] _) [Fd.s cN])).length : Int)
        rw [obE_set, if_pos rfl]
        rfl)
      obtain ⟨ps, p1, p2⟩ := ns_run ro x (opGo b).2 (opGo b).2 _ (openM (mountM ro (x.map canonR))).2.2 hr hf hm hd (hN.le (by decide)) (by rw [g2']) (by rw [show readM _ _ = _ from g1']; rfl) (by rw [show readM _ _ = _ from g1']; exact hlen) (by rw [show readM _ _ = _ from g1']; exact hin) hk
        (by rw [show readM (mountM ro (x.map canonR)) _ = _ from g1', g2']; exact ne_bne (fun h => h rfl)) (by omega) (by rw [show readM (mountM ro (x.map canonR)) _ = _ from g1']; simp only; omega)
        (by rw [show readM (mountM ro (x.map canonR)) _ = _ from g1', show readM (openM (mountM ro (x.map canonR))).2.2 _ = _ from hr2]; simp only; rw [hcut, List.drop_zero]; exact decide_eq_true rfl)
        (by rw [show readM (openM (mountM ro (x.map canonR))).2.2 _ = _ from hr2]; simp only; omega)
        (by rw [show readM (mountM ro (x.map canonR)) _ = _ from g1']; simp only; rw [List.length_drop, List.length_take]; omega)
        (ns_loop _ _ (by omega)) (by rw [show readM (mountM ro (x.map canonR)) _ = _ from g1']) rfl rfl rfl rfl (by rw [g2']) rfl (by rw [show readM (mountM ro (x.map canonR)) _ = _ from g1']) hk hL rfl rfl
      exact ⟨_, gNsO_ok, _, ps, p1, p2⟩
  · obtain ⟨ps, p1, p2⟩ := ns_bad ro x hr hf hm (bne_iff_ne.2 hm)
    exact ⟨_, gNsB_ok, _, ps, p1, p2⟩
end Go.Num
namespace Go.Laws
open Go.Abs Go.Proofs Go.Proofs.YthdhjbmgmfndhaaDoor Go.ChangeShapes Go.WideShapes Go.ChangeAt Go.RowKit Go.Num
theorem own : ownKnob Tryd.prog.godebug = none := by kernel_rfl
theorem laidOut : laidOutB Tryd.prog = true := by kernel_rfl
theorem trodAll_below {H : Type} {enc : TypeId × Value → H} {P : Program} (hl : laidOutB P = true) {W W' : World} (hb : Below W.heap.size W W') :
    ∀ {ts : List TypeId} {vs : List Value} {ds : List (DataW H)} {ps : List MemPlace}, (ts.all fun t => P.readableRec t && decide (t < P.types.size)) = true →
      DataW.TrodAll enc P W 0 (fun _ => true) true ts vs ds ps → (∀ x ∈ ps, x.block < W.heap.size) → DataW.TrodAll enc P W' 0 (fun b => decide (b < W.heap.size)) true ts vs ds ps
  | [], [], [], _, _, h, _ => h
  | [], [], _ :: _, _, _, h, _ => h.elim
  | [], _ :: _, _, _, _, h, _ => h.elim
  | _ :: _, [], _, _, _, h, _ => h.elim
  | _ :: _, _ :: _, [], _, _, h, _ => h.elim
  | t :: ts, v :: vs, d :: ds, ps, hr, h, hlt => by
    obtain ⟨p, q, h1, h2, rfl⟩ := h
    simp only [List.all_cons, Bool.and_eq_true, decide_eq_true_eq] at hr
    exact ⟨p, q, Below.trod hl hr.1.1 hr.1.2 h1 hb (fun x hx => hlt x (List.mem_append_left _ hx)), trodAll_below hl hb (by simpa using hr.2) h2 (fun x hx => hlt x (List.mem_append_right _ hx)), rfl⟩
theorem law_post {H : Type} {enc : TypeId × Value → H} {P : Program} {fn : Func} {s : ChangeSpec} {W W' : World} {args : Array Value} {ds : List (DataW H)} {before : List MemPlace} {tb : TypeId} (hl : laidOutB P = true)
    (hp : (fn.params.toList.all fun t => P.readableRec t && decide (t < P.types.size)) = true) (hs : s.vars = []) (hfn : s.fn H (ds ++ []) = { results := [.lit (.bool true)], args := ds })
    (hr : fn.resultTypes = #[tb]) (htb : P.underlying tb = some .bool) (hW : DataW.Whole enc P fn.params.toList s.vars false W args.toList ds [] before) (hb : Below W.heap.size W W') :
    s.post enc P fn false true false false W args (.bool true) W' := by
  have hlt : ∀ p ∈ before, p.block < W.heap.size := fun p hp => hW.lt p hp
  obtain ⟨p, q, hA, hV, hpq, hfz, hnd⟩ := id hW
  have hq : q = [] := by
    rw [hs] at hV
    exact hV
  subst hq
  rw [List.append_nil] at hpq
  subst hpq
  refine ⟨ds, [], before, [], before, [], hW, ?_, ?_, ?_, World.keptBut_mono (fun x hx => ⟨hx, .inr (.inl hx)⟩) (hb.frame (· ∈ before)), fun h => by cases h⟩
  · rw [hfn, hr]
    exact trodAll_cons_mk (shut_bool htb _) trodAll_mk0
  · rw [hfn]
    exact trodAll_below hl hb hp hA hlt
  · rw [hfn, hs]
    rfl
theorem no_spot {W : World} {a : Addr} {v : Value} (h : W.cell? a = some v) : a.spot = none := by
  unfold World.cell? at h
  split at h
  · split at h
    · cases h
    · rename_i hsp
      simpa using hsp
  · cases h
theorem add_plain {a : Addr} (hs : a.spot = none) (i : Nat) : a.add i = ⟨a.block, a.off + i, none⟩ := by
  unfold Addr.add
  split
  · rename_i h0
    subst h0
    cases a
    simp only at hs
    subst hs
    rfl
  · rfl
theorem cells_words {H : Type} {enc : TypeId × Value → H} {P : Program} {W : World} {t e : TypeId} {k : IntKind} {fuel : Nat} {cs : List Value} {x : DataW H × List MemPlace} (ht : P.underlying t = some (.slice e)) (he : P.underlying e = some (.int k)) (hc : P.cellsOf e = 1)
    (h : DataW.trod enc P W 0 (fun _ => true) true fuel t cs = some x) (hr : ∀ n ∈ x.1.weights P t, n ≤ reachBytes) :
    ∃ (v : Value) (l : List Int), cs = [v] ∧ SlRel (fun _ => False) W k l v ∧ v.oneCell' = true ∧ (∀ n ∈ l, (Lit.int k n).wf = true) ∧ l.length * P.bytesOf e ≤ reachBytes ∧
      ((l = [] ∧ x.1 = .nil) ∨ ∃ rest, x.1 = .slice (lits k l) rest) := by
  rcases open_ints ht he hc h with ⟨h1, h2⟩ | ⟨a, len, cap, zs, h1, _, h3, h4, h5, h6, h7, h8⟩
  · exact ⟨.slice none 0 0, [], h1, ⟨none, 0, rfl, Nat.le_refl _, Nat.zero_le _, fun _ => rfl, (fun i hi => by cases hi)⟩, rfl, (fun n hn => by cases hn), by simp, .inl ⟨rfl, by rw [h2]⟩⟩
  · subst h6
    simp only [if_true] at h5
    have hl : (zs.take len).length = len := by rw [List.length_take]; omega
    refine ⟨_, zs.take len, h1, ⟨some a, cap, by rw [hl], by omega, h4, (fun h => by cases h), fun i hi => ?_⟩, rfl, fun n hn => h8 n (List.mem_of_mem_take hn), ?_, .inr ⟨_, rfl⟩⟩
    · rw [hl] at hi
      have h0 := h7 0 (by omega)
      rw [Addr.add, if_pos rfl] at h0
      have hs := no_spot h0
      have h9 := h7 i (by omega)
      rw [add_plain hs] at h9
      refine ⟨a.block, a.off, ?_, fun h => h, ?_⟩
      · cases a
        simp only at hs
        subst hs
        rfl
      · rw [h9]
        congr 2
        rw [List.getD_eq_getElem?_getD, List.getD_eq_getElem?_getD, List.getElem?_take_of_lt hi]
    · have h10 := hr ((zs.take len).length * P.bytesOf e + (zs.drop len).length * P.bytesOf e) (by simp only [DataW.weights, ht, lits, List.length_map, Nat.add_mul]; exact List.mem_cons_self ..)
      omega
theorem choose_list {α : Type} {p : Nat → α → Prop} : ∀ {n : Nat}, (∀ i, i < n → ∃ x, p i x) → ∃ l : List α, l.length = n ∧ ∀ i x, l[i]? = some x → p i x
  | 0, _ => ⟨[], rfl, fun i x h => by cases h⟩
  | n + 1, h => by
    obtain ⟨l, h1, h2⟩ := choose_list (n := n) fun i hi => h i (by omega)
    obtain ⟨x, hx⟩ := h n (by omega)
    refine ⟨l ++ [x], by simp [h1], fun i y hy => ?_⟩
    by_cases hi : i < l.length
    · rw [List.getElem?_append_left hi] at hy
      exact h2 i y hy
    · rw [List.getElem?_append_right (by omega)] at hy
      have hi' : i - l.length = 0 := by
        have := (List.getElem?_eq_some_iff.1 hy).1
        simp at this
        omega
      rw [hi'] at hy
      simp only [List.getElem?_cons_zero, Option.some.injEq] at hy
      subst hy
      rw [show i = n from by omega]
      exact hx
theorem weights_all {H : Type} {P : Program} {e : TypeId} {d : DataW H} : ∀ {l : List (DataW H)}, d ∈ l → ∀ n ∈ d.weights P e, n ∈ DataW.weightsAll P e l
  | [], h, _, _ => by cases h
  | x :: l, h, n, hn => by
    simp only [DataW.weightsAll, List.mem_append]
    rcases List.mem_cons.1 h with rfl | h
    · exact .inl hn
    · exact .inr (weights_all h n hn)
theorem wf_u8 {n : Int} (h : (Lit.int .u8 n).wf = true) : 0 ≤ n ∧ n < 256 := by
  have h1 : IntKind.u8.min = 0 := rfl
  have h2 : IntKind.u8.max = 255 := rfl
  simp only [Lit.wf, Bool.and_eq_true, decide_eq_true_eq] at h
  omega
theorem wf_i64 {n : Int} (h : (Lit.int .i64 n).wf = true) : -9223372036854775808 ≤ n ∧ n ≤ 9223372036854775807 := by
  have h1 : IntKind.i64.min = -9223372036854775808 := rfl
  have h2 : IntKind.i64.max = 9223372036854775807 := rfl
  simp only [Lit.wf, Bool.and_eq_true, decide_eq_true_eq] at h
  omega
theorem one_num {D : Dom} {W : World} {k : IntKind} {b : Bool} {n : Int} : A0Rel D (cenv W) (.one (.int k b n)) (.int k n) := ⟨rfl, rfl⟩
theorem rel_nil {D : Dom} {E : Env} : A0sRel D E [] [] := rfl
theorem rel_cons {D : Dom} {E : Env} {a : A0 D.τ} {v : Value} {xs : List (A0 D.τ)} {vs : List Value} (h : A0Rel D E a v) (k : A0sRel D E xs vs) : A0sRel D E (a :: xs) (v :: vs) := ⟨v, vs, rfl, h, k⟩
theorem law_calls {P : Program} {D : Dom} {Γ : Gam D} (hΓ : GamOK P D Γ) (hm : P.follows .mixedOrders = true) {f : FuncId} {fn : Func} (hf : P.funcs[f]? = some fn) {fuel : Nat} {xs : List (A0 D.τ)} {ds : List (Dec D.τ)} {b : Bool} {ps : List Prop}
    (h : runF P D Γ fuel fn xs ds = some (.v (.one (.bool b true)), ps)) (hps : AllQ ps) {W : World} {vs : List Value} (hG : GlobAt D W) (hx : A0sRel D (cenv W) xs vs) :
    Calls P f vs.toArray W fun e w' => e = .returned (.bool true) ∧ Below W.heap.size W w' := by
  refine (runF_calls hΓ hm hf h hps hG hx).mono ?_
  rintro e w' ⟨v, he, ⟨ν, _, hr⟩, hb⟩
  have hv : v = .bool true := by
    obtain ⟨_, h2⟩ := hr
    simpa [PartRel] using h2
  subst hv
  exact ⟨he, hb⟩
end Go.Laws
namespace Go.Laws
open Go.Abs Go.Proofs Go.Proofs.YthdhjbmgmfndhaaDoor Go.RowKit Go.Num
theorem gFirst : Tryd.prog.globalNamed "cresset/sha.first" = some 0 := by kernel_rfl
theorem gRoots : Tryd.prog.globalNamed "cresset/sha.roots" = some 1 := by kernel_rfl
theorem tFirst : (Tryd.prog.globals[0]?).map (·.type) = some 102 := by kernel_rfl
theorem tRoots : (Tryd.prog.globals[1]?).map (·.type) = some 125 := by kernel_rfl
theorem globAt {W : World} (h : laidMet Tryd.prog [("cresset/sha.first", Rows.laid_cresset_sha_first), ("cresset/sha.roots", Rows.laid_cresset_sha_roots)] W) : GlobAt DS W := by
  have h1 : Lib.TabIs Tryd.prog W "cresset/sha.first" .u32 firstL := Lib.tabIs_of_head gFirst tFirst Tryd.underlying102 Tryd.underlying94 (by kernel_rfl) (by kernel_rfl) h
  have h2 : Lib.TabIs Tryd.prog W "cresset/sha.roots" .u32 rootsL := Lib.tabIs_of_head gRoots tRoots Tryd.underlying125 Tryd.underlying94 (by kernel_rfl) (by kernel_rfl) (laidMet.tail h)
  have put : ∀ {g : Nat} {name : String} {l : List Int}, Tryd.prog.globalNamed name = some g → Lib.TabIs Tryd.prog W name .u32 l → 0 < l.length → g < W.heap.size ∧ ∀ i, i < l.length → W.cell? ⟨g, i, none⟩ = some (.int .u32 (l.getD i 0)) := by
    intro g name l hg ht hl
    refine ⟨?_, fun i hi => ht.cell hg i hi⟩
    have h0 := ht.cell hg 0 hl
    unfold World.cell? at h0
    split at h0
    · rename_i hh
      exact (Array.getElem?_eq_some_iff.1 hh).1
    · cases h0
  intro g k l hg
  have hg : (bif Nat.beq g 0 then some (IntKind.u32, firstL) else bif Nat.beq g 1 then some (IntKind.u32, rootsL) else none) = some (k, l) := hg
  cases e1 : Nat.beq g 0 <;> rw [e1] at hg
  · cases e2 : Nat.beq g 1 <;> rw [e2] at hg
    · cases hg
    · simp only [cond_false, cond_true, Option.some.injEq, Prod.mk.injEq] at hg
      obtain ⟨rfl, rfl⟩ := hg
      obtain rfl := Nat.eq_of_beq_eq_true e2
      exact put gRoots h2 (by decide)
  · simp only [cond_true, Option.some.injEq, Prod.mk.injEq] at hg
    obtain ⟨rfl, rfl⟩ := hg
    obtain rfl := Nat.eq_of_beq_eq_true e1
    exact put gFirst h1 (by decide)
def layTab (l : List Int) : Obj → Obj
  | .cells _ t frozen => .cells (l.map (.int .u32)).toArray t frozen
  | o => o
noncomputable def laidWorld (os : Os) : World :=
  { World.holding Tryd.prog os ⟨#[], #[], []⟩ with heap := ((World.holding Tryd.prog os ⟨#[], #[], []⟩).heap.modify 0 (layTab firstL)).modify 1 (layTab rootsL) }
end Go.Laws
namespace Go.Num
open Go.Abs Go.Proofs Go.Shelf Go.RowKit
structure OpT where
  k : Int
  s : ByteArray
  t : ByteArray
  b : List Int
  n : Int
  ke : List Int
structure OpOk (o : OpT) : Prop where
  s : o.s.size ≤ 9223372036854775807
  t : o.t.size ≤ 9223372036854775807
  b : o.b.length ≤ 140737488355328
  n : o.n ≤ 9223372036854775807
  ke : o.ke.length * 8 ≤ 140737488355328
end Go.Num
namespace Go.Num
open Go.Abs Go.Proofs Go.Shelf Go.RowKit
abbrev cO : ByteArray := ⟨#[111, 119, 110]⟩
def Own (a : List Int) (es : List (Rec × Ob)) : Prop := hasE es [Fd.s cO] = true ∧ obE es [Fd.s cO] = fileOb a a.length
structure ApI (a : List Int) (d : DkT) (k : Nat) : Prop where
  ok : OkN d (k + 5)
  own : Own a d.2.2.2.2
end Go.Num
namespace Go.Laws
open Go.Abs Go.Proofs Go.ChangeShapes Go.WideShapes Go.ChangeAt Go.RowKit Go.Num
theorem cells_int {H : Type} {enc : TypeId × Value → H} {P : Program} {W : World} {t : TypeId} {k : IntKind} {fuel : Nat} {cs : List Value} {x : DataW H × List MemPlace} (ht : P.underlying t = some (.int k)) (h : DataW.trod enc P W 0 (fun _ => true) true fuel t cs = some x) :
    ∃ n, cs = [.int k n] ∧ (Lit.int k n).wf = true := by
  obtain ⟨n, h1, _, h3⟩ := DataW.trod_int ht h
  exact ⟨n, h1, h3⟩
theorem cells_str {H : Type} {enc : TypeId × Value → H} {P : Program} {W : World} {t : TypeId} {fuel : Nat} {cs : List Value} {x : DataW H × List MemPlace} (ht : P.underlying t = some .string) (h : DataW.trod enc P W 0 (fun _ => true) true fuel t cs = some x) :
    ∃ s : ByteArray, cs = [.string s] ∧ s.size ≤ 9223372036854775807 := by
  obtain ⟨s, h1, _, h3⟩ := DataW.trod_string ht h
  exact ⟨s, h1, h3⟩
theorem sl_known {W : World} {k : IntKind} {l : List Int} {v : Value} (h : SlRel (fun _ => False) W k l v) : SlRel (fun b => ¬ (cenv W).σ.zm b) (cenv W).σ.zw k l v := by
  obtain ⟨ao, cap, e, h1, h2, h3, h4⟩ := h
  refine ⟨ao, cap, e, h1, h2, h3, fun i hi => ?_⟩
  obtain ⟨b, off, e1, _, e3⟩ := h4 i hi
  exact ⟨b, off, e1, fun hn => hn (World.block_lt_of_cell? _ _ e3), e3⟩
theorem three {α : Type} {cs : List α} {a b c : α} (hl : cs.length = 3) (ha : (cs.drop 0).take 1 = [a]) (hb : (cs.drop 1).take 1 = [b]) (hc : (cs.drop 2).take 1 = [c]) : cs = [a, b, c] := by
  match cs, hl with
  | [_, _, _], _ => simp_all
theorem open_rows {P : Program} {H : Type} {enc : TypeId × Value → H} {W : World} {base : Nat} {v : Value} {d : DataW H} {ps : List MemPlace} {t e : TypeId} {sh : List FK} {n : Nat} {good : Rec → Prop} (ht : P.underlying t = some (.slice e)) (hc : P.cellsOf e = n) (hn : rsz sh = n) (h1n : 0 < n)
    (elem : ∀ {fuel : Nat} {cs : List Value} {x : DataW H × List MemPlace}, DataW.trod enc P W 0 (fun _ => true) true fuel e cs = some x → (∀ n ∈ x.1.weights P e, n ≤ reachBytes) → ∃ r : Rec, RecRel (cenv W).σ sh 0 r cs ∧ good r ∧ cs.length = n)
    (hval : Value.okWide P W .any base t v) (hd : DataW.Trod enc P W 0 (fun _ => true) true t v d ps) (hr : ∀ n ∈ d.weights P t, n ≤ reachBytes) :
    ∃ sc : List Rec, A0Rel DF (cenv W) (.one (.prs sh sc)) v ∧ sc.length * P.bytesOf e ≤ reachBytes ∧ ∀ r ∈ sc, good r := by
  obtain ⟨a0, len0, cap0, rfl⟩ := okWide_slice ht hval
  obtain ⟨fuel, hf⟩ := hd
  rcases DataW.trod_slice ht hf with ⟨h1, h2⟩ | ⟨a, len, cap, elems, rest, m, _, h1, h2, _, h3, h4, h5, h6, h7, _⟩
  · have h1' : [Value.slice a0 len0 cap0] = [.slice none 0 0] := h1
    simp only [List.cons.injEq, and_true] at h1'
    rw [h1']
    exact ⟨[], ⟨rfl, _, rfl, none, 0, rfl, Nat.le_refl _, Nat.zero_le _, fun _ => rfl, fun i r hi => by cases hi⟩, by simp, fun r hr => by cases hr⟩
  · have h1' : [Value.slice a0 len0 cap0] = [.slice (some a) len cap] := h1
    simp only [List.cons.injEq, and_true] at h1'
    rw [h1']
    simp only [Prod.mk.injEq] at h2
    obtain ⟨rfl, _⟩ := h2
    simp only [DataW.weights, ht] at hr
    have each : ∀ i, i < len → ∃ r : Rec, ∃ cs, W.cells? 0 (a.add (i * n)) n = some cs ∧ RecRel (cenv W).σ sh 0 r cs ∧ good r ∧ cs.length = n := by
      intro i hi
      have he' := h6 i hi
      have hy : elems[i]? = some (elems[i]'(by omega)) := List.getElem?_eq_getElem (by omega)
      rw [hy, hc, Option.bind_eq_some_iff] at he'
      obtain ⟨cs', hcs, hy'⟩ := he'
      obtain ⟨r, g1, g2, g3⟩ := elem hy' (fun n hn => hr n (List.mem_cons_of_mem _ (List.mem_append_left _ (weights_all (List.mem_map_of_mem (List.getElem_mem (by omega))) n hn))))
      exact ⟨r, cs', hcs, g1, g2, g3⟩
    obtain ⟨ll, hl1, hl2⟩ := choose_list each
    refine ⟨ll, ⟨rfl, _, rfl, some a, cap, by rw [hl1], by omega, h4, (fun h => by cases h), fun i r hi => ?_⟩, ?_, fun r hr => ?_⟩
    · obtain ⟨cs, q1, q2, q3, q4⟩ := hl2 i r hi
      have hil : i < len := by have := (List.getElem?_eq_some_iff.1 hi).1; omega
      obtain ⟨_, q5, q6⟩ := World.cells?_some q1
      have hs : a.spot = none := by
        obtain ⟨cs0, p1, _, _, p4⟩ := hl2 0 _ (List.getElem?_eq_getElem (show 0 < ll.length by omega))
        obtain ⟨_, _, p6⟩ := World.cells?_some p1
        have := p6 0 (by omega)
        rw [Nat.zero_mul, Addr.add, if_pos rfl, Addr.add, if_pos rfl, List.getElem?_eq_getElem (by omega)] at this
        exact no_spot this
      have ea : a = ⟨a.block, a.off, none⟩ := by
        cases a
        simp only at hs
        subst hs
        rfl
      have hat : ∀ j w, cs[j]? = some w → W.cell? ⟨a.block, a.off + i * n + j, none⟩ = some w := by
        intro j w hj
        have hjl : j < n := by have := (List.getElem?_eq_some_iff.1 hj).1; omega
        have := q6 j hjl
        rw [hj] at this
        rw [add_plain (a := a.add (i * n)) (by rw [add_plain hs]), add_plain hs] at this
        exact this
      refine ⟨a.block, a.off, cs, by rw [← ea], ?_, q2, by rw [hn]; exact hat⟩
      have h0 := hat 0 _ (List.getElem?_eq_getElem (show 0 < cs.length by omega))
      have := World.block_lt_of_cell? _ _ h0
      exact this
    · have h10 := hr _ (List.mem_cons_self ..)
      rw [List.length_map, h5] at h10
      rw [hl1]
      refine Nat.le_trans ?_ h10
      exact Nat.mul_le_mul_right _ (Nat.le_add_right _ _)
    · obtain ⟨i, hi⟩ := List.getElem?_of_mem hr
      obtain ⟨_, _, _, q3, _⟩ := hl2 i r hi
      exact q3
set_option maxRecDepth 10000 in
theorem open_file {H : Type} {enc : TypeId × Value → H} {W : World} {fuel : Nat} {cs : List Value} {x : DataW H × List MemPlace} (h : DataW.trod enc Tryd.prog W 0 (fun _ => true) true fuel 54 cs = some x)
    (hr : ∀ n ∈ x.1.weights Tryd.prog 54, n ≤ reachBytes) : ∃ r : Rec, RecRel (cenv W).σ fSh 0 r cs ∧ FileIn r ∧ cs.length = 3 := by
  obtain ⟨xs, n, _, hx, hcl, hlen, hfs⟩ := DataW.trod_struct Tryd.underlying54 h
  rw [show Tryd.prog.cellsOf 54 = 3 from by kernel_rfl] at hcl
  match xs, hlen with
  | [x0, x1, x2], _ =>
    subst hx
    have h0 := hfs 0 _ rfl
    have h1 := hfs 1 _ rfl
    have h2 := hfs 2 _ rfl
    obtain ⟨s, e0, hs⟩ := cells_str Tryd.underlying9 h0
    obtain ⟨u, l, e1, hsl, hone, hwf, hle, _⟩ := cells_words Tryd.underlying46 Tryd.underlying5 (by kernel_rfl) h1 (fun m hm => hr m (by
      simp only [DataW.weights, Tryd.underlying54]
      exact DataW.weights_mem_each (j := 1) (t := 46) rfl rfl m hm))
    obtain ⟨m, e2, _⟩ := cells_int Tryd.underlying3 h2
    rw [show Tryd.prog.bytesOf 5 = 1 from by kernel_rfl, Nat.mul_one] at hle
    obtain rfl := three hcl e0 e1 e2
    exact ⟨[.s s, .w l, .i m], ⟨[_], _, rfl, rfl, [_], _, rfl, ⟨u, rfl, sl_known hsl⟩, [_], _, rfl, rfl, rfl⟩, ⟨hs, hle, fun y hy => wf_u8 (hwf y hy), rfl⟩, hcl⟩
set_option maxRecDepth 10000 in
theorem open_files {H : Type} {enc : TypeId × Value → H} {W : World} {base : Nat} {v : Value} {d : DataW H} {ps : List MemPlace} (hval : Value.okWide Tryd.prog W .any base 22 v)
    (hd : DataW.Trod enc Tryd.prog W 0 (fun _ => true) true 22 v d ps) (hr : ∀ n ∈ d.weights Tryd.prog 22, n ≤ reachBytes) :
    ∃ sc : List Rec, A0Rel DF (cenv W) (.one (.prs fSh sc)) v ∧ sc.length ≤ 2932031007400 ∧ ∀ r ∈ sc, FileIn r := by
  obtain ⟨sc, h1, h2, h3⟩ := open_rows (n := 3) Tryd.underlying22 (by kernel_rfl) rfl (by decide) open_file hval hd hr
  rw [show Tryd.prog.bytesOf 54 = 48 from by kernel_rfl] at h2
  have h2' : sc.length * 48 ≤ 140737488351232 := h2
  exact ⟨sc, h1, by omega, h3⟩
end Go.Laws
