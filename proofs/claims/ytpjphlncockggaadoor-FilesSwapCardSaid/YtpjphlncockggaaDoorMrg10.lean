/- Several texts put together: Fl9 Fl10 Frame Glob. -/
import Derived.Test.YtpjphlncockggaaDoorMrg9
import Derived.Test.YtpjphlncockggaaDoorRows
import Derived.WalkKit
import Derived.ProofKit
import Derived.OpenShut
import Derived.ShutString
import Derived.SizedLaws
import Derived.Carry
import Derived.Stop.LaidErr
import Derived.Lib.LaidTab
namespace Go.Num
open Go.Abs Go.Proofs Go.Shelf Go.RowKit
noncomputable def gSwB : Gam DF := [(6, .fn headFD), (7, .op [false] newQ), (9, .fz (copyD DF)), (13, .fn (sameD DF)), (8, .op [true, false, true] saveQ), (18, .op [true, false] fuseQ), (19, .rd [true] downR), (20, .op [true, false] crashQ), (17, .rd [true] listR)]
theorem gSwB_ok : GamOK Tryd.prog DF gSwB := gam_cons headF_ok (gam_op new_ok (gam_fz (copy_ok DF) (gam_cons (same_ok DF) (gam_op saveQ_ok (gam_op fuse_ok (gam_rd down_ok (gam_op crash_ok (gam_rd list_ok gam_nil))))))))
noncomputable def gSw : Gam DF := (12, .rd [true, false] loadOkR) :: gSwB
theorem gSw_ok : GamOK Tryd.prog DF gSw := gam_rd loadOk_ok gSwB_ok
noncomputable def gSwN : Gam DF := (12, .rd [true, false] loadNoR) :: gSwB
theorem gSwN_ok : GamOK Tryd.prog DF gSwN := gam_rd loadNo_ok gSwB_ok
theorem sw_bigA (ro : Int) (a b : List Int) (fu : Int) (kp : List Int)
 (h1 : ((decide ((((List.length a) : Nat) : Int) > (65536 : Int))) = true))
 (h2 : ((List.length a) ≤ (281474976710656 : Nat)))
 (h3 : (OkN ((clampR ro), ((0 : Int), ((0 : Int), (false, ([] : List (Rec × Ob)))))) (4611686018427387000 : Int)))
 (h4 : ((((saveM ((clampR ro), ((0 : Int), ((0 : Int), (false, ([] : List (Rec × Ob)))))) (⟨#[115]⟩ : ByteArray) a)).1 == (18 : Int)) = true)) :
 ∃ ps, runF Tryd.prog DF gSwB 100 Tryd.f5 [.one (.int .i64 false ro), .one (.words .u8 a), .one (.words .u8 b), .one (.int .i64 false fu), .one (.words .i64 kp)] [.is true, .is true, .is true] = some ((AV.v (A0.one (Part.bool (true && true) (true == true)))), ps) ∧ AllQ ps := ⟨_, by kernel_rfl, allQ_cons (show (ro = ro) from rfl) (allQ_cons h1 (allQ_cons h2 (allQ_cons (show ((⟨#[115]⟩ : ByteArray) = (⟨#[115]⟩ : ByteArray)) from rfl) (allQ_cons (show (a = a) from rfl) (allQ_cons (show ((clampR ro) = (clampR ro)) from rfl) (allQ_cons (show ((0 : Int) = (0 : Int)) from rfl) (allQ_cons (show ((0 : Int) = (0 : Int)) from rfl) (allQ_cons (show (false = false) from rfl) (allQ_cons (show (([] : List (Rec × Ob)) = ([] : List (Rec × Ob))) from rfl) (allQ_cons h3 (allQ_cons (show ((1 : Nat) ≤ (9223372036854775000 : Nat)) from by decide) (allQ_cons h4 (allQ_cons h1 (allQ_nil))))))))))))))⟩
theorem sw_bigB (ro : Int) (a b : List Int) (fu : Int) (kp : List Int)
 (h1 : ((decide ((((List.length a) : Nat) : Int) > (65536 : Int))) = false))
 (h2 : ((decide ((((List.length b) : Nat) : Int) > (65536 : Int))) = true))
 (h3 : ((List.length a) ≤ (281474976710656 : Nat)))
 (h4 : (OkN ((clampR ro), ((0 : Int), ((0 : Int), (false, ([] : List (Rec × Ob)))))) (4611686018427387000 : Int)))
 (h5 : ((((saveM ((clampR ro), ((0 : Int), ((0 : Int), (false, ([] : List (Rec × Ob)))))) (⟨#[115]⟩ : ByteArray) a)).1 == (18 : Int)) = false)) :
 ∃ ps, runF Tryd.prog DF gSwB 100 Tryd.f5 [.one (.int .i64 false ro), .one (.words .u8 a), .one (.words .u8 b), .one (.int .i64 false fu), .one (.words .i64 kp)] [.is false, .is true, .is false, .is false] = some ((AV.v (A0.one (Part.bool (true && true) (false == false)))), ps) ∧ AllQ ps := ⟨_, by kernel_rfl, allQ_cons (show (ro = ro) from rfl) (allQ_cons h1 (allQ_cons h2 (allQ_cons h3 (allQ_cons (show ((⟨#[115]⟩ : ByteArray) = (⟨#[115]⟩ : ByteArray)) from rfl) (allQ_cons (show (a = a) from rfl) (allQ_cons (show ((clampR ro) = (clampR ro)) from rfl) (allQ_cons (show ((0 : Int) = (0 : Int)) from rfl) (allQ_cons (show ((0 : Int) = (0 : Int)) from rfl) (allQ_cons (show (false = false) from rfl) (allQ_cons (show (([] : List (Rec × Ob)) = ([] : List (Rec × Ob))) from rfl) (allQ_cons h4 (allQ_cons (show ((1 : Nat) ≤ (9223372036854775000 : Nat)) from by decide) (allQ_cons h5 (allQ_cons h1 (allQ_nil)))))))))))))))⟩
abbrev sw_full_x1 (ro : Int) (a : List Int) := ((saveM ((clampR ro), ((0 : Int), ((0 : Int), (false, ([] : List (Rec × Ob)))))) (⟨#[115]⟩ : ByteArray) a))
theorem sw_full (ro : Int) (a b : List Int) (fu : Int) (kp : List Int)
 (h1 : ((decide ((((List.length a) : Nat) : Int) > (65536 : Int))) = false))
 (h2 : ((decide ((((List.length b) : Nat) : Int) > (65536 : Int))) = false))
 (h3 : ((List.length a) ≤ (281474976710656 : Nat)))
 (h4 : (OkN ((clampR ro), ((0 : Int), ((0 : Int), (false, ([] : List (Rec × Ob)))))) (4611686018427387000 : Int)))
 (h5 : (((sw_full_x1 ro a).1 != (0 : Int)) = true))
 (h6 : (Okd (sw_full_x1 ro a).2))
 (h7 : (¬ (loadB (sw_full_x1 ro a).2 (⟨#[115]⟩ : ByteArray))))
 (h8 : (((sw_full_x1 ro a).1 == (42 : Int)) = true))
 (h9 : ((((loadM (sw_full_x1 ro a).2 (⟨#[115]⟩ : ByteArray))).1 == (0 : Int)) = true))
 (h10 : (((((List.length (listM (sw_full_x1 ro a).2)) : Nat) : Int) == (0 : Int)) = true)) :
 ∃ ps, runF Tryd.prog DF gSwN 100 Tryd.f5 [.one (.int .i64 false ro), .one (.words .u8 a), .one (.words .u8 b), .one (.int .i64 false fu), .one (.words .i64 kp)] [.is false, .is false, .is true, .is true, .is true, .is true] = some ((AV.v (A0.one (Part.bool true true))), ps) ∧ AllQ ps := ⟨_, by kernel_rfl, allQ_cons (show (ro = ro) from rfl) (allQ_cons h1 (allQ_cons h2 (allQ_cons h3 (allQ_cons (show ((⟨#[115]⟩ : ByteArray) = (⟨#[115]⟩ : ByteArray)) from rfl) (allQ_cons (show (a = a) from rfl) (allQ_cons (show ((clampR ro) = (clampR ro)) from rfl) (allQ_cons (show ((0 : Int) = (0 : Int)) from rfl) (allQ_cons (show ((0 : Int) = (0 : Int)) from rfl) (allQ_cons (show (false = false) from rfl) (allQ_cons (show (([] : List (Rec × Ob)) = ([] : List (Rec × Ob))) from rfl) (allQ_cons h4 (allQ_cons (show ((1 : Nat) ≤ (9223372036854775000 : Nat)) from by decide) (allQ_cons h5 (allQ_cons (show ((⟨#[115]⟩ : ByteArray) = (⟨#[115]⟩ : ByteArray)) from rfl) (allQ_cons (show (((sw_full_x1 ro a).2).1 = ((sw_full_x1 ro a).2).1) from rfl) (allQ_cons (show ((((sw_full_x1 ro a).2).2).1 = (((sw_full_x1 ro a).2).2).1) from rfl) (allQ_cons (show (((((sw_full_x1 ro a).2).2).2).1 = ((((sw_full_x1 ro a).2).2).2).1) from rfl) (allQ_cons (show ((((((sw_full_x1 ro a).2).2).2).2).1 = (((((sw_full_x1 ro a).2).2).2).2).1) from rfl) (allQ_cons (show ((((((sw_full_x1 ro a).2).2).2).2).2 = (((((sw_full_x1 ro a).2).2).2).2).2) from rfl) (allQ_cons h6 (allQ_cons (show ((1 : Nat) ≤ (9223372036854775807 : Nat)) from by decide) (allQ_cons h7 (allQ_cons h8 (allQ_cons h9 (allQ_cons (show (((sw_full_x1 ro a).2).1 = ((sw_full_x1 ro a).2).1) from rfl) (allQ_cons (show ((((sw_full_x1 ro a).2).2).1 = (((sw_full_x1 ro a).2).2).1) from rfl) (allQ_cons (show (((((sw_full_x1 ro a).2).2).2).1 = ((((sw_full_x1 ro a).2).2).2).1) from rfl) (allQ_cons (show ((((((sw_full_x1 ro a).2).2).2).2).1 = (((((sw_full_x1 ro a).2).2).2).2).1) from rfl) (allQ_cons (show ((((((sw_full_x1 ro a).2).2).2).2).2 = (((((sw_full_x1 ro a).2).2).2).2).2) from rfl) (allQ_cons h6 (allQ_cons h10 (allQ_nil))))))))))))))))))))))))))))))))⟩
abbrev sw_ok_x1 (ro : Int) (a : List Int) := ((saveM ((clampR ro), ((0 : Int), ((0 : Int), (false, ([] : List (Rec × Ob)))))) (⟨#[115]⟩ : ByteArray) a))
abbrev sw_ok_x2 (ro : Int) (a b : List Int) (fu : Int) := (saveM (fuseM (sw_ok_x1 ro a).2 fu) (⟨#[115]⟩ : ByteArray) b)
theorem sw_ok (ro : Int) (a b : List Int) (fu : Int) (kp : List Int)
 (h1 : ((decide ((((List.length a) : Nat) : Int) > (65536 : Int))) = false))
 (h2 : ((decide ((((List.length b) : Nat) : Int) > (65536 : Int))) = false))
 (h3 : ((List.length a) ≤ (281474976710656 : Nat)))
 (h4 : (OkN ((clampR ro), ((0 : Int), ((0 : Int), (false, ([] : List (Rec × Ob)))))) (4611686018427387000 : Int)))
 (h5 : (((sw_ok_x1 ro a).1 != (0 : Int)) = false))
 (h6 : ((List.length b) ≤ (281474976710656 : Nat)))
 (h7 : (OkN (fuseM (sw_ok_x1 ro a).2 fu) (4611686018427387000 : Int)))
 (h8 : ((decide (b = b)) = true))
 (h9 : ((List.length b) ≤ (9223372036854775807 : Nat)))
 (h10 : (((sw_ok_x2 ro a b fu).1 != (0 : Int)) = false))
 (h11 : ((((((sw_ok_x2 ro a b fu).2).2).2).2).1 = false))
 (h12 : (Okd (sw_ok_x2 ro a b fu).2))
 (h13 : (loadB (sw_ok_x2 ro a b fu).2 (⟨#[115]⟩ : ByteArray)))
 (h14 : (((sw_ok_x2 ro a b fu).1 == (0 : Int)) = true))
 (h15 : ((decide (((loadM (sw_ok_x2 ro a b fu).2 (⟨#[115]⟩ : ByteArray))).2 = b)) = true))
 (h16 : ((List.length ((loadM (sw_ok_x2 ro a b fu).2 (⟨#[115]⟩ : ByteArray))).2) ≤ (9223372036854775807 : Nat))) :
 ∃ ps, runF Tryd.prog DF gSw 100 Tryd.f5 [.one (.int .i64 false ro), .one (.words .u8 a), .one (.words .u8 b), .one (.int .i64 false fu), .one (.words .i64 kp)] [.is false, .is false, .is false, .is true, .is false, .is false, .is true, .is true] = some ((AV.v (A0.one (Part.bool true true))), ps) ∧ AllQ ps := ⟨_, by kernel_rfl, allQ_cons (show (ro = ro) from rfl) (allQ_cons h1 (allQ_cons h2 (allQ_cons h3 (allQ_cons (show ((⟨#[115]⟩ : ByteArray) = (⟨#[115]⟩ : ByteArray)) from rfl) (allQ_cons (show (a = a) from rfl) (allQ_cons (show ((clampR ro) = (clampR ro)) from rfl) (allQ_cons (show ((0 : Int) = (0 : Int)) from rfl) (allQ_cons (show ((0 : Int) = (0 : Int)) from rfl) (allQ_cons (show (false = false) from rfl) (allQ_cons (show (([] : List (Rec × Ob)) = ([] : List (Rec × Ob))) from rfl) (allQ_cons h4 (allQ_cons (show ((1 : Nat) ≤ (9223372036854775000 : Nat)) from by decide) (allQ_cons h5 (allQ_cons (show (fu = fu) from rfl) (allQ_cons (show (((sw_ok_x1 ro a).2).1 = ((sw_ok_x1 ro a).2).1) from rfl) (allQ_cons (show ((((sw_ok_x1 ro a).2).2).1 = (((sw_ok_x1 ro a).2).2).1) from rfl) (allQ_cons (show (((((sw_ok_x1 ro a).2).2).2).1 = ((((sw_ok_x1 ro a).2).2).2).1) from rfl) (allQ_cons (show ((((((sw_ok_x1 ro a).2).2).2).2).1 = (((((sw_ok_x1 ro a).2).2).2).2).1) from rfl) (allQ_cons (show ((((((sw_ok_x1 ro a).2).2).2).2).2 = (((((sw_ok_x1 ro a).2).2).2).2).2) from rfl) (allQ_cons h6 (allQ_cons (show ((⟨#[115]⟩ : ByteArray) = (⟨#[115]⟩ : ByteArray)) from rfl) (allQ_cons (show (b = b) from rfl) (allQ_cons (show (((fuseM (sw_ok_x1 ro a).2 fu)).1 = ((fuseM (sw_ok_x1 ro a).2 fu)).1) from rfl) (allQ_cons (show ((((fuseM (sw_ok_x1 ro a).2 fu)).2).1 = (((fuseM (sw_ok_x1 ro a).2 fu)).2).1) from rfl) (allQ_cons (show (((((fuseM (sw_ok_x1 ro a).2 fu)).2).2).1 = ((((fuseM (sw_ok_x1 ro a).2 fu)).2).2).1) from rfl) (allQ_cons (show ((((((fuseM (sw_ok_x1 ro a).2 fu)).2).2).2).1 = (((((fuseM (sw_ok_x1 ro a).2 fu)).2).2).2).1) from rfl) (allQ_cons (show ((((((fuseM (sw_ok_x1 ro a).2 fu)).2).2).2).2 = (((((fuseM (sw_ok_x1 ro a).2 fu)).2).2).2).2) from rfl) (allQ_cons h7 (allQ_cons (show ((1 : Nat) ≤ (9223372036854775000 : Nat)) from by decide) (allQ_cons h8 (allQ_cons h9 (allQ_cons h9 (allQ_cons h10 (allQ_cons h11 (allQ_cons (show (((sw_ok_x2 ro a b fu).2).1 = ((sw_ok_x2 ro a b fu).2).1) from rfl) (allQ_cons (show ((((sw_ok_x2 ro a b fu).2).2).1 = (((sw_ok_x2 ro a b fu).2).2).1) from rfl) (allQ_cons (show (((((sw_ok_x2 ro a b fu).2).2).2).1 = ((((sw_ok_x2 ro a b fu).2).2).2).1) from rfl) (allQ_cons (show ((((((sw_ok_x2 ro a b fu).2).2).2).2).1 = (((((sw_ok_x2 ro a b fu).2).2).2).2).1) from rfl) (allQ_cons (show ((((((sw_ok_x2 ro a b fu).2).2).2).2).2 = (((((sw_ok_x2 ro a b fu).2).2).2).2).2) from rfl) (allQ_cons (show ((⟨#[115]⟩ : ByteArray) = (⟨#[115]⟩ : ByteArray)) from rfl) (allQ_cons (show (((sw_ok_x2 ro a b fu).2).1 = ((sw_ok_x2 ro a b fu).2).1) from rfl) (allQ_cons (show ((((sw_ok_x2 ro a b fu).2).2).1 = (((sw_ok_x2 ro a b fu).2).2).1) from rfl) (allQ_cons (show (((((sw_ok_x2 ro a b fu).2).2).2).1 = ((((sw_ok_x2 ro a b fu).2).2).2).1) from rfl) (allQ_cons (show ((((((sw_ok_x2 ro a b fu).2).2).2).2).1 = (((((sw_ok_x2 ro a b fu).2).2).2).2).1) from rfl) (allQ_cons (show ((((((sw_ok_x2 ro a b fu).2).2).2).2).2 = (((((sw_ok_x2 ro a b fu).2).2).2).2).2) from rfl) (allQ_cons h12 (allQ_cons (show ((1 : Nat) ≤ (9223372036854775807 : Nat)) from by decide) (allQ_cons h13 (allQ_cons h14 (allQ_cons h15 (allQ_cons h16 (allQ_cons h9 (allQ_nil)))))))))))))))))))))))))))))))))))))))))))))))))))))⟩
abbrev sw_42_x1 (ro : Int) (a : List Int) := ((saveM ((clampR ro), ((0 : Int), ((0 : Int), (false, ([] : List (Rec × Ob)))))) (⟨#[115]⟩ : ByteArray) a))
abbrev sw_42_x2 (ro : Int) (a b : List Int) (fu : Int) := (saveM (fuseM (sw_42_x1 ro a).2 fu) (⟨#[115]⟩ : ByteArray) b)
theorem sw_42 (ro : Int) (a b : List Int) (fu : Int) (kp : List Int)
 (h1 : ((decide ((((List.length a) : Nat) : Int) > (65536 : Int))) = false))
 (h2 : ((decide ((((List.length b) : Nat) : Int) > (65536 : Int))) = false))
 (h3 : ((List.length a) ≤ (281474976710656 : Nat)))
 (h4 : (OkN ((clampR ro), ((0 : Int), ((0 : Int), (false, ([] : List (Rec × Ob)))))) (4611686018427387000 : Int)))
 (h5 : (((sw_42_x1 ro a).1 != (0 : Int)) = false))
 (h6 : ((List.length b) ≤ (281474976710656 : Nat)))
 (h7 : (OkN (fuseM (sw_42_x1 ro a).2 fu) (4611686018427387000 : Int)))
 (h8 : ((decide (b = b)) = true))
 (h9 : ((List.length b) ≤ (9223372036854775807 : Nat)))
 (h10 : (((sw_42_x2 ro a b fu).1 != (0 : Int)) = true))
 (h11 : (((sw_42_x2 ro a b fu).1 != (2 : Int)) = true))
 (h12 : (((sw_42_x2 ro a b fu).1 != (42 : Int)) = false))
 (h13 : ((((((sw_42_x2 ro a b fu).2).2).2).2).1 = false))
 (h14 : (Okd (sw_42_x2 ro a b fu).2))
 (h15 : (loadB (sw_42_x2 ro a b fu).2 (⟨#[115]⟩ : ByteArray)))
 (h16 : (((sw_42_x2 ro a b fu).1 == (0 : Int)) = false))
 (h17 : ((decide (((loadM (sw_42_x2 ro a b fu).2 (⟨#[115]⟩ : ByteArray))).2 = a)) = true))
 (h18 : ((List.length ((loadM (sw_42_x2 ro a b fu).2 (⟨#[115]⟩ : ByteArray))).2) ≤ (9223372036854775807 : Nat)))
 (h19 : ((List.length a) ≤ (9223372036854775807 : Nat))) :
 ∃ ps, runF Tryd.prog DF gSw 100 Tryd.f5 [.one (.int .i64 false ro), .one (.words .u8 a), .one (.words .u8 b), .one (.int .i64 false fu), .one (.words .i64 kp)] [.is false, .is false, .is false, .is true, .is true, .is true, .is false, .is false, .is false, .is true] = some ((AV.v (A0.one (Part.bool true true))), ps) ∧ AllQ ps := ⟨_, by kernel_rfl, allQ_cons (show (ro = ro) from rfl) (allQ_cons h1 (allQ_cons h2 (allQ_cons h3 (allQ_cons (show ((⟨#[115]⟩ : ByteArray) = (⟨#[115]⟩ : ByteArray)) from rfl) (allQ_cons (show (a = a) from rfl) (allQ_cons (show ((clampR ro) = (clampR ro)) from rfl) (allQ_cons (show ((0 : Int) = (0 : Int)) from rfl) (allQ_cons (show ((0 : Int) = (0 : Int)) from rfl) (allQ_cons (show (false = false) from rfl) (allQ_cons (show (([] : List (Rec × Ob)) = ([] : List (Rec × Ob))) from rfl) (allQ_cons h4 (allQ_cons (show ((1 : Nat) ≤ (9223372036854775000 : Nat)) from by decide) (allQ_cons h5 (allQ_cons (show (fu = fu) from rfl) (allQ_cons (show (((sw_42_x1 ro a).2).1 = ((sw_42_x1 ro a).2).1) from rfl) (allQ_cons (show ((((sw_42_x1 ro a).2).2).1 = (((sw_42_x1 ro a).2).2).1) from rfl) (allQ_cons (show (((((sw_42_x1 ro a).2).2).2).1 = ((((sw_42_x1 ro a).2).2).2).1) from rfl) (allQ_cons (show ((((((sw_42_x1 ro a).2).2).2).2).1 = (((((sw_42_x1 ro a).2).2).2).2).1) from rfl) (allQ_cons (show ((((((sw_42_x1 ro a).2).2).2).2).2 = (((((sw_42_x1 ro a).2).2).2).2).2) from rfl) (allQ_cons h6 (allQ_cons (show ((⟨#[115]⟩ : ByteArray) = (⟨#[115]⟩ : ByteArray)) from rfl) (allQ_cons (show (b = b) from rfl) (allQ_cons (show (((fuseM (sw_42_x1 ro a).2 fu)).1 = ((fuseM (sw_42_x1 ro a).2 fu)).1) from rfl) (allQ_cons (show ((((fuseM (sw_42_x1 ro a).2 fu)).2).1 = (((fuseM (sw_42_x1 ro a).2 fu)).2).1) from rfl) (allQ_cons (show (((((fuseM (sw_42_x1 ro a).2 fu)).2).2).1 = ((((fuseM (sw_42_x1 ro a).2 fu)).2).2).1) from rfl) (allQ_cons (show ((((((fuseM (sw_42_x1 ro a).2 fu)).2).2).2).1 = (((((fuseM (sw_42_x1 ro a).2 fu)).2).2).2).1) from rfl) (allQ_cons (show ((((((fuseM (sw_42_x1 ro a).2 fu)).2).2).2).2 = (((((fuseM (sw_42_x1 ro a).2 fu)).2).2).2).2) from rfl) (allQ_cons h7 (allQ_cons (show ((1 : Nat) ≤ (9223372036854775000 : Nat)) from by decide) (allQ_cons h8 (allQ_cons h9 (allQ_cons h9 (allQ_cons h10 (allQ_cons h11 (allQ_cons h12 (allQ_cons h13 (allQ_cons (show (((sw_42_x2 ro a b fu).2).1 = ((sw_42_x2 ro a b fu).2).1) from rfl) (allQ_cons (show ((((sw_42_x2 ro a b fu).2).2).1 = (((sw_42_x2 ro a b fu).2).2).1) from rfl) (allQ_cons (show (((((sw_42_x2 ro a b fu).2).2).2).1 = ((((sw_42_x2 ro a b fu).2).2).2).1) from rfl) (allQ_cons (show ((((((sw_42_x2 ro a b fu).2).2).2).2).1 = (((((sw_42_x2 ro a b fu).2).2).2).2).1) from rfl) (allQ_cons (show ((((((sw_42_x2 ro a b fu).2).2).2).2).2 = (((((sw_42_x2 ro a b fu).2).2).2).2).2) from rfl) (allQ_cons (show ((⟨#[115]⟩ : ByteArray) = (⟨#[115]⟩ : ByteArray)) from rfl) (allQ_cons (show (((sw_42_x2 ro a b fu).2).1 = ((sw_42_x2 ro a b fu).2).1) from rfl) (allQ_cons (show ((((sw_42_x2 ro a b fu).2).2).1 = (((sw_42_x2 ro a b fu).2).2).1) from rfl) (allQ_cons (show (((((sw_42_x2 ro a b fu).2).2).2).1 = ((((sw_42_x2 ro a b fu).2).2).2).1) from rfl) (allQ_cons (show ((((((sw_42_x2 ro a b fu).2).2).2).2).1 = (((((sw_42_x2 ro a b fu).2).2).2).2).1) from rfl) (allQ_cons (show ((((((sw_42_x2 ro a b fu).2).2).2).2).2 = (((((sw_42_x2 ro a b fu).2).2).2).2).2) from rfl) (allQ_cons h14 (allQ_cons (show ((1 : Nat) ≤ (9223372036854775807 : Nat)) from by decide) (allQ_cons h15 (allQ_cons h16 (allQ_cons h17 (allQ_cons h18 (allQ_cons h19 (allQ_nil)))))))))))))))))))))))))))))))))))))))))))))))))))))))⟩
abbrev sw_42d_x1 (ro : Int) (a b : List Int) (fu : Int) := ((saveM (fuseM ((saveM ((clampR ro), ((0 : Int), ((0 : Int), (false, ([] : List (Rec × Ob)))))) (⟨#[115]⟩ : ByteArray) a)).2 fu) (⟨#[115]⟩ : ByteArray) b))
abbrev sw_42d_x2 (ro : Int) (a : List Int) := ((saveM ((clampR ro), ((0 : Int), ((0 : Int), (false, ([] : List (Rec × Ob)))))) (⟨#[115]⟩ : ByteArray) a))
abbrev sw_42d_x3 (ro : Int) (a b : List Int) (fu : Int) (kp : List Int) := (crashM (sw_42d_x1 ro a b fu).2 (([] : List (Int)) ++ kp))
theorem sw_42d (ro : Int) (a b : List Int) (fu : Int) (kp : List Int)
 (h1 : ((decide ((((List.length a) : Nat) : Int) > (65536 : Int))) = false))
 (h2 : ((decide ((((List.length b) : Nat) : Int) > (65536 : Int))) = false))
 (h3 : ((List.length a) ≤ (281474976710656 : Nat)))
 (h4 : (OkN ((clampR ro), ((0 : Int), ((0 : Int), (false, ([] : List (Rec × Ob)))))) (4611686018427387000 : Int)))
 (h5 : (((sw_42d_x2 ro a).1 != (0 : Int)) = false))
 (h6 : ((List.length b) ≤ (281474976710656 : Nat)))
 (h7 : (OkN (fuseM (sw_42d_x2 ro a).2 fu) (4611686018427387000 : Int)))
 (h8 : ((decide (b = b)) = true))
 (h9 : ((List.length b) ≤ (9223372036854775807 : Nat)))
 (h10 : (((sw_42d_x1 ro a b fu).1 != (0 : Int)) = true))
 (h11 : (((sw_42d_x1 ro a b fu).1 != (2 : Int)) = true))
 (h12 : (((sw_42d_x1 ro a b fu).1 != (42 : Int)) = false))
 (h13 : ((((((sw_42d_x1 ro a b fu).2).2).2).2).1 = true))
 (h14 : (((0 : Nat) + (List.length kp)) ≤ (9223372036854775807 : Nat)))
 (h15 : ((((0 : Nat) + (List.length kp)) * (8 : Nat)) ≤ (140737488355328 : Nat)))
 (h16 : (Okd (sw_42d_x1 ro a b fu).2))
 (h17 : (Okd (sw_42d_x3 ro a b fu kp)))
 (h18 : (loadB (sw_42d_x3 ro a b fu kp) (⟨#[115]⟩ : ByteArray)))
 (h19 : (((sw_42d_x1 ro a b fu).1 == (0 : Int)) = false))
 (h20 : ((decide (((loadM (sw_42d_x3 ro a b fu kp) (⟨#[115]⟩ : ByteArray))).2 = a)) = true))
 (h21 : ((List.length ((loadM (sw_42d_x3 ro a b fu kp) (⟨#[115]⟩ : ByteArray))).2) ≤ (9223372036854775807 : Nat)))
 (h22 : ((List.length a) ≤ (9223372036854775807 : Nat))) :
 ∃ ps, runF Tryd.prog DF gSw 100 Tryd.f5 [.one (.int .i64 false ro), .one (.words .u8 a), .one (.words .u8 b), .one (.int .i64 false fu), .one (.words .i64 kp)] [.is false, .is false, .is false, .is true, .is true, .is true, .is false, .is true, .is false, .is true] = some ((AV.v (A0.one (Part.bool true true))), ps) ∧ AllQ ps := ⟨_, by kernel_rfl, allQ_cons (show (ro = ro) from rfl) (allQ_cons h1 (allQ_cons h2 (allQ_cons h3 (allQ_cons (show ((⟨#[115]⟩ : ByteArray) = (⟨#[115]⟩ : ByteArray)) from rfl) (allQ_cons (show (a = a) from rfl) (allQ_cons (show ((clampR ro) = (clampR ro)) from rfl) (allQ_cons (show ((0 : Int) = (0 : Int)) from rfl) (allQ_cons (show ((0 : Int) = (0 : Int)) from rfl) (allQ_cons (show (false = false) from rfl) (allQ_cons (show (([] : List (Rec × Ob)) = ([] : List (Rec × Ob))) from rfl) (allQ_cons h4 (allQ_cons (show ((1 : Nat) ≤ (9223372036854775000 : Nat)) from by decide) (allQ_cons h5 (allQ_cons (show (fu = fu) from rfl) (allQ_cons (show (((sw_42d_x2 ro a).2).1 = ((sw_42d_x2 ro a).2).1) from rfl) (allQ_cons (show ((((sw_42d_x2 ro a).2).2).1 = (((sw_42d_x2 ro a).2).2).1) from rfl) (allQ_cons (show (((((sw_42d_x2 ro a).2).2).2).1 = ((((sw_42d_x2 ro a).2).2).2).1) from rfl) (allQ_cons (show ((((((sw_42d_x2 ro a).2).2).2).2).1 = (((((sw_42d_x2 ro a).2).2).2).2).1) from rfl) (allQ_cons (show ((((((sw_42d_x2 ro a).2).2).2).2).2 = (((((sw_42d_x2 ro a).2).2).2).2).2) from rfl) (allQ_cons h6 (allQ_cons (show ((⟨#[115]⟩ : ByteArray) = (⟨#[115]⟩ : ByteArray)) from rfl) (allQ_cons (show (b = b) from rfl) (allQ_cons (show (((fuseM (sw_42d_x2 ro a).2 fu)).1 = ((fuseM (sw_42d_x2 ro a).2 fu)).1) from rfl) (allQ_cons (show ((((fuseM (sw_42d_x2 ro a).2 fu)).2).1 = (((fuseM (sw_42d_x2 ro a).2 fu)).2).1) from rfl) (allQ_cons (show (((((fuseM (sw_42d_x2 ro a).2 fu)).2).2).1 = ((((fuseM (sw_42d_x2 ro a).2 fu)).2).2).1) from rfl) (allQ_cons (show ((((((fuseM (sw_42d_x2 ro a).2 fu)).2).2).2).1 = (((((fuseM (sw_42d_x2 ro a).2 fu)).2).2).2).1) from rfl) (allQ_cons (show ((((((fuseM (sw_42d_x2 ro a).2 fu)).2).2).2).2 = (((((fuseM (sw_42d_x2 ro a).2 fu)).2).2).2).2) from rfl) (allQ_cons h7 (allQ_cons (show ((1 : Nat) ≤ (9223372036854775000 : Nat)) from by decide) (allQ_cons h8 (allQ_cons h9 (allQ_cons h9 (allQ_cons h10 (allQ_cons h11 (allQ_cons h12 (allQ_cons h13 (allQ_cons (show (((sw_42d_x1 ro a b fu).2).1 = ((sw_42d_x1 ro a b fu).2).1) from rfl) (allQ_cons (show ((((sw_42d_x1 ro a b fu).2).2).1 = (((sw_42d_x1 ro a b fu).2).2).1) from rfl) (allQ_cons (show (((((sw_42d_x1 ro a b fu).2).2).2).1 = ((((sw_42d_x1 ro a b fu).2).2).2).1) from rfl) (allQ_cons (show ((((((sw_42d_x1 ro a b fu).2).2).2).2).1 = (((((sw_42d_x1 ro a b fu).2).2).2).2).1) from rfl) (allQ_cons (show ((((((sw_42d_x1 ro a b fu).2).2).2).2).2 = (((((sw_42d_x1 ro a b fu).2).2).2).2).2) from rfl) (allQ_cons h14 (allQ_cons h15 (allQ_cons (show ((([] : List (Int)) ++ kp) = (([] : List (Int)) ++ kp)) from rfl) (allQ_cons (show (((sw_42d_x1 ro a b fu).2).1 = ((sw_42d_x1 ro a b fu).2).1) from rfl) (allQ_cons (show ((((sw_42d_x1 ro a b fu).2).2).1 = (((sw_42d_x1 ro a b fu).2).2).1) from rfl) (allQ_cons (show (((((sw_42d_x1 ro a b fu).2).2).2).1 = ((((sw_42d_x1 ro a b fu).2).2).2).1) from rfl) (allQ_cons (show ((((((sw_42d_x1 ro a b fu).2).2).2).2).1 = (((((sw_42d_x1 ro a b fu).2).2).2).2).1) from rfl) (allQ_cons (show ((((((sw_42d_x1 ro a b fu).2).2).2).2).2 = (((((sw_42d_x1 ro a b fu).2).2).2).2).2) from rfl) (allQ_cons h16 (allQ_cons (show ((⟨#[115]⟩ : ByteArray) = (⟨#[115]⟩ : ByteArray)) from rfl) (allQ_cons (show (((sw_42d_x3 ro a b fu kp)).1 = ((sw_42d_x3 ro a b fu kp)).1) from rfl) (allQ_cons (show ((((sw_42d_x3 ro a b fu kp)).2).1 = (((sw_42d_x3 ro a b fu kp)).2).1) from rfl) (allQ_cons (show (((((sw_42d_x3 ro a b fu kp)).2).2).1 = ((((sw_42d_x3 ro a b fu kp)).2).2).1) from rfl) (allQ_cons (show ((((((sw_42d_x3 ro a b fu kp)).2).2).2).1 = (((((sw_42d_x3 ro a b fu kp)).2).2).2).1) from rfl) (allQ_cons (show ((((((sw_42d_x3 ro a b fu kp)).2).2).2).2 = (((((sw_42d_x3 ro a b fu kp)).2).2).2).2) from rfl) (allQ_cons h17 (allQ_cons (show ((1 : Nat) ≤ (9223372036854775807 : Nat)) from by decide) (allQ_cons h18 (allQ_cons h19 (allQ_cons h20 (allQ_cons h21 (allQ_cons h22 (allQ_nil))))))))))))))))))))))))))))))))))))))))))))))))))))))))))))))))⟩
abbrev sw_2_x1 (ro : Int) (a b : List Int) (fu : Int) := ((saveM (fuseM ((saveM ((clampR ro), ((0 : Int), ((0 : Int), (false, ([] : List (Rec × Ob)))))) (⟨#[115]⟩ : ByteArray) a)).2 fu) (⟨#[115]⟩ : ByteArray) b))
abbrev sw_2_x2 (ro : Int) (a : List Int) := ((saveM ((clampR ro), ((0 : Int), ((0 : Int), (false, ([] : List (Rec × Ob)))))) (⟨#[115]⟩ : ByteArray) a))
abbrev sw_2_x3 (ro : Int) (a b : List Int) (fu : Int) (kp : List Int) := (crashM (sw_2_x1 ro a b fu).2 (([] : List (Int)) ++ kp))
theorem sw_2 (ro : Int) (a b : List Int) (fu : Int) (kp : List Int)
 (h1 : ((decide ((((List.length a) : Nat) : Int) > (65536 : Int))) = false))
 (h2 : ((decide ((((List.length b) : Nat) : Int) > (65536 : Int))) = false))
 (h3 : ((List.length a) ≤ (281474976710656 : Nat)))
 (h4 : (OkN ((clampR ro), ((0 : Int), ((0 : Int), (false, ([] : List (Rec × Ob)))))) (4611686018427387000 : Int)))
 (h5 : (((sw_2_x2 ro a).1 != (0 : Int)) = false))
 (h6 : ((List.length b) ≤ (281474976710656 : Nat)))
 (h7 : (OkN (fuseM (sw_2_x2 ro a).2 fu) (4611686018427387000 : Int)))
 (h8 : ((decide (b = b)) = true))
 (h9 : ((List.length b) ≤ (9223372036854775807 : Nat)))
 (h10 : (((sw_2_x1 ro a b fu).1 != (0 : Int)) = true))
 (h11 : (((sw_2_x1 ro a b fu).1 != (2 : Int)) = false))
 (h12 : ((((((sw_2_x1 ro a b fu).2).2).2).2).1 = true))
 (h13 : (((0 : Nat) + (List.length kp)) ≤ (9223372036854775807 : Nat)))
 (h14 : ((((0 : Nat) + (List.length kp)) * (8 : Nat)) ≤ (140737488355328 : Nat)))
 (h15 : (Okd (sw_2_x1 ro a b fu).2))
 (h16 : (Okd (sw_2_x3 ro a b fu kp)))
 (h17 : (loadB (sw_2_x3 ro a b fu kp) (⟨#[115]⟩ : ByteArray)))
 (h18 : (((sw_2_x1 ro a b fu).1 == (0 : Int)) = false))
 (h19 : ((decide (((loadM (sw_2_x3 ro a b fu kp) (⟨#[115]⟩ : ByteArray))).2 = a)) = true))
 (h20 : ((List.length ((loadM (sw_2_x3 ro a b fu kp) (⟨#[115]⟩ : ByteArray))).2) ≤ (9223372036854775807 : Nat)))
 (h21 : ((List.length a) ≤ (9223372036854775807 : Nat))) :
 ∃ ps, runF Tryd.prog DF gSw 100 Tryd.f5 [.one (.int .i64 false ro), .one (.words .u8 a), .one (.words .u8 b), .one (.int .i64 false fu), .one (.words .i64 kp)] [.is false, .is false, .is false, .is true, .is true, .is false, .is true, .is false, .is true] = some ((AV.v (A0.one (Part.bool true true))), ps) ∧ AllQ ps := ⟨_, by kernel_rfl, allQ_cons (show (ro = ro) from rfl) (allQ_cons h1 (allQ_cons h2 (allQ_cons h3 (allQ_cons (show ((⟨#[115]⟩ : ByteArray) = (⟨#[115]⟩ : ByteArray)) from rfl) (allQ_cons (show (a = a) from rfl) (allQ_cons (show ((clampR ro) = (clampR ro)) from rfl) (allQ_cons (show ((0 : Int) = (0 : Int)) from rfl) (allQ_cons (show ((0 : Int) = (0 : Int)) from rfl) (allQ_cons (show (false = false) from rfl) (allQ_cons (show (([] : List (Rec × Ob)) = ([] : List (Rec × Ob))) from rfl) (allQ_cons h4 (allQ_cons (show ((1 : Nat) ≤ (9223372036854775000 : Nat)) from by decide) (allQ_cons h5 (allQ_cons (show (fu = fu) from rfl) (allQ_cons (show (((sw_2_x2 ro a).2).1 = ((sw_2_x2 ro a).2).1) from rfl) (allQ_cons (show ((((sw_2_x2 ro a).2).2).1 = (((sw_2_x2 ro a).2).2).1) from rfl) (allQ_cons (show (((((sw_2_x2 ro a).2).2).2).1 = ((((sw_2_x2 ro a).2).2).2).1) from rfl) (allQ_cons (show ((((((sw_2_x2 ro a).2).2).2).2).1 = (((((sw_2_x2 ro a).2).2).2).2).1) from rfl) (allQ_cons (show ((((((sw_2_x2 ro a).2).2).2).2).2 = (((((sw_2_x2 ro a).2).2).2).2).2) from rfl) (allQ_cons h6 (allQ_cons (show ((⟨#[115]⟩ : ByteArray) = (⟨#[115]⟩ : ByteArray)) from rfl) (allQ_cons (show (b = b) from rfl) (allQ_cons (show (((fuseM (sw_2_x2 ro a).2 fu)).1 = ((fuseM (sw_2_x2 ro a).2 fu)).1) from rfl) (allQ_cons (show ((((fuseM (sw_2_x2 ro a).2 fu)).2).1 = (((fuseM (sw_2_x2 ro a).2 fu)).2).1) from rfl) (allQ_cons (show (((((fuseM (sw_2_x2 ro a).2 fu)).2).2).1 = ((((fuseM (sw_2_x2 ro a).2 fu)).2).2).1) from rfl) (allQ_cons (show ((((((fuseM (sw_2_x2 ro a).2 fu)).2).2).2).1 = (((((fuseM (sw_2_x2 ro a).2 fu)).2).2).2).1) from rfl) (allQ_cons (show ((((((fuseM (sw_2_x2 ro a).2 fu)).2).2).2).2 = (((((fuseM (sw_2_x2 ro a).2 fu)).2).2).2).2) from rfl) (allQ_cons h7 (allQ_cons (show ((1 : Nat) ≤ (9223372036854775000 : Nat)) from by decide) (allQ_cons h8 (allQ_cons h9 (allQ_cons h9 (allQ_cons h10 (allQ_cons h11 (allQ_cons h12 (allQ_cons (show (((sw_2_x1 ro a b fu).2).1 = ((sw_2_x1 ro a b fu).2).1) from rfl) (allQ_cons (show ((((sw_2_x1 ro a b fu).2).2).1 = (((sw_2_x1 ro a b fu).2).2).1) from rfl) (allQ_cons (show (((((sw_2_x1 ro a b fu).2).2).2).1 = ((((sw_2_x1 ro a b fu).2).2).2).1) from rfl) (allQ_cons (show ((((((sw_2_x1 ro a b fu).2).2).2).2).1 = (((((sw_2_x1 ro a b fu).2).2).2).2).1) from rfl) (allQ_cons (show ((((((sw_2_x1 ro a b fu).2).2).2).2).2 = (((((sw_2_x1 ro a b fu).2).2).2).2).2) from rfl) (allQ_cons h13 (allQ_cons h14 (allQ_cons (show ((([] : List (Int)) ++ kp) = (([] : List (Int)) ++ kp)) from rfl) (allQ_cons (show (((sw_2_x1 ro a b fu).2).1 = ((sw_2_x1 ro a b fu).2).1) from rfl) (allQ_cons (show ((((sw_2_x1 ro a b fu).2).2).1 = (((sw_2_x1 ro a b fu).2).2).1) from rfl) (allQ_cons (show (((((sw_2_x1 ro a b fu).2).2).2).1 = ((((sw_2_x1 ro a b fu).2).2).2).1) from rfl) (allQ_cons (show ((((((sw_2_x1 ro a b fu).2).2).2).2).1 = (((((sw_2_x1 ro a b fu).2).2).2).2).1) from rfl) (allQ_cons (show ((((((sw_2_x1 ro a b fu).2).2).2).2).2 = (((((sw_2_x1 ro a b fu).2).2).2).2).2) from rfl) (allQ_cons h15 (allQ_cons (show ((⟨#[115]⟩ : ByteArray) = (⟨#[115]⟩ : ByteArray)) from rfl) (allQ_cons (show (((sw_2_x3 ro a b fu kp)).1 = ((sw_2_x3 ro a b fu kp)).1) from rfl) (allQ_cons (show ((((sw_2_x3 ro a b fu kp)).2).1 = (((sw_2_x3 ro a b fu kp)).2).1) from rfl) (allQ_cons (show (((((sw_2_x3 ro a b fu kp)).2).2).1 = ((((sw_2_x3 ro a b fu kp)).2).2).1) from rfl) (allQ_cons (show ((((((sw_2_x3 ro a b fu kp)).2).2).2).1 = (((((sw_2_x3 ro a b fu kp)).2).2).2).1) from rfl) (allQ_cons (show ((((((sw_2_x3 ro a b fu kp)).2).2).2).2 = (((((sw_2_x3 ro a b fu kp)).2).2).2).2) from rfl) (allQ_cons h16 (allQ_cons (show ((1 : Nat) ≤ (9223372036854775807 : Nat)) from by decide) (allQ_cons h17 (allQ_cons h18 (allQ_cons h19 (allQ_cons h20 (allQ_cons h21 (allQ_nil)))))))))))))))))))))))))))))))))))))))))))))))))))))))))))))))⟩
end Go.Num
namespace Go.Num
open Go.Abs Go.Proofs Go.Shelf Go.RowKit
def Keeps (n : ByteArray) (l : List Int) (es : List (Rec × Ob)) : Prop := hasE es [Fd.s n] = true ∧ obE es [Fd.s n] = fileOb l l.length
theorem key_ne {s n : ByteArray} (h : s ≠ n) : ([Fd.s n] : Rec) ≠ [Fd.s s] := fun e => h (by cases e; rfl)
theorem keeps_set {n : ByteArray} {l : List Int} {es : List (Rec × Ob)} (h : Keeps n l es) {s : ByteArray} (hs : s ≠ n) (o : Ob) : Keeps n l (setE es [Fd.s s] o) :=
  ⟨by rw [hasE_set, h.1, Bool.or_true], by rw [obE_set, if_neg (key_ne hs)]; exact h.2⟩
theorem crN_zero {keep : List Int} {k : Nat} {l : List Int} {free : Int} (h : 0 ≤ free) : crN keep k l l.length free = 0 := by
  have := crN_le (keep := keep) (k := k) (l := l) (s := l.length) (free := free) (Int.le_refl _) h
  omega
theorem crash_keeps {d : DkT} (hd : Okd d) {n : ByteArray} {l : List Int} (h : Keeps n l d.2.2.2.2) (keep : List Int) : Keeps n l (crashM d keep).2.2.2.2 := by
  have : ∀ k, k ≤ (sortK d.2.2.2.2).length → Keeps n l (crGo keep (sortK d.2.2.2.2) k (d.1 - safeSum none d.2.2.2.2, d.2.2.2.2)).2 := by
    intro k
    induction k with
    | zero => exact fun _ => h
    | succ k ih =>
      intro hk
      have ih := ih (by omega)
      have hI := crGo_inv hd.esd keep k (by omega)
      show Keeps n l (crStep keep (sortK d.2.2.2.2) k (crGo keep (sortK d.2.2.2.2) k (d.1 - safeSum none d.2.2.2.2, d.2.2.2.2))).2
      generalize crGo keep (sortK d.2.2.2.2) k (d.1 - safeSum none d.2.2.2.2, d.2.2.2.2) = x at ih hI ⊢
      have hf : 0 ≤ x.1 := by have h1 := hI.free; have h2 := hI.esd.free; omega
      unfold crStep
      by_cases he : recS ((sortK d.2.2.2.2).getD k []) 0 = n
      · simp only [he]
        refine ⟨by rw [hasE_set, ih.1, Bool.or_true], ?_⟩
        rw [obE_set, if_pos rfl, ih.2]
        show fileOb (l.take ((l.length : Int) + crN keep k l l.length x.1).toNat) ((l.length : Int) + crN keep k l l.length x.1) = _
        rw [crN_zero hf, Int.add_zero, Int.toNat_natCast, List.take_length]
      · exact keeps_set ih he _
  exact this _ (Nat.le_refl _)
theorem keeps_read {n : ByteArray} {l : List Int} (hn : rightB n = true) {d : DkT} (h : Keeps n l d.2.2.2.2) (hd : d.2.2.2.1 = false) : readM d n = (0, l) := by
  have he : DkT.err d n = 0 := by
    show errF d.2.2.2.1 d.2.2.2.2 n = 0
    unfold errF
    rw [hd]
    simp only [Bool.false_eq_true, if_false, hn, if_true, h.1]
  have hD : fD d n = l := by
    show obD (obE d.2.2.2.2 [Fd.s n]) = l
    rw [h.2]
    rfl
  unfold readM
  rw [if_neg (by rw [he]; simp), hD]
theorem keeps_one (n : ByteArray) (l : List Int) : Keeps n l (one n l l.length) := ⟨by simp [one, hasE, getE], ob_one ..⟩
def two2 (n f : ByteArray) (A : List Int) (a : Int) (B : List Int) (m : Int) : List (Rec × Ob) := [([Fd.s n], fileOb A a), ([Fd.s f], fileOb B m)]
theorem keeps_two {n f : ByteArray} {A B : List Int} {m : Int} : Keeps n A (two2 n f A A.length B m) := ⟨by simp [two2, hasE, getE], by simp [two2, obE, getE]⟩
theorem stV_eq {fu : Int} : (stV fu = false ∧ stDn fu false = true) ∨ (stV fu = true ∧ stDn fu false = false) := by
  unfold stV stDn
  by_cases h : fu = 1
  · exact .inl ⟨if_pos h, if_pos h⟩
  · exact .inr ⟨if_neg h, if_neg h⟩
def SwapOut (n : ByteArray) (A B : List Int) (x : Int × DkT) : Prop :=
  (x.1 = 0 ∧ x.2.2.2.2.1 = false ∧ x.2.2.2.2.2 = one n B B.length) ∨ (x.1 = 42 ∧ x.2.2.2.2.1 = false ∧ x.2.2.2.2.2 = one n A A.length) ∨
    ((x.1 = 42 ∨ x.1 = 2) ∧ x.2.2.2.2.1 = true ∧ Keeps n A x.2.2.2.2.2)
theorem save_two {ro st fu : Int} {n : ByteArray} {A l : List Int} (hn : NameOK n) (hl : l.length ≤ 65536) : SwapOut n A (sealL l) (saveM (ro, st, fu, false, one n A A.length) n l) := by
  obtain ⟨h1, h2, h3, h4⟩ := hn
  have hlen := seal_len l
  have hne : ([Fd.s n] : Rec) ≠ [Fd.s (fnew n)] := key_ne (Ne.symm h4)
  have he : DkT.err (ro, st, fu, false, one n A A.length) (fnew n) = 41 := by
    show errF false (one n A A.length) (fnew n) = 41
    unfold errF
    simp [h3, one, hasE, getE, hne]
  have g := sv1_gone he
  have e2 : sv2M (ro, st, fu, false, one n A A.length) (fnew n) l = (if stV fu = true then 0 else 2, (ro, stSt fu st, stFu fu, stDn fu false, two2 n (fnew n) A A.length (sealL l) 0)) := by
    unfold sv2M appendM
    rw [g.2]
    have hob : obE (one n A A.length) [Fd.s (fnew n)] = .node [] [] := by simp [one, obE, getE, hne]
    have hfd : fD (ro, st, fu, false, one n A A.length) (fnew n) = [] := by
      show obD (obE (one n A A.length) [Fd.s (fnew n)]) = []
      rw [hob]; rfl
    have hfs : fS (ro, st, fu, false, one n A A.length) (fnew n) = 0 := by
      show obS (obE (one n A A.length) [Fd.s (fnew n)]) = 0
      rw [hob]; rfl
    rw [if_neg (by rw [he]; simp), if_neg (by rintro ⟨_, h⟩; exact absurd h (show ¬ 32 ≤ 1 by decide)), if_neg (by rw [hfd]; simp; omega), hfd, hfs]
    show (_, (ro, stSt fu st, stFu fu, stDn fu false, setE (one n A A.length) [Fd.s (fnew n)] (fileOb ([] ++ sealL l) 0))) = _
    simp [one, setE, hne, two2]
  unfold saveM
  rw [if_neg (by rw [h1]; rintro (h | h); cases h; omega), if_neg (by omega), if_neg (by rw [g.1]; decide), e2]
  rcases stV_eq (fu := fu) with ⟨v1, n1⟩ | ⟨v1, n1⟩
  · rw [v1]
    right; right
    unfold svEnd
    simp only [Bool.false_eq_true, if_false, n1, show ((2 : Int) ≠ 0) = True from by decide, if_true, show ((2 : Int) ≠ 2) = False from by decide]
    exact ⟨.inr (by first | rfl | trivial), by first | rfl | trivial, keeps_two⟩
  rw [v1] at e2 ⊢
  rw [n1] at e2 ⊢
  simp only [if_true, ne_eq, not_true_eq_false, if_false] at e2 ⊢
  generalize hs2 : stSt fu st = st2 at e2 ⊢
  generalize hf2 : stFu fu = fu2 at e2 ⊢
  have herr : ∀ (st fu m : Int), DkT.err (ro, st, fu, false, two2 n (fnew n) A A.length (sealL l) m) (fnew n) = 0 := by
    intro st fu m
    show errF false (two2 n (fnew n) A A.length (sealL l) m) (fnew n) = 0
    unfold errF
    simp [h3, two2, hasE, getE, hne]
  have hob : ∀ m : Int, obE (two2 n (fnew n) A A.length (sealL l) m) [Fd.s (fnew n)] = fileOb (sealL l) m := by
    intro m
    simp [two2, obE, getE, hne]
  have hdel : ∀ m : Int, delE (two2 n (fnew n) A A.length (sealL l) m) [Fd.s (fnew n)] = one n A A.length := by
    intro m
    simp [two2, delE, hne, one]
  have hset : ∀ m k : Int, setE (two2 n (fnew n) A A.length (sealL l) m) [Fd.s (fnew n)] (fileOb (sealL l) k) = two2 n (fnew n) A A.length (sealL l) k := by
    intro m k
    simp [two2, setE, hne]
  by_cases c : ro - safeSum none (two2 n (fnew n) A A.length (sealL l) 0) < ((sealL l).length : Int)
  · have e3 : sv3M (ro, st, fu, false, one n A A.length) (fnew n) l = (42, (ro, st2, fu2, false, two2 n (fnew n) A A.length (sealL l) 0)) := by
      unfold sv3M syncM
      rw [e2]
      simp only
      rw [if_neg (by rw [herr]; decide)]
      refine if_pos ?_
      show ro - safeSum none (two2 n (fnew n) A A.length (sealL l) 0) < ((obD (obE (two2 n (fnew n) A A.length (sealL l) 0) [Fd.s (fnew n)])).length : Int) - obS (obE (two2 n (fnew n) A A.length (sealL l) 0) [Fd.s (fnew n)])
      rw [hob]
      show _ < ((sealL l).length : Int) - 0
      omega
    rw [e3]
    unfold svEnd
    simp only [show ((42 : Int) = 0) = False from by decide, not_false_eq_true, if_true, show ((42 : Int) ≠ 2) = True from by decide]
    have hd : dropM (ro, st2, fu2, false, two2 n (fnew n) A A.length (sealL l) 0) (fnew n) = if stV fu2 = true then (0, (ro, stSt fu2 st2, stFu fu2, stDn fu2 false, one n A A.length)) else (2, (ro, stSt fu2 st2, stFu fu2, stDn fu2 false, two2 n (fnew n) A A.length (sealL l) 0)) := by
      unfold dropM
      rw [if_neg (by rw [herr]; decide)]
      by_cases v : stV fu2 = true
      · rw [if_pos v, if_pos v]
        show (_, (ro, stSt fu2 st2, stFu fu2, stDn fu2 false, delE (two2 n (fnew n) A A.length (sealL l) 0) [Fd.s (fnew n)])) = _
        rw [hdel]
      · rw [if_neg v, if_neg v]
        rfl
    rw [hd]
    rcases stV_eq (fu := fu2) with ⟨v2, n2⟩ | ⟨v2, n2⟩
    · rw [v2, n2]
      right; right
      exact ⟨.inl rfl, rfl, keeps_two⟩
    · rw [v2, n2]
      right; left
      exact ⟨rfl, rfl, rfl⟩
  have e3 : sv3M (ro, st, fu, false, one n A A.length) (fnew n) l = if stV fu2 = true then (0, (ro, stSt fu2 st2, stFu fu2, stDn fu2 false, two2 n (fnew n) A A.length (sealL l) (sealL l).length)) else (2, (ro, stSt fu2 st2, stFu fu2, stDn fu2 false, two2 n (fnew n) A A.length (sealL l) 0)) := by
    unfold sv3M syncM
    rw [e2]
    simp only
    have hfd : fD (ro, st2, fu2, false, two2 n (fnew n) A A.length (sealL l) 0) (fnew n) = sealL l := by
      show obD (obE (two2 n (fnew n) A A.length (sealL l) 0) [Fd.s (fnew n)]) = _
      rw [hob]; rfl
    have hfs : fS (ro, st2, fu2, false, two2 n (fnew n) A A.length (sealL l) 0) (fnew n) = 0 := by
      show obS (obE (two2 n (fnew n) A A.length (sealL l) 0) [Fd.s (fnew n)]) = _
      rw [hob]; rfl
    rw [if_neg (by rw [herr]; decide), hfd, hfs, if_neg (by show ¬ (ro - safeSum none (two2 n (fnew n) A A.length (sealL l) 0) < ((sealL l).length : Int) - 0); omega)]
    by_cases v : stV fu2 = true
    · rw [if_pos v, if_pos v]
      show (_, (ro, stSt fu2 st2, stFu fu2, stDn fu2 false, setE (two2 n (fnew n) A A.length (sealL l) 0) [Fd.s (fnew n)] (fileOb (sealL l) (sealL l).length))) = _
      rw [hset]
    · rw [if_neg v, if_neg v]
      rfl
  rcases stV_eq (fu := fu2) with ⟨v2, n2⟩ | ⟨v2, n2⟩
  · rw [v2, n2] at e3
    simp only [Bool.false_eq_true, if_false] at e3
    rw [e3]
    right; right
    unfold svEnd
    simp only [show ((2 : Int) = 0) = False from by decide, not_false_eq_true, if_true, show ((2 : Int) ≠ 2) = False from by decide, if_false]
    exact ⟨.inr (by first | rfl | trivial), by first | rfl | trivial, keeps_two⟩
  rw [v2, n2] at e3
  simp only [if_true] at e3
  rw [e3]
  simp only [not_true_eq_false, if_false]
  generalize hs3 : stSt fu2 st2 = st3 at e3 ⊢
  generalize hf3 : stFu fu2 = fu3 at e3 ⊢
  have e4 : sv4M (ro, st, fu, false, one n A A.length) (fnew n) n l = if stV fu3 = true then (0, (ro, stSt fu3 st3, stFu fu3, stDn fu3 false, one n (sealL l) (sealL l).length)) else (2, (ro, stSt fu3 st3, stFu fu3, stDn fu3 false, two2 n (fnew n) A A.length (sealL l) (sealL l).length)) := by
    unfold sv4M moveM
    rw [e3]
    simp only
    rw [if_neg (by rw [herr]; decide), if_neg (by rw [h1]; decide)]
    by_cases v : stV fu3 = true
    · rw [if_pos v, if_pos v]
      show (_, (ro, stSt fu3 st3, stFu fu3, stDn fu3 false, setE (delE (two2 n (fnew n) A A.length (sealL l) (sealL l).length) [Fd.s (fnew n)]) [Fd.s n] (fileOb (obD (obE (two2 n (fnew n) A A.length (sealL l) (sealL l).length) [Fd.s (fnew n)])) (obS (obE (two2 n (fnew n) A A.length (sealL l) (sealL l).length) [Fd.s (fnew n)]))))) = _
      rw [hdel, hob, set_one]
      rfl
    · rw [if_neg v, if_neg v]
      rfl
  rw [e4]
  rcases stV_eq (fu := fu3) with ⟨v3, n3⟩ | ⟨v3, n3⟩
  · rw [v3, n3]
    right; right
    unfold svEnd
    simp only [Bool.false_eq_true, if_false, show ((2 : Int) = 0) = False from by decide, not_false_eq_true, if_true, show ((2 : Int) ≠ 2) = False from by decide]
    exact ⟨.inr (by first | rfl | trivial), by first | rfl | trivial, keeps_two⟩
  · rw [v3, n3]
    left
    exact ⟨rfl, rfl, rfl⟩
abbrev cS : ByteArray := ⟨#[115]⟩
theorem right_s : NameOK cS := ⟨by kernel_rfl, by decide, by kernel_rfl, by decide⟩
theorem law_swap {ro : Int} {a b : List Int} {fu : Int} {kp : List Int} (_hro : -9223372036854775808 ≤ ro ∧ ro ≤ 9223372036854775807) (_ : InB a) (ha : a.length ≤ 140737488351232) (_ : InB b) (hb : b.length ≤ 140737488351232)
    (hfu : -9223372036854775808 ≤ fu ∧ fu ≤ 9223372036854775807) (_ : ∀ x ∈ kp, InI64 x) (hk : kp.length * 8 ≤ 140737488351232) :
    ∃ Γ, GamOK Tryd.prog DF Γ ∧ ∃ ds ps, runF Tryd.prog DF Γ 100 Tryd.f5 [.one (.int .i64 false ro), .one (.words .u8 a), .one (.words .u8 b), .one (.int .i64 false fu), .one (.words .i64 kp)] ds = some (.v (.one (.bool true true)), ps) ∧ AllQ ps := by
  have o0 : OkN (clampR ro, 0, 0, false, []) 0 := ⟨okd_new ro, Int.le_refl _⟩
  have o0' : OkN (clampR ro, 0, 0, false, []) 4611686018427387000 := o0.le (by decide)
  by_cases ca : 65536 < a.length
  · have hs : (saveM (clampR ro, 0, 0, false, []) cS a).1 = 18 := by
      unfold saveM
      rw [if_neg (by rintro (h | h); cases h; exact absurd h (by decide)), if_pos ca]
    obtain ⟨ps, p1, p2⟩ := sw_bigA ro a b fu kp (decide_eq_true (by omega)) (by omega) o0' (beq_iff_eq.2 hs)
    exact ⟨_, gSwB_ok, _, ps, p1, p2⟩
  have hsv := save_new (ro := clampR ro) (st := 0) (l := a) right_s (by omega)
  have cad : decide ((a.length : Int) > 65536) = false := decide_eq_false (by omega)
  by_cases cb : 65536 < b.length
  · have hs : (saveM (clampR ro, 0, 0, false, []) cS a).1 ≠ 18 := by
      rw [hsv]
      split
      · exact (show (42 : Int) ≠ 18 by decide)
      · exact (show (0 : Int) ≠ 18 by decide)
    obtain ⟨ps, p1, p2⟩ := sw_bigB ro a b fu kp cad (decide_eq_true (by omega)) (by omega) o0' (beq_false_of_ne hs)
    exact ⟨_, gSwB_ok, _, ps, p1, p2⟩
  have cbd : decide ((b.length : Int) > 65536) = false := decide_eq_false (by omega)
  by_cases c : clampR ro < ((sealL a).length : Int)
  · rw [if_pos c] at hsv
    have o1 := save_ok o0 cS a
    rw [hsv] at o1
    have hr : readM (clampR ro, 0 + 2, 0, false, []) cS = (41, []) := by
      unfold readM
      have : DkT.err (clampR ro, 0 + 2, 0, false, []) cS = 41 := err_nil right_s.1
      rw [this]
      rfl
    have hn : ¬ loadB (clampR ro, 0 + 2, 0, false, []) cS := fun h => by have := h.1; rw [hr] at this; cases this
    have hm : loadM (clampR ro, 0 + 2, 0, false, []) cS = (0, []) := by unfold loadM; rw [hr]; rfl
    have hf : ∀ (P : Int × DkT → Prop), P (42, (clampR ro, 0 + 2, 0, false, [])) → P (saveM (clampR ro, 0, 0, false, []) cS a) := fun P h => by rw [hsv]; exact h
    obtain ⟨ps, p1, p2⟩ := sw_full ro a b fu kp cad cbd (by omega) o0' (hf (fun x => (x.1 != 0) = true) rfl) (hf (fun x => Okd x.2) o1.1) (hf (fun x => ¬ loadB x.2 cS) hn) (hf (fun x => (x.1 == 42) = true) rfl)
      (hf (fun x => ((loadM x.2 cS).1 == 0) = true) (by rw [hm]; rfl)) (hf (fun x => (((listM x.2).length : Int) == 0) = true) (by unfold listM; simp only; rw [sortK_nil]; rfl))
    exact ⟨_, gSwN_ok, _, ps, p1, p2⟩
  rw [if_neg c] at hsv
  have o1 := save_ok o0 cS a
  rw [hsv] at o1
  have o2 := o1.nxt (fuse_nxt o1.1 hfu.2)
  have o2' : OkN (fuseM (clampR ro, 0 + 3, 0, false, one cS (sealL a) (sealL a).length) fu) 4611686018427387000 := o2.le (by decide)
  have o3 := save_ok o2 cS b
  have hx := save_two (ro := clampR ro) (st := 0 + 3) (fu := mxF fu) (A := sealL a) (l := b) right_s (by omega)
  have hf : ∀ (P : Int × DkT → Prop), P (0, (clampR ro, 0 + 3, 0, false, one cS (sealL a) (sealL a).length)) → P (saveM (clampR ro, 0, 0, false, []) cS a) := fun P h => by rw [hsv]; exact h
  change SwapOut cS (sealL a) (sealL b) (saveM (fuseM (clampR ro, 0 + 3, 0, false, one cS (sealL a) (sealL a).length) fu) cS b) at hx
  have hf2 : ∀ (P : Int × DkT → Prop), P (saveM (fuseM (clampR ro, 0 + 3, 0, false, one cS (sealL a) (sealL a).length) fu) cS b) → P (saveM (fuseM (saveM (clampR ro, 0, 0, false, []) cS a).2 fu) cS b) := fun P h => by rw [hsv]; exact h
  generalize saveM (fuseM (clampR ro, 0 + 3, 0, false, one cS (sealL a) (sealL a).length) fu) cS b = x at hx hf2 o3
  have hla : a.length ≤ 9223372036854775807 := by omega
  have hlb : b.length ≤ 9223372036854775807 := by omega
  rcases hx with ⟨x1, x2, x3⟩ | ⟨x1, x2, x3⟩ | ⟨x1, x2, x3⟩
  · have hl := seal_load (keeps_read right_s.1 (x3 ▸ keeps_one cS (sealL b)) x2)
    obtain ⟨ps, p1, p2⟩ := sw_ok ro a b fu kp cad cbd (by omega) o0' (hf (fun x => (x.1 != 0) = false) rfl) (by omega) (hf (fun x => OkN (fuseM x.2 fu) 4611686018427387000) o2') (decide_eq_true rfl) hlb
      (hf2 (fun x => (x.1 != 0) = false) (by rw [x1]; rfl)) (hf2 (fun x => x.2.2.2.2.1 = false) x2) (hf2 (fun x => Okd x.2) o3.1) (hf2 (fun x => loadB x.2 cS) hl.1) (hf2 (fun x => (x.1 == 0) = true) (by rw [x1]; rfl))
      (hf2 (fun x => decide ((loadM x.2 cS).2 = b) = true) (by rw [hl.2]; exact decide_eq_true rfl)) (hf2 (fun x => (loadM x.2 cS).2.length ≤ 9223372036854775807) (by rw [hl.2]; exact hlb))
    exact ⟨_, gSw_ok, _, ps, p1, p2⟩
  · have hl := seal_load (keeps_read right_s.1 (x3 ▸ keeps_one cS (sealL a)) x2)
    obtain ⟨ps, p1, p2⟩ := sw_42 ro a b fu kp cad cbd (by omega) o0' (hf (fun x => (x.1 != 0) = false) rfl) (by omega) (hf (fun x => OkN (fuseM x.2 fu) 4611686018427387000) o2') (decide_eq_true rfl) hlb
      (hf2 (fun x => (x.1 != 0) = true) (by rw [x1]; rfl)) (hf2 (fun x => (x.1 != 2) = true) (by rw [x1]; rfl)) (hf2 (fun x => (x.1 != 42) = false) (by rw [x1]; rfl)) (hf2 (fun x => x.2.2.2.2.1 = false) x2) (hf2 (fun x => Okd x.2) o3.1) (hf2 (fun x => loadB x.2 cS) hl.1)
      (hf2 (fun x => (x.1 == 0) = false) (by rw [x1]; rfl)) (hf2 (fun x => decide ((loadM x.2 cS).2 = a) = true) (by rw [hl.2]; exact decide_eq_true rfl)) (hf2 (fun x => (loadM x.2 cS).2.length ≤ 9223372036854775807) (by rw [hl.2]; exact hla)) hla
    exact ⟨_, gSw_ok, _, ps, p1, p2⟩
  · have hc := crash_ok0 o3.1 kp
    have hl := seal_load (keeps_read right_s.1 (crash_keeps o3.1 x3 kp) rfl)
    rcases x1 with x1 | x1
    · obtain ⟨ps, p1, p2⟩ := sw_42d ro a b fu kp cad cbd (by omega) o0' (hf (fun x => (x.1 != 0) = false) rfl) (by omega) (hf (fun x => OkN (fuseM x.2 fu) 4611686018427387000) o2') (decide_eq_true rfl) hlb
        (hf2 (fun x => (x.1 != 0) = true) (by rw [x1]; rfl)) (hf2 (fun x => (x.1 != 2) = true) (by rw [x1]; rfl)) (hf2 (fun x => (x.1 != 42) = false) (by rw [x1]; rfl)) (hf2 (fun x => x.2.2.2.2.1 = true) x2) (by omega) (by omega) (hf2 (fun x => Okd x.2) o3.1)
        (hf2 (fun x => Okd (crashM x.2 kp)) hc) (hf2 (fun x => loadB (crashM x.2 kp) cS) hl.1)
        (hf2 (fun x => (x.1 == 0) = false) (by rw [x1]; rfl)) (hf2 (fun x => decide ((loadM (crashM x.2 kp) cS).2 = a) = true) (by rw [hl.2]; exact decide_eq_true rfl)) (hf2 (fun x => (loadM (crashM x.2 kp) cS).2.length ≤ 9223372036854775807) (by rw [hl.2]; exact hla)) hla
      exact ⟨_, gSw_ok, _, ps, p1, p2⟩
    · obtain ⟨ps, p1, p2⟩ := sw_2 ro a b fu kp cad cbd (by omega) o0' (hf (fun x => (x.1 != 0) = false) rfl) (by omega) (hf (fun x => OkN (fuseM x.2 fu) 4611686018427387000) o2') (decide_eq_true rfl) hlb
        (hf2 (fun x => (x.1 != 0) = true) (by rw [x1]; rfl)) (hf2 (fun x => (x.1 != 2) = false) (by rw [x1]; rfl)) (hf2 (fun x => x.2.2.2.2.1 = true) x2) (by omega) (by omega) (hf2 (fun x => Okd x.2) o3.1)
        (hf2 (fun x => Okd (crashM x.2 kp)) hc) (hf2 (fun x => loadB (crashM x.2 kp) cS) hl.1)
        (hf2 (fun x => (x.1 == 0) = false) (by rw [x1]; rfl)) (hf2 (fun x => decide ((loadM (crashM x.2 kp) cS).2 = a) = true) (by rw [hl.2]; exact decide_eq_true rfl)) (hf2 (fun x => (loadM (crashM x.2 kp) cS).2.length ≤ 9223372036854775807) (by rw [hl.2]; exact hla)) hla
      exact ⟨_, gSw_ok, _, ps, p1, p2⟩
end Go.Num
namespace Go.Laws
open Go.Abs Go.Proofs Go.Proofs.YtpjphlncockggaaDoor Go.ChangeShapes Go.WideShapes Go.ChangeAt Go.RowKit Go.Num
theorem own : ownKnob Tryd.prog.godebug = none := by kernel_rfl
theorem laidOut : laidOutB Tryd.prog = true := by kernel_rfl
theorem trodAll_below {H : Type} {enc : TypeId × Value → H} {P : Program} (hl : laidOutB P = true) {W W' : World} (hb : Below W.heap.size W W') :
    ∀ {ts : List TypeId} {vs : List Value} {ds : List (DataW H)} {ps : List MemPlace}, (ts.all fun t => P.readableRec t && decide (t < P.types.size)) = true →
      DataW.TrodAll enc P W 0 (fun _ => true) true ts vs ds ps → (∀ x ∈ ps, x.block < W.heap.size) → DataW.TrodAll enc P W' 0 (fun b => decide (b < W.heap.size)) true ts vs ds ps
  | [], [], [], _, _, h, _ => h
  | [], [], _ :: _, _, _, h, _ => h.elim
  | [], _ :: _, _, _, _, h, _ => h.elim
  | _ :: _, [], _, _, _, h, _ => h.elim
  | _ :: _, _ :: _, [], _, _, h, _ => h.elim
  | t :: ts, v :: vs, d :: ds, ps, hr, h, hlt => by
    obtain ⟨p, q, h1, h2, rfl⟩ := h
    simp only [List.all_cons, Bool.and_eq_true, decide_eq_true_eq] at hr
    exact ⟨p, q, Below.trod hl hr.1.1 hr.1.2 h1 hb (fun x hx => hlt x (List.mem_append_left _ hx)), trodAll_below hl hb (by simpa using hr.2) h2 (fun x hx => hlt x (List.mem_append_right _ hx)), rfl⟩
theorem law_post {H : Type} {enc : TypeId × Value → H} {P : Program} {fn : Func} {s : ChangeSpec} {W W' : World} {args : Array Value} {ds : List (DataW H)} {before : List MemPlace} {tb : TypeId} (hl : laidOutB P = true)
    (hp : (fn.params.toList.all fun t => P.readableRec t && decide (t < P.types.size)) = true) (hs : s.vars = []) (hfn : s.fn H (ds ++ []) = { results := [.lit (.bool true)], args := ds })
    (hr : fn.resultTypes = #[tb]) (htb : P.underlying tb = some .bool) (hW : DataW.Whole enc P fn.params.toList s.vars false W args.toList ds [] before) (hb : Below W.heap.size W W') :
    s.post enc P fn false true false false W args (.bool true) W' := by
  have hlt : ∀ p ∈ before, p.block < W.heap.size := fun p hp => hW.lt p hp
  obtain ⟨p, q, hA, hV, hpq, hfz, hnd⟩ := id hW
  have hq : q = [] := by
    rw [hs] at hV
    exact hV
  subst hq
  rw [List.append_nil] at hpq
  subst hpq
  refine ⟨ds, [], before, [], before, [], hW, ?_, ?_, ?_, World.keptBut_mono (fun x hx => ⟨hx, .inr (.inl hx)⟩) (hb.frame (· ∈ before)), fun h => by cases h⟩
  · rw [hfn, hr]
    exact trodAll_cons_mk (shut_bool htb _) trodAll_mk0
  · rw [hfn]
    exact trodAll_below hl hb hp hA hlt
  · rw [hfn, hs]
    rfl
theorem no_spot {W : World} {a : Addr} {v : Value} (h : W.cell? a = some v) : a.spot = none := by
  unfold World.cell? at h
  split at h
  · split at h
    · cases h
    · rename_i hsp
      simpa using hsp
  · cases h
theorem add_plain {a : Addr} (hs : a.spot = none) (i : Nat) : a.add i = ⟨a.block, a.off + i, none⟩ := by
  unfold Addr.add
  split
  · rename_i h0
    subst h0
    cases a
    simp only at hs
    subst hs
    rfl
  · rfl
theorem cells_words {H : Type} {enc : TypeId × Value → H} {P : Program} {W : World} {t e : TypeId} {k : IntKind} {fuel : Nat} {cs : List Value} {x : DataW H × List MemPlace} (ht : P.underlying t = some (.slice e)) (he : P.underlying e = some (.int k)) (hc : P.cellsOf e = 1)
    (h : DataW.trod enc P W 0 (fun _ => true) true fuel t cs = some x) (hr : ∀ n ∈ x.1.weights P t, n ≤ reachBytes) :
    ∃ (v : Value) (l : List Int), cs = [v] ∧ SlRel (fun _ => False) W k l v ∧ v.oneCell' = true ∧ (∀ n ∈ l, (Lit.int k n).wf = true) ∧ l.length * P.bytesOf e ≤ reachBytes ∧
      ((l = [] ∧ x.1 = .nil) ∨ ∃ rest, x.1 = .slice (lits k l) rest) := by
  rcases open_ints ht he hc h with ⟨h1, h2⟩ | ⟨a, len, cap, zs, h1, _, h3, h4, h5, h6, h7, h8⟩
  · exact ⟨.slice none 0 0, [], h1, ⟨none, 0, rfl, Nat.le_refl _, Nat.zero_le _, fun _ => rfl, (fun i hi => by cases hi)⟩, rfl, (fun n hn => by cases hn), by simp, .inl ⟨rfl, by rw [h2]⟩⟩
  · subst h6
    simp only [if_true] at h5
    have hl : (zs.take len).length = len := by rw [List.length_take]; omega
    refine ⟨_, zs.take len, h1, ⟨some a, cap, by rw [hl], by omega, h4, (fun h => by cases h), fun i hi => ?_⟩, rfl, fun n hn => h8 n (List.mem_of_mem_take hn), ?_, .inr ⟨_, rfl⟩⟩
    · rw [hl] at hi
      have h0 := h7 0 (by omega)
      rw [Addr.add, if_pos rfl] at h0
      have hs := no_spot h0
      have h9 := h7 i (by omega)
      rw [add_plain hs] at h9
      refine ⟨a.block, a.off, ?_, fun h => h, ?_⟩
      · cases a
        simp only at hs
        subst hs
        rfl
      · rw [h9]
        congr 2
        rw [List.getD_eq_getElem?_getD, List.getD_eq_getElem?_getD, List.getElem?_take_of_lt hi]
    · have h10 := hr ((zs.take len).length * P.bytesOf e + (zs.drop len).length * P.bytesOf e) (by simp only [DataW.weights, ht, lits, List.length_map, Nat.add_mul]; exact List.mem_cons_self ..)
      omega
theorem open_words {H : Type} {enc : TypeId × Value → H} {P : Program} {W : World} {base : Nat} {t e : TypeId} {k : IntKind} {v : Value} {d : DataW H} {ps : List MemPlace} (ht : P.underlying t = some (.slice e)) (he : P.underlying e = some (.int k)) (hc : P.cellsOf e = 1)
    (hval : Value.okWide P W .any base t v) (hd : DataW.Trod enc P W 0 (fun _ => true) true t v d ps) (hr : ∀ n ∈ d.weights P t, n ≤ reachBytes) :
    ∃ l : List Int, SlRel (fun _ => False) W k l v ∧ v.oneCell' = true ∧ (∀ n ∈ l, (Lit.int k n).wf = true) ∧ l.length * P.bytesOf e ≤ reachBytes ∧ ((l = [] ∧ d = .nil) ∨ ∃ rest, d = .slice (lits k l) rest) := by
  obtain ⟨a0, len, cap, rfl⟩ := okWide_slice ht hval
  obtain ⟨fuel, hf⟩ := hd
  obtain ⟨v, l, h1, h2, h3, h4, h5, h6⟩ := cells_words ht he hc hf hr
  have h1' : [Value.slice a0 len cap] = [v] := h1
  simp only [List.cons.injEq, and_true] at h1'
  subst h1'
  exact ⟨l, h2, h3, h4, h5, h6⟩
theorem wf_u8 {n : Int} (h : (Lit.int .u8 n).wf = true) : 0 ≤ n ∧ n < 256 := by
  have h1 : IntKind.u8.min = 0 := rfl
  have h2 : IntKind.u8.max = 255 := rfl
  simp only [Lit.wf, Bool.and_eq_true, decide_eq_true_eq] at h
  omega
theorem wf_i64 {n : Int} (h : (Lit.int .i64 n).wf = true) : -9223372036854775808 ≤ n ∧ n ≤ 9223372036854775807 := by
  have h1 : IntKind.i64.min = -9223372036854775808 := rfl
  have h2 : IntKind.i64.max = 9223372036854775807 := rfl
  simp only [Lit.wf, Bool.and_eq_true, decide_eq_true_eq] at h
  omega
theorem one_words {D : Dom} {W : World} {k : IntKind} {l : List Int} {v : Value} (h : SlRel (fun _ => False) W k l v) (h1 : v.oneCell' = true) : A0Rel D (cenv W) (.one (.words k l)) v := ⟨h1, v, rfl, _, W, .inl ⟨rfl, rfl⟩, h⟩
theorem one_num {D : Dom} {W : World} {k : IntKind} {b : Bool} {n : Int} : A0Rel D (cenv W) (.one (.int k b n)) (.int k n) := ⟨rfl, rfl⟩
theorem rel_nil {D : Dom} {E : Env} : A0sRel D E [] [] := rfl
theorem rel_cons {D : Dom} {E : Env} {a : A0 D.τ} {v : Value} {xs : List (A0 D.τ)} {vs : List Value} (h : A0Rel D E a v) (k : A0sRel D E xs vs) : A0sRel D E (a :: xs) (v :: vs) := ⟨v, vs, rfl, h, k⟩
theorem law_calls {P : Program} {D : Dom} {Γ : Gam D} (hΓ : GamOK P D Γ) (hm : P.follows .mixedOrders = true) {f : FuncId} {fn : Func} (hf : P.funcs[f]? = some fn) {fuel : Nat} {xs : List (A0 D.τ)} {ds : List (Dec D.τ)} {b : Bool} {ps : List Prop}
    (h : runF P D Γ fuel fn xs ds = some (.v (.one (.bool b true)), ps)) (hps : AllQ ps) {W : World} {vs : List Value} (hG : GlobAt D W) (hx : A0sRel D (cenv W) xs vs) :
    Calls P f vs.toArray W fun e w' => e = .returned (.bool true) ∧ Below W.heap.size W w' := by
  refine (runF_calls hΓ hm hf h hps hG hx).mono ?_
  rintro e w' ⟨v, he, ⟨ν, _, hr⟩, hb⟩
  have hv : v = .bool true := by
    obtain ⟨_, h2⟩ := hr
    simpa [PartRel] using h2
  subst hv
  exact ⟨he, hb⟩
end Go.Laws
namespace Go.Laws
open Go.Abs Go.Proofs Go.Proofs.YtpjphlncockggaaDoor Go.RowKit Go.Num
theorem gFirst : Tryd.prog.globalNamed "cresset/sha.first" = some 0 := by kernel_rfl
theorem gRoots : Tryd.prog.globalNamed "cresset/sha.roots" = some 1 := by kernel_rfl
theorem tFirst : (Tryd.prog.globals[0]?).map (·.type) = some 77 := by kernel_rfl
theorem tRoots : (Tryd.prog.globals[1]?).map (·.type) = some 94 := by kernel_rfl
theorem globAt {W : World} (h : laidMet Tryd.prog [("cresset/sha.first", Rows.laid_cresset_sha_first), ("cresset/sha.roots", Rows.laid_cresset_sha_roots)] W) : GlobAt DS W := by
  have h1 : Lib.TabIs Tryd.prog W "cresset/sha.first" .u32 firstL := Lib.tabIs_of_head gFirst tFirst Tryd.underlying77 Tryd.underlying68 (by kernel_rfl) (by kernel_rfl) h
  have h2 : Lib.TabIs Tryd.prog W "cresset/sha.roots" .u32 rootsL := Lib.tabIs_of_head gRoots tRoots Tryd.underlying94 Tryd.underlying68 (by kernel_rfl) (by kernel_rfl) (laidMet.tail h)
  have put : ∀ {g : Nat} {name : String} {l : List Int}, Tryd.prog.globalNamed name = some g → Lib.TabIs Tryd.prog W name .u32 l → 0 < l.length → g < W.heap.size ∧ ∀ i, i < l.length → W.cell? ⟨g, i, none⟩ = some (.int .u32 (l.getD i 0)) := by
    intro g name l hg ht hl
    refine ⟨?_, fun i hi => ht.cell hg i hi⟩
    have h0 := ht.cell hg 0 hl
    unfold World.cell? at h0
    split at h0
    · rename_i hh
      exact (Array.getElem?_eq_some_iff.1 hh).1
    · cases h0
  intro g k l hg
  have hg : (bif Nat.beq g 0 then some (IntKind.u32, firstL) else bif Nat.beq g 1 then some (IntKind.u32, rootsL) else none) = some (k, l) := hg
  cases e1 : Nat.beq g 0 <;> rw [e1] at hg
  · cases e2 : Nat.beq g 1 <;> rw [e2] at hg
    · cases hg
    · simp only [cond_false, cond_true, Option.some.injEq, Prod.mk.injEq] at hg
      obtain ⟨rfl, rfl⟩ := hg
      obtain rfl := Nat.eq_of_beq_eq_true e2
      exact put gRoots h2 (by decide)
  · simp only [cond_true, Option.some.injEq, Prod.mk.injEq] at hg
    obtain ⟨rfl, rfl⟩ := hg
    obtain rfl := Nat.eq_of_beq_eq_true e1
    exact put gFirst h1 (by decide)
def layTab (l : List Int) : Obj → Obj
  | .cells _ t frozen => .cells (l.map (.int .u32)).toArray t frozen
  | o => o
noncomputable def laidWorld (os : Os) : World :=
  { World.holding Tryd.prog os ⟨#[], #[], []⟩ with heap := ((World.holding Tryd.prog os ⟨#[], #[], []⟩).heap.modify 0 (layTab firstL)).modify 1 (layTab rootsL) }
end Go.Laws
