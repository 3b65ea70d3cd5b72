/- Several texts put together: Fl11 Frame Glob. -/
import Derived.Test.YtpjphlncockggaaDoorMrg11
import Derived.Test.YtpjphlncockggaaDoorRows
import Derived.WalkKit
import Derived.ProofKit
import Derived.OpenShut
import Derived.ShutString
import Derived.SizedLaws
import Derived.Carry
import Derived.Stop.LaidErr
import Derived.Lib.LaidTab
namespace Go.Num
open Go.Abs Go.Proofs Go.Shelf Go.RowKit
abbrev cVt : ByteArray := ⟨#[118, 111, 116, 101]⟩
noncomputable def gFt (L : List (BoxSt DF.τ) → List (A0 DF.τ) → Option (AV DF.τ × List (BoxSt DF.τ) × List Prop)) : Gam DF := [(softId, .fn fun _ => none), (6, .fn headFD), (7, .op [false] newQ), (9, .fz (copyD DF)), (13, .fn (sameD DF)), (14, .fn rfD), (8, .op [true, false, true] saveQ),
  (10, .rd [true] image1R), (11, .op [false, true] mount1Q), (12, .rd [true, false] L)]
noncomputable def gFtO := gFt loadOkR
noncomputable def gFtN := gFt loadNoR
abbrev ftX (b : List Int) (at_ to : Int) : List (A0 DF.τ) := [.one (.words .u8 b), .one (.int .i64 false at_), .one (.int .u8 false to)]
theorem ft_big (b : List Int) (at_ to : Int)
 (h1 : ((decide ((((List.length b) : Nat) : Int) > (4096 : Int))) = true)) :
 ∃ ps, runF Tryd.prog DF gFtO 100 Tryd.f3 (ftX b at_ to) [.is true] = some ((AV.v (A0.one (Part.bool true true))), ps) ∧ AllQ ps := ⟨_, by kernel_rfl, qc h1 (qn)⟩
abbrev ft_neg_x1 (b : List Int) := ((saveM ((clampR (4194304 : Int)), ((0 : Int), ((0 : Int), (false, ([] : List (Rec × Ob)))))) (⟨#[118, 111, 116, 101]⟩ : ByteArray) b))
theorem ft_neg (b : List Int) (at_ to : Int)
 (h1 : ((decide ((((List.length b) : Nat) : Int) > (4096 : Int))) = false))
 (h2 : ((List.length b) ≤ (281474976710656 : Nat)))
 (h3 : (OkN ((clampR (4194304 : Int)), ((0 : Int), ((0 : Int), (false, ([] : List (Rec × Ob)))))) (4611686018427387000 : Int)))
 (h4 : (((ft_neg_x1 b).1 != (0 : Int)) = false))
 (h5 : (Okd (ft_neg_x1 b).2))
 (h6 : ((List.length (sortK (((((ft_neg_x1 b).2).2).2).2).2)) = (1 : Nat)))
 (h7 : (InI64 ((32 : Int) + (((List.length b) : Nat) : Int))))
 (h8 : (((((List.length (obD (obE (((((ft_neg_x1 b).2).2).2).2).2 [(Fd.s (nm1 (ft_neg_x1 b).2))]))) : Nat) : Int) != ((32 : Int) + (((List.length b) : Nat) : Int))) = false))
 (h9 : ((decide (at_ < (0 : Int))) = true)) :
 ∃ ps, runF Tryd.prog DF gFtO 100 Tryd.f3 (ftX b at_ to) [.is false, .is false, .is false, .is true] = some ((AV.v (A0.one (Part.bool (true && true) ((1 : Int) == (1 : Int))))), ps) ∧ AllQ ps := ⟨_, by kernel_rfl, qc h1 (qc (Eq.refl ((4194304 : Int))) (qc h2 (qc (Eq.refl ((⟨#[118, 111, 116, 101]⟩ : ByteArray))) (qc (Eq.refl b) (qc (Eq.refl ((clampR (4194304 : Int)))) (qc (Eq.refl ((0 : Int))) (qc (Eq.refl ((0 : Int))) (qc (Eq.refl false) (qc (Eq.refl (([] : List (Rec × Ob)))) (qc h3 (qc (show ((4 : Nat) ≤ (9223372036854775000 : Nat)) from by decide) (qc h4 (qc (Eq.refl (((ft_neg_x1 b).2).1)) (qc (Eq.refl ((((ft_neg_x1 b).2).2).1)) (qc (Eq.refl (((((ft_neg_x1 b).2).2).2).1)) (qc (Eq.refl ((((((ft_neg_x1 b).2).2).2).2).1)) (qc (Eq.refl ((((((ft_neg_x1 b).2).2).2).2).2)) (qc h5 (qc h6 (qc (Eq.refl ((0 : Int))) (qc h7 (qc h8 (qc h9 (qn))))))))))))))))))))))))⟩
abbrev ft_over_x1 (b : List Int) := ((saveM ((clampR (4194304 : Int)), ((0 : Int), ((0 : Int), (false, ([] : List (Rec × Ob)))))) (⟨#[118, 111, 116, 101]⟩ : ByteArray) b))
theorem ft_over (b : List Int) (at_ to : Int)
 (h1 : ((decide ((((List.length b) : Nat) : Int) > (4096 : Int))) = false))
 (h2 : ((List.length b) ≤ (281474976710656 : Nat)))
 (h3 : (OkN ((clampR (4194304 : Int)), ((0 : Int), ((0 : Int), (false, ([] : List (Rec × Ob)))))) (4611686018427387000 : Int)))
 (h4 : (((ft_over_x1 b).1 != (0 : Int)) = false))
 (h5 : (Okd (ft_over_x1 b).2))
 (h6 : ((List.length (sortK (((((ft_over_x1 b).2).2).2).2).2)) = (1 : Nat)))
 (h7 : (InI64 ((32 : Int) + (((List.length b) : Nat) : Int))))
 (h8 : (((((List.length (obD (obE (((((ft_over_x1 b).2).2).2).2).2 [(Fd.s (nm1 (ft_over_x1 b).2))]))) : Nat) : Int) != ((32 : Int) + (((List.length b) : Nat) : Int))) = false))
 (h9 : ((decide (at_ < (0 : Int))) = false))
 (h10 : ((decide (at_ ≥ (((List.length (obD (obE (((((ft_over_x1 b).2).2).2).2).2 [(Fd.s (nm1 (ft_over_x1 b).2))]))) : Nat) : Int))) = true)) :
 ∃ ps, runF Tryd.prog DF gFtO 100 Tryd.f3 (ftX b at_ to) [.is false, .is false, .is false, .is false, .is true] = some ((AV.v (A0.one (Part.bool (true && true) ((1 : Int) == (1 : Int))))), ps) ∧ AllQ ps := ⟨_, by kernel_rfl, qc h1 (qc (Eq.refl ((4194304 : Int))) (qc h2 (qc (Eq.refl ((⟨#[118, 111, 116, 101]⟩ : ByteArray))) (qc (Eq.refl b) (qc (Eq.refl ((clampR (4194304 : Int)))) (qc (Eq.refl ((0 : Int))) (qc (Eq.refl ((0 : Int))) (qc (Eq.refl false) (qc (Eq.refl (([] : List (Rec × Ob)))) (qc h3 (qc (show ((4 : Nat) ≤ (9223372036854775000 : Nat)) from by decide) (qc h4 (qc (Eq.refl (((ft_over_x1 b).2).1)) (qc (Eq.refl ((((ft_over_x1 b).2).2).1)) (qc (Eq.refl (((((ft_over_x1 b).2).2).2).1)) (qc (Eq.refl ((((((ft_over_x1 b).2).2).2).2).1)) (qc (Eq.refl ((((((ft_over_x1 b).2).2).2).2).2)) (qc h5 (qc h6 (qc (Eq.refl ((0 : Int))) (qc h7 (qc h8 (qc h9 (qc (Eq.refl ((0 : Int))) (qc h10 (qn))))))))))))))))))))))))))⟩
abbrev ft_same_x1 (b : List Int) := ((saveM ((clampR (4194304 : Int)), ((0 : Int), ((0 : Int), (false, ([] : List (Rec × Ob)))))) (⟨#[118, 111, 116, 101]⟩ : ByteArray) b))
abbrev ft_same_x2 (b : List Int) := (obD (obE (((((ft_same_x1 b).2).2).2).2).2 [(Fd.s (nm1 (ft_same_x1 b).2))]))
theorem ft_same (b : List Int) (at_ to : Int)
 (h1 : ((decide ((((List.length b) : Nat) : Int) > (4096 : Int))) = false))
 (h2 : ((List.length b) ≤ (281474976710656 : Nat)))
 (h3 : (OkN ((clampR (4194304 : Int)), ((0 : Int), ((0 : Int), (false, ([] : List (Rec × Ob)))))) (4611686018427387000 : Int)))
 (h4 : (((ft_same_x1 b).1 != (0 : Int)) = false))
 (h5 : (Okd (ft_same_x1 b).2))
 (h6 : ((List.length (sortK (((((ft_same_x1 b).2).2).2).2).2)) = (1 : Nat)))
 (h7 : (InI64 ((32 : Int) + (((List.length b) : Nat) : Int))))
 (h8 : (((((List.length (ft_same_x2 b)) : Nat) : Int) != ((32 : Int) + (((List.length b) : Nat) : Int))) = false))
 (h9 : ((decide (at_ < (0 : Int))) = false))
 (h10 : ((decide (at_ ≥ (((List.length (ft_same_x2 b)) : Nat) : Int))) = false))
 (h11 : ((0 : Int) ≤ at_))
 (h12 : (at_ < (((List.length (ft_same_x2 b)) : Nat) : Int)))
 (h13 : ((Int.toNat at_) < (List.length (ft_same_x2 b))))
 (h14 : (((List.getD (ft_same_x2 b) (Int.toNat at_) (0 : Int)) == to) = true)) :
 ∃ ps, runF Tryd.prog DF gFtO 100 Tryd.f3 (ftX b at_ to) [.is false, .is false, .is false, .is false, .is false, .is true] = some ((AV.v (A0.one (Part.bool (true && true) ((1 : Int) == (1 : Int))))), ps) ∧ AllQ ps := ⟨_, by kernel_rfl, qc h1 (qc (Eq.refl ((4194304 : Int))) (qc h2 (qc (Eq.refl ((⟨#[118, 111, 116, 101]⟩ : ByteArray))) (qc (Eq.refl b) (qc (Eq.refl ((clampR (4194304 : Int)))) (qc (Eq.refl ((0 : Int))) (qc (Eq.refl ((0 : Int))) (qc (Eq.refl false) (qc (Eq.refl (([] : List (Rec × Ob)))) (qc h3 (qc (show ((4 : Nat) ≤ (9223372036854775000 : Nat)) from by decide) (qc h4 (qc (Eq.refl (((ft_same_x1 b).2).1)) (qc (Eq.refl ((((ft_same_x1 b).2).2).1)) (qc (Eq.refl (((((ft_same_x1 b).2).2).2).1)) (qc (Eq.refl ((((((ft_same_x1 b).2).2).2).2).1)) (qc (Eq.refl ((((((ft_same_x1 b).2).2).2).2).2)) (qc h5 (qc h6 (qc (Eq.refl ((0 : Int))) (qc h7 (qc h8 (qc h9 (qc (Eq.refl ((0 : Int))) (qc h10 (qc (Eq.refl ((0 : Int))) (qc h11 (qc h12 (qc h13 (qc h14 (qn)))))))))))))))))))))))))))))))⟩
abbrev ft_hit_x1 (b : List Int) := ((saveM ((clampR (4194304 : Int)), ((0 : Int), ((0 : Int), (false, ([] : List (Rec × Ob)))))) (⟨#[118, 111, 116, 101]⟩ : ByteArray) b))
abbrev ft_hit_x2 (b : List Int) := (obE (((((ft_hit_x1 b).2).2).2).2).2 [(Fd.s (nm1 (ft_hit_x1 b).2))])
abbrev ft_hit_x3 (b : List Int) (at_ to : Int) := (List.length (List.set (obD (ft_hit_x2 b)) (Int.toNat at_) to))
theorem ft_hit (b : List Int) (at_ to : Int)
 (h1 : ((decide ((((List.length b) : Nat) : Int) > (4096 : Int))) = false))
 (h2 : ((List.length b) ≤ (281474976710656 : Nat)))
 (h3 : (OkN ((clampR (4194304 : Int)), ((0 : Int), ((0 : Int), (false, ([] : List (Rec × Ob)))))) (4611686018427387000 : Int)))
 (h4 : (((ft_hit_x1 b).1 != (0 : Int)) = false))
 (h5 : (Okd (ft_hit_x1 b).2))
 (h6 : ((List.length (sortK (((((ft_hit_x1 b).2).2).2).2).2)) = (1 : Nat)))
 (h7 : (InI64 ((32 : Int) + (((List.length b) : Nat) : Int))))
 (h8 : (((((List.length (obD (ft_hit_x2 b))) : Nat) : Int) != ((32 : Int) + (((List.length b) : Nat) : Int))) = false))
 (h9 : ((decide (at_ < (0 : Int))) = false))
 (h10 : ((decide (at_ ≥ (((List.length (obD (ft_hit_x2 b))) : Nat) : Int))) = false))
 (h11 : ((0 : Int) ≤ at_))
 (h12 : (at_ < (((List.length (obD (ft_hit_x2 b))) : Nat) : Int)))
 (h13 : ((Int.toNat at_) < (List.length (obD (ft_hit_x2 b)))))
 (h14 : (((List.getD (obD (ft_hit_x2 b)) (Int.toNat at_) (0 : Int)) == to) = false))
 (h15 : ((rightB (nm1 (ft_hit_x1 b).2)) = true))
 (h16 : ((0 : Int) ≤ (obS (ft_hit_x2 b))))
 (h17 : ((obS (ft_hit_x2 b)) ≤ (((ft_hit_x3 b at_ to) : Nat) : Int)))
 (h18 : ((obS (ft_hit_x2 b)) ≤ (clampR (4194304 : Int))))
 (h19 : ((ft_hit_x3 b at_ to) ≤ (140737488355328 : Nat)))
 (h20 : (Okd ((clampR (4194304 : Int)), ((0 : Int), ((0 : Int), (false, (one (nm1 (ft_hit_x1 b).2) (List.set (obD (ft_hit_x2 b)) (Int.toNat at_) to) (obS (ft_hit_x2 b)))))))))
 (h21 : (loadB ((clampR (4194304 : Int)), ((0 : Int), ((0 : Int), (false, (one (nm1 (ft_hit_x1 b).2) (List.set (obD (ft_hit_x2 b)) (Int.toNat at_) to) (obS (ft_hit_x2 b))))))) (⟨#[118, 111, 116, 101]⟩ : ByteArray)))
 (h22 : ((0 : Nat) < (ft_hit_x3 b at_ to)))
 (h23 : ((32 : Int) ≤ (((ft_hit_x3 b at_ to) : Nat) : Int)))
 (h24 : ((((ft_hit_x3 b at_ to) : Nat) : Int) ≤ (((ft_hit_x3 b at_ to) : Nat) : Int)))
 (h25 : ((32 : Int) < (((ft_hit_x3 b at_ to) : Nat) : Int)))
 (h26 : ((List.length (List.take ((Int.toNat (((ft_hit_x3 b at_ to) : Nat) : Int)) - (32 : Nat)) (List.drop (32 : Nat) (List.set (obD (ft_hit_x2 b)) (Int.toNat at_) to)))) ≤ (140737488351232 : Nat)))
 (h27 : ((0 : Int) < (((ft_hit_x3 b at_ to) : Nat) : Int)))
 (h28 : ((decide ((rfSum (List.take ((Int.toNat (((ft_hit_x3 b at_ to) : Nat) : Int)) - (32 : Nat)) (List.drop (32 : Nat) (List.set (obD (ft_hit_x2 b)) (Int.toNat at_) to)))) = (List.take ((32 : Nat) - (0 : Nat)) (List.drop (0 : Nat) (List.set (obD (ft_hit_x2 b)) (Int.toNat at_) to))))) = true))
 (h29 : ((List.length (rfSum (List.take ((Int.toNat (((ft_hit_x3 b at_ to) : Nat) : Int)) - (32 : Nat)) (List.drop (32 : Nat) (List.set (obD (ft_hit_x2 b)) (Int.toNat at_) to))))) ≤ (9223372036854775807 : Nat)))
 (h30 : ((List.length (List.take ((32 : Nat) - (0 : Nat)) (List.drop (0 : Nat) (List.set (obD (ft_hit_x2 b)) (Int.toNat at_) to)))) ≤ (9223372036854775807 : Nat))) :
 ∃ ps, runF Tryd.prog DF gFtO 100 Tryd.f3 (ftX b at_ to) [.is false, .is false, .is false, .is false, .is false, .is false, .is true] = some ((AV.v (A0.one (Part.bool true true))), ps) ∧ AllQ ps := ⟨_, by kernel_rfl, qc h1 (qc (Eq.refl ((4194304 : Int))) (qc h2 (qc (Eq.refl ((⟨#[118, 111, 116, 101]⟩ : ByteArray))) (qc (Eq.refl b) (qc (Eq.refl ((clampR (4194304 : Int)))) (qc (Eq.refl ((0 : Int))) (qc (Eq.refl ((0 : Int))) (qc (Eq.refl false) (qc (Eq.refl (([] : List (Rec × Ob)))) (qc h3 (qc (show ((4 : Nat) ≤ (9223372036854775000 : Nat)) from by decide) (qc h4 (qc (Eq.refl (((ft_hit_x1 b).2).1)) (qc (Eq.refl ((((ft_hit_x1 b).2).2).1)) (qc (Eq.refl (((((ft_hit_x1 b).2).2).2).1)) (qc (Eq.refl ((((((ft_hit_x1 b).2).2).2).2).1)) (qc (Eq.refl ((((((ft_hit_x1 b).2).2).2).2).2)) (qc h5 (qc h6 (qc (Eq.refl ((0 : Int))) (qc h7 (qc h8 (qc h9 (qc (Eq.refl ((0 : Int))) (qc h10 (qc (Eq.refl ((0 : Int))) (qc h11 (qc h12 (qc h13 (qc h14 (qc (Eq.refl ((0 : Int))) (qc h11 (qc h12 (qc h13 (qc (Eq.refl ((some (1 : Nat)))) (qc (Eq.refl ((4194304 : Int))) (qc (Eq.refl ((nm1 (ft_hit_x1 b).2))) (qc (Eq.refl ((obS (ft_hit_x2 b)))) (qc (Eq.refl ((List.set (obD (ft_hit_x2 b)) (Int.toNat at_) to))) (qc h15 (qc h16 (qc h17 (qc h18 (qc h19 (qc (Eq.refl ((⟨#[118, 111, 116, 101]⟩ : ByteArray))) (qc (Eq.refl ((clampR (4194304 : Int)))) (qc (Eq.refl ((0 : Int))) (qc (Eq.refl ((0 : Int))) (qc (Eq.refl false) (qc (Eq.refl ((one (nm1 (ft_hit_x1 b).2) (List.set (obD (ft_hit_x2 b)) (Int.toNat at_) to) (obS (ft_hit_x2 b))))) (qc h20 (qc (show ((4 : Nat) ≤ (9223372036854775807 : Nat)) from by decide) (qc h21 (qc (Eq.refl ((0 : Int))) (qc h22 (qc (show ((0 : Int) ≤ (32 : Int)) from by decide) (qc h23 (qc h24 (qc h25 (qc h26 (qc (Eq.refl ((0 : Int))) (qc h22 (qc (show ((0 : Int) ≤ (0 : Int)) from by decide) (qc (show ((0 : Int) ≤ (32 : Int)) from by decide) (qc h23 (qc h27 (qc h28 (qc h29 (qc h30 (qn))))))))))))))))))))))))))))))))))))))))))))))))))))))))))))))))))))))⟩
abbrev ft_no_x1 (b : List Int) := ((saveM ((clampR (4194304 : Int)), ((0 : Int), ((0 : Int), (false, ([] : List (Rec × Ob)))))) (⟨#[118, 111, 116, 101]⟩ : ByteArray) b))
abbrev ft_no_x2 (b : List Int) := (obE (((((ft_no_x1 b).2).2).2).2).2 [(Fd.s (nm1 (ft_no_x1 b).2))])
abbrev ft_no_x3 (b : List Int) (at_ to : Int) := (List.length (List.set (obD (ft_no_x2 b)) (Int.toNat at_) to))
abbrev ft_no_x4 (b : List Int) (at_ to : Int) := (one (nm1 (ft_no_x1 b).2) (List.set (obD (ft_no_x2 b)) (Int.toNat at_) to) (obS (ft_no_x2 b)))
abbrev ft_no_x5  := (⟨#[118, 111, 116, 101]⟩ : ByteArray)
theorem ft_no (b : List Int) (at_ to : Int)
 (h1 : ((decide ((((List.length b) : Nat) : Int) > (4096 : Int))) = false))
 (h2 : ((List.length b) ≤ (281474976710656 : Nat)))
 (h3 : (OkN ((clampR (4194304 : Int)), ((0 : Int), ((0 : Int), (false, ([] : List (Rec × Ob)))))) (4611686018427387000 : Int)))
 (h4 : (((ft_no_x1 b).1 != (0 : Int)) = false))
 (h5 : (Okd (ft_no_x1 b).2))
 (h6 : ((List.length (sortK (((((ft_no_x1 b).2).2).2).2).2)) = (1 : Nat)))
 (h7 : (InI64 ((32 : Int) + (((List.length b) : Nat) : Int))))
 (h8 : (((((List.length (obD (ft_no_x2 b))) : Nat) : Int) != ((32 : Int) + (((List.length b) : Nat) : Int))) = false))
 (h9 : ((decide (at_ < (0 : Int))) = false))
 (h10 : ((decide (at_ ≥ (((List.length (obD (ft_no_x2 b))) : Nat) : Int))) = false))
 (h11 : ((0 : Int) ≤ at_))
 (h12 : (at_ < (((List.length (obD (ft_no_x2 b))) : Nat) : Int)))
 (h13 : ((Int.toNat at_) < (List.length (obD (ft_no_x2 b)))))
 (h14 : (((List.getD (obD (ft_no_x2 b)) (Int.toNat at_) (0 : Int)) == to) = false))
 (h15 : ((rightB (nm1 (ft_no_x1 b).2)) = true))
 (h16 : ((0 : Int) ≤ (obS (ft_no_x2 b))))
 (h17 : ((obS (ft_no_x2 b)) ≤ (((ft_no_x3 b at_ to) : Nat) : Int)))
 (h18 : ((obS (ft_no_x2 b)) ≤ (clampR (4194304 : Int))))
 (h19 : ((ft_no_x3 b at_ to) ≤ (140737488355328 : Nat)))
 (h20 : (Okd ((clampR (4194304 : Int)), ((0 : Int), ((0 : Int), (false, (ft_no_x4 b at_ to)))))))
 (h21 : (¬ (loadB ((clampR (4194304 : Int)), ((0 : Int), ((0 : Int), (false, (ft_no_x4 b at_ to))))) (ft_no_x5 ))))
 (h22 : ((0 : Nat) < (ft_no_x3 b at_ to)))
 (h23 : ((32 : Int) ≤ (((ft_no_x3 b at_ to) : Nat) : Int)))
 (h24 : ((((ft_no_x3 b at_ to) : Nat) : Int) ≤ (((ft_no_x3 b at_ to) : Nat) : Int)))
 (h25 : ((32 : Int) < (((ft_no_x3 b at_ to) : Nat) : Int)))
 (h26 : ((List.length (List.take ((Int.toNat (((ft_no_x3 b at_ to) : Nat) : Int)) - (32 : Nat)) (List.drop (32 : Nat) (List.set (obD (ft_no_x2 b)) (Int.toNat at_) to)))) ≤ (140737488351232 : Nat)))
 (h27 : ((0 : Int) < (((ft_no_x3 b at_ to) : Nat) : Int)))
 (h28 : ((decide ((rfSum (List.take ((Int.toNat (((ft_no_x3 b at_ to) : Nat) : Int)) - (32 : Nat)) (List.drop (32 : Nat) (List.set (obD (ft_no_x2 b)) (Int.toNat at_) to)))) = (List.take ((32 : Nat) - (0 : Nat)) (List.drop (0 : Nat) (List.set (obD (ft_no_x2 b)) (Int.toNat at_) to))))) = false))
 (h29 : ((List.length (rfSum (List.take ((Int.toNat (((ft_no_x3 b at_ to) : Nat) : Int)) - (32 : Nat)) (List.drop (32 : Nat) (List.set (obD (ft_no_x2 b)) (Int.toNat at_) to))))) ≤ (9223372036854775807 : Nat)))
 (h30 : ((List.length (List.take ((32 : Nat) - (0 : Nat)) (List.drop (0 : Nat) (List.set (obD (ft_no_x2 b)) (Int.toNat at_) to)))) ≤ (9223372036854775807 : Nat)))
 (h31 : ((((loadM ((clampR (4194304 : Int)), ((0 : Int), ((0 : Int), (false, (ft_no_x4 b at_ to))))) (ft_no_x5 ))).1 == (44 : Int)) = true)) :
 ∃ ps, runF Tryd.prog DF gFtN 100 Tryd.f3 (ftX b at_ to) [.is false, .is false, .is false, .is false, .is false, .is false, .is false, .is true] = some ((AV.v (A0.one (Part.bool (true && true) ((0 : Int) == (0 : Int))))), ps) ∧ AllQ ps := ⟨_, by kernel_rfl, qc h1 (qc (Eq.refl ((4194304 : Int))) (qc h2 (qc (Eq.refl ((ft_no_x5 ))) (qc (Eq.refl b) (qc (Eq.refl ((clampR (4194304 : Int)))) (qc (Eq.refl ((0 : Int))) (qc (Eq.refl ((0 : Int))) (qc (Eq.refl false) (qc (Eq.refl (([] : List (Rec × Ob)))) (qc h3 (qc (show ((4 : Nat) ≤ (9223372036854775000 : Nat)) from by decide) (qc h4 (qc (Eq.refl (((ft_no_x1 b).2).1)) (qc (Eq.refl ((((ft_no_x1 b).2).2).1)) (qc (Eq.refl (((((ft_no_x1 b).2).2).2).1)) (qc (Eq.refl ((((((ft_no_x1 b).2).2).2).2).1)) (qc (Eq.refl ((((((ft_no_x1 b).2).2).2).2).2)) (qc h5 (qc h6 (qc (Eq.refl ((0 : Int))) (qc h7 (qc h8 (qc h9 (qc (Eq.refl ((0 : Int))) (qc h10 (qc (Eq.refl ((0 : Int))) (qc h11 (qc h12 (qc h13 (qc h14 (qc (Eq.refl ((0 : Int))) (qc h11 (qc h12 (qc h13 (qc (Eq.refl ((some (1 : Nat)))) (qc (Eq.refl ((4194304 : Int))) (qc (Eq.refl ((nm1 (ft_no_x1 b).2))) (qc (Eq.refl ((obS (ft_no_x2 b)))) (qc (Eq.refl ((List.set (obD (ft_no_x2 b)) (Int.toNat at_) to))) (qc h15 (qc h16 (qc h17 (qc h18 (qc h19 (qc (Eq.refl ((ft_no_x5 ))) (qc (Eq.refl ((clampR (4194304 : Int)))) (qc (Eq.refl ((0 : Int))) (qc (Eq.refl ((0 : Int))) (qc (Eq.refl false) (qc (Eq.refl ((ft_no_x4 b at_ to))) (qc h20 (qc (show ((4 : Nat) ≤ (9223372036854775807 : Nat)) from by decide) (qc h21 (qc (Eq.refl ((0 : Int))) (qc h22 (qc (show ((0 : Int) ≤ (32 : Int)) from by decide) (qc h23 (qc h24 (qc h25 (qc h26 (qc (Eq.refl ((0 : Int))) (qc h22 (qc (show ((0 : Int) ≤ (0 : Int)) from by decide) (qc (show ((0 : Int) ≤ (32 : Int)) from by decide) (qc h23 (qc h27 (qc h28 (qc h29 (qc h30 (qc h31 (qn)))))))))))))))))))))))))))))))))))))))))))))))))))))))))))))))))))))))⟩
noncomputable def gFtEO : Gam DF := (endId, .fn (freezeD DF [90])) :: gFtO
noncomputable def gFtEN : Gam DF := (endId, .fn (freezeD DF [90])) :: gFtN
abbrev ft_hitE_x1 (b : List Int) := ((saveM ((clampR (4194304 : Int)), ((0 : Int), ((0 : Int), (false, ([] : List (Rec × Ob)))))) (⟨#[118, 111, 116, 101]⟩ : ByteArray) b))
abbrev ft_hitE_x2 (b : List Int) := (obE (((((ft_hitE_x1 b).2).2).2).2).2 [(Fd.s (nm1 (ft_hitE_x1 b).2))])
theorem ft_hitE (b : List Int) (at_ to : Int)
 (h1 : ((decide ((((List.length b) : Nat) : Int) > (4096 : Int))) = false))
 (h2 : ((List.length b) ≤ (281474976710656 : Nat)))
 (h3 : (OkN ((clampR (4194304 : Int)), ((0 : Int), ((0 : Int), (false, ([] : List (Rec × Ob)))))) (4611686018427387000 : Int)))
 (h4 : (((ft_hitE_x1 b).1 != (0 : Int)) = false))
 (h5 : (Okd (ft_hitE_x1 b).2))
 (h6 : ((List.length (sortK (((((ft_hitE_x1 b).2).2).2).2).2)) = (1 : Nat)))
 (h7 : (InI64 ((32 : Int) + (((List.length b) : Nat) : Int))))
 (h8 : (((((List.length (obD (ft_hitE_x2 b))) : Nat) : Int) != ((32 : Int) + (((List.length b) : Nat) : Int))) = false))
 (h9 : ((decide (at_ < (0 : Int))) = false))
 (h10 : ((decide (at_ ≥ (((List.length (obD (ft_hitE_x2 b))) : Nat) : Int))) = false))
 (h11 : ((0 : Int) ≤ at_))
 (h12 : (at_ < (((List.length (obD (ft_hitE_x2 b))) : Nat) : Int)))
 (h13 : ((Int.toNat at_) < (List.length (obD (ft_hitE_x2 b)))))
 (h14 : (((List.getD (obD (ft_hitE_x2 b)) (Int.toNat at_) (0 : Int)) == to) = false))
 (h15 : ((rightB (nm1 (ft_hitE_x1 b).2)) = true))
 (h16 : ((0 : Int) ≤ (obS (ft_hitE_x2 b))))
 (h17 : ((obS (ft_hitE_x2 b)) ≤ (((List.length (List.set (obD (ft_hitE_x2 b)) (Int.toNat at_) to)) : Nat) : Int)))
 (h18 : ((obS (ft_hitE_x2 b)) ≤ (clampR (4194304 : Int))))
 (h19 : ((List.length (List.set (obD (ft_hitE_x2 b)) (Int.toNat at_) to)) ≤ (140737488355328 : Nat)))
 (h20 : (Okd ((clampR (4194304 : Int)), ((0 : Int), ((0 : Int), (false, (one (nm1 (ft_hitE_x1 b).2) (List.set (obD (ft_hitE_x2 b)) (Int.toNat at_) to) (obS (ft_hitE_x2 b)))))))))
 (h21 : (loadB ((clampR (4194304 : Int)), ((0 : Int), ((0 : Int), (false, (one (nm1 (ft_hitE_x1 b).2) (List.set (obD (ft_hitE_x2 b)) (Int.toNat at_) to) (obS (ft_hitE_x2 b))))))) (⟨#[118, 111, 116, 101]⟩ : ByteArray)))
 (h22 : ((0 : Nat) < (List.length (List.set (obD (ft_hitE_x2 b)) (Int.toNat at_) to))))
 (h23 : ((32 : Int) = (((List.length (List.set (obD (ft_hitE_x2 b)) (Int.toNat at_) to)) : Nat) : Int)))
 (h24 : ((32 : Int) ≤ (((List.length (List.set (obD (ft_hitE_x2 b)) (Int.toNat at_) to)) : Nat) : Int)))
 (h25 : ((0 : Int) < (((List.length (List.set (obD (ft_hitE_x2 b)) (Int.toNat at_) to)) : Nat) : Int)))
 (h26 : ((decide ((rfSum ([] : List (Int))) = (List.take ((32 : Nat) - (0 : Nat)) (List.drop (0 : Nat) (List.set (obD (ft_hitE_x2 b)) (Int.toNat at_) to))))) = true))
 (h27 : ((List.length (rfSum ([] : List (Int)))) ≤ (9223372036854775807 : Nat)))
 (h28 : ((List.length (List.take ((32 : Nat) - (0 : Nat)) (List.drop (0 : Nat) (List.set (obD (ft_hitE_x2 b)) (Int.toNat at_) to)))) ≤ (9223372036854775807 : Nat))) :
 ∃ ps, runF Tryd.prog DF gFtEO 100 Tryd.f3 (ftX b at_ to) [.is false, .is false, .is false, .is false, .is false, .is false, .is true] = some ((AV.v (A0.one (Part.bool true true))), ps) ∧ AllQ ps := ⟨_, by kernel_rfl, qc h1 (qc (Eq.refl ((4194304 : Int))) (qc h2 (qc (Eq.refl ((⟨#[118, 111, 116, 101]⟩ : ByteArray))) (qc (Eq.refl b) (qc (Eq.refl ((clampR (4194304 : Int)))) (qc (Eq.refl ((0 : Int))) (qc (Eq.refl ((0 : Int))) (qc (Eq.refl false) (qc (Eq.refl (([] : List (Rec × Ob)))) (qc h3 (qc (show ((4 : Nat) ≤ (9223372036854775000 : Nat)) from by decide) (qc h4 (qc (Eq.refl (((ft_hitE_x1 b).2).1)) (qc (Eq.refl ((((ft_hitE_x1 b).2).2).1)) (qc (Eq.refl (((((ft_hitE_x1 b).2).2).2).1)) (qc (Eq.refl ((((((ft_hitE_x1 b).2).2).2).2).1)) (qc (Eq.refl ((((((ft_hitE_x1 b).2).2).2).2).2)) (qc h5 (qc h6 (qc (Eq.refl ((0 : Int))) (qc h7 (qc h8 (qc h9 (qc (Eq.refl ((0 : Int))) (qc h10 (qc (Eq.refl ((0 : Int))) (qc h11 (qc h12 (qc h13 (qc h14 (qc (Eq.refl ((0 : Int))) (qc h11 (qc h12 (qc h13 (qc (Eq.refl ((some (1 : Nat)))) (qc (Eq.refl ((4194304 : Int))) (qc (Eq.refl ((nm1 (ft_hitE_x1 b).2))) (qc (Eq.refl ((obS (ft_hitE_x2 b)))) (qc (Eq.refl ((List.set (obD (ft_hitE_x2 b)) (Int.toNat at_) to))) (qc h15 (qc h16 (qc h17 (qc h18 (qc h19 (qc (Eq.refl ((⟨#[118, 111, 116, 101]⟩ : ByteArray))) (qc (Eq.refl ((clampR (4194304 : Int)))) (qc (Eq.refl ((0 : Int))) (qc (Eq.refl ((0 : Int))) (qc (Eq.refl false) (qc (Eq.refl ((one (nm1 (ft_hitE_x1 b).2) (List.set (obD (ft_hitE_x2 b)) (Int.toNat at_) to) (obS (ft_hitE_x2 b))))) (qc h20 (qc (show ((4 : Nat) ≤ (9223372036854775807 : Nat)) from by decide) (qc h21 (qc (Eq.refl ((0 : Int))) (qc h22 (qc h23 (qc (show ((0 : Nat) ≤ (140737488351232 : Nat)) from by decide) (qc (Eq.refl ((0 : Int))) (qc h22 (qc (show ((0 : Int) ≤ (0 : Int)) from by decide) (qc (show ((0 : Int) ≤ (32 : Int)) from by decide) (qc h24 (qc h25 (qc h26 (qc h27 (qc h28 (qn)))))))))))))))))))))))))))))))))))))))))))))))))))))))))))))))))))⟩
abbrev ft_noE_x1 (b : List Int) := ((saveM ((clampR (4194304 : Int)), ((0 : Int), ((0 : Int), (false, ([] : List (Rec × Ob)))))) (⟨#[118, 111, 116, 101]⟩ : ByteArray) b))
abbrev ft_noE_x2 (b : List Int) := (obE (((((ft_noE_x1 b).2).2).2).2).2 [(Fd.s (nm1 (ft_noE_x1 b).2))])
abbrev ft_noE_x3 (b : List Int) (at_ to : Int) := (one (nm1 (ft_noE_x1 b).2) (List.set (obD (ft_noE_x2 b)) (Int.toNat at_) to) (obS (ft_noE_x2 b)))
abbrev ft_noE_x4  := (⟨#[118, 111, 116, 101]⟩ : ByteArray)
theorem ft_noE (b : List Int) (at_ to : Int)
 (h1 : ((decide ((((List.length b) : Nat) : Int) > (4096 : Int))) = false))
 (h2 : ((List.length b) ≤ (281474976710656 : Nat)))
 (h3 : (OkN ((clampR (4194304 : Int)), ((0 : Int), ((0 : Int), (false, ([] : List (Rec × Ob)))))) (4611686018427387000 : Int)))
 (h4 : (((ft_noE_x1 b).1 != (0 : Int)) = false))
 (h5 : (Okd (ft_noE_x1 b).2))
 (h6 : ((List.length (sortK (((((ft_noE_x1 b).2).2).2).2).2)) = (1 : Nat)))
 (h7 : (InI64 ((32 : Int) + (((List.length b) : Nat) : Int))))
 (h8 : (((((List.length (obD (ft_noE_x2 b))) : Nat) : Int) != ((32 : Int) + (((List.length b) : Nat) : Int))) = false))
 (h9 : ((decide (at_ < (0 : Int))) = false))
 (h10 : ((decide (at_ ≥ (((List.length (obD (ft_noE_x2 b))) : Nat) : Int))) = false))
 (h11 : ((0 : Int) ≤ at_))
 (h12 : (at_ < (((List.length (obD (ft_noE_x2 b))) : Nat) : Int)))
 (h13 : ((Int.toNat at_) < (List.length (obD (ft_noE_x2 b)))))
 (h14 : (((List.getD (obD (ft_noE_x2 b)) (Int.toNat at_) (0 : Int)) == to) = false))
 (h15 : ((rightB (nm1 (ft_noE_x1 b).2)) = true))
 (h16 : ((0 : Int) ≤ (obS (ft_noE_x2 b))))
 (h17 : ((obS (ft_noE_x2 b)) ≤ (((List.length (List.set (obD (ft_noE_x2 b)) (Int.toNat at_) to)) : Nat) : Int)))
 (h18 : ((obS (ft_noE_x2 b)) ≤ (clampR (4194304 : Int))))
 (h19 : ((List.length (List.set (obD (ft_noE_x2 b)) (Int.toNat at_) to)) ≤ (140737488355328 : Nat)))
 (h20 : (Okd ((clampR (4194304 : Int)), ((0 : Int), ((0 : Int), (false, (ft_noE_x3 b at_ to)))))))
 (h21 : (¬ (loadB ((clampR (4194304 : Int)), ((0 : Int), ((0 : Int), (false, (ft_noE_x3 b at_ to))))) (ft_noE_x4 ))))
 (h22 : ((0 : Nat) < (List.length (List.set (obD (ft_noE_x2 b)) (Int.toNat at_) to))))
 (h23 : ((32 : Int) = (((List.length (List.set (obD (ft_noE_x2 b)) (Int.toNat at_) to)) : Nat) : Int)))
 (h24 : ((32 : Int) ≤ (((List.length (List.set (obD (ft_noE_x2 b)) (Int.toNat at_) to)) : Nat) : Int)))
 (h25 : ((0 : Int) < (((List.length (List.set (obD (ft_noE_x2 b)) (Int.toNat at_) to)) : Nat) : Int)))
 (h26 : ((decide ((rfSum ([] : List (Int))) = (List.take ((32 : Nat) - (0 : Nat)) (List.drop (0 : Nat) (List.set (obD (ft_noE_x2 b)) (Int.toNat at_) to))))) = false))
 (h27 : ((List.length (rfSum ([] : List (Int)))) ≤ (9223372036854775807 : Nat)))
 (h28 : ((List.length (List.take ((32 : Nat) - (0 : Nat)) (List.drop (0 : Nat) (List.set (obD (ft_noE_x2 b)) (Int.toNat at_) to)))) ≤ (9223372036854775807 : Nat)))
 (h29 : ((((loadM ((clampR (4194304 : Int)), ((0 : Int), ((0 : Int), (false, (ft_noE_x3 b at_ to))))) (ft_noE_x4 ))).1 == (44 : Int)) = true)) :
 ∃ ps, runF Tryd.prog DF gFtEN 100 Tryd.f3 (ftX b at_ to) [.is false, .is false, .is false, .is false, .is false, .is false, .is false, .is true] = some ((AV.v (A0.one (Part.bool (true && true) ((0 : Int) == (0 : Int))))), ps) ∧ AllQ ps := ⟨_, by kernel_rfl, qc h1 (qc (Eq.refl ((4194304 : Int))) (qc h2 (qc (Eq.refl ((ft_noE_x4 ))) (qc (Eq.refl b) (qc (Eq.refl ((clampR (4194304 : Int)))) (qc (Eq.refl ((0 : Int))) (qc (Eq.refl ((0 : Int))) (qc (Eq.refl false) (qc (Eq.refl (([] : List (Rec × Ob)))) (qc h3 (qc (show ((4 : Nat) ≤ (9223372036854775000 : Nat)) from by decide) (qc h4 (qc (Eq.refl (((ft_noE_x1 b).2).1)) (qc (Eq.refl ((((ft_noE_x1 b).2).2).1)) (qc (Eq.refl (((((ft_noE_x1 b).2).2).2).1)) (qc (Eq.refl ((((((ft_noE_x1 b).2).2).2).2).1)) (qc (Eq.refl ((((((ft_noE_x1 b).2).2).2).2).2)) (qc h5 (qc h6 (qc (Eq.refl ((0 : Int))) (qc h7 (qc h8 (qc h9 (qc (Eq.refl ((0 : Int))) (qc h10 (qc (Eq.refl ((0 : Int))) (qc h11 (qc h12 (qc h13 (qc h14 (qc (Eq.refl ((0 : Int))) (qc h11 (qc h12 (qc h13 (qc (Eq.refl ((some (1 : Nat)))) (qc (Eq.refl ((4194304 : Int))) (qc (Eq.refl ((nm1 (ft_noE_x1 b).2))) (qc (Eq.refl ((obS (ft_noE_x2 b)))) (qc (Eq.refl ((List.set (obD (ft_noE_x2 b)) (Int.toNat at_) to))) (qc h15 (qc h16 (qc h17 (qc h18 (qc h19 (qc (Eq.refl ((ft_noE_x4 ))) (qc (Eq.refl ((clampR (4194304 : Int)))) (qc (Eq.refl ((0 : Int))) (qc (Eq.refl ((0 : Int))) (qc (Eq.refl false) (qc (Eq.refl ((ft_noE_x3 b at_ to))) (qc h20 (qc (show ((4 : Nat) ≤ (9223372036854775807 : Nat)) from by decide) (qc h21 (qc (Eq.refl ((0 : Int))) (qc h22 (qc h23 (qc (show ((0 : Nat) ≤ (140737488351232 : Nat)) from by decide) (qc (Eq.refl ((0 : Int))) (qc h22 (qc (show ((0 : Int) ≤ (0 : Int)) from by decide) (qc (show ((0 : Int) ≤ (32 : Int)) from by decide) (qc h24 (qc h25 (qc h26 (qc h27 (qc h28 (qc h29 (qn))))))))))))))))))))))))))))))))))))))))))))))))))))))))))))))))))))⟩
theorem gFt_ok {L} (h : OpOK Tryd.prog DF 12 (withNew L)) : GamOK Tryd.prog DF (gFt L) :=
  gam_soft (gam_cons headF_ok (gam_op new_ok (gam_fz (copy_ok DF) (gam_cons (same_ok DF) (gam_cons ref_ok (gam_op saveQ_ok (gam_rd image1_ok (gam_op mount1_ok (gam_rd h gam_nil)))))))))
theorem gFtO_ok : GamOK Tryd.prog DF gFtO := gFt_ok loadOk_ok
theorem gFtN_ok : GamOK Tryd.prog DF gFtN := gFt_ok loadNo_ok
theorem gFtEO_ok : GamOK Tryd.prog DF gFtEO := gam_end gFtO_ok
theorem gFtEN_ok : GamOK Tryd.prog DF gFtEN := gam_end gFtN_ok
theorem nm1_oneF {ro st fu : Int} {dn : Bool} {s : ByteArray} {l : List Int} {n : Int} : nm1 (ro, st, fu, dn, one s l n) = s := by
  unfold nm1
  show recS ((sortK (one s l n)).getD 0 []) 0 = s
  rw [show sortK (one s l n) = [[Fd.s s]] from sortK_one s _]
  rfl
theorem law_turnedF {b : List Int} {at_ to : Int} (hb : InB b) (hl : b.length ≤ 140737488351232) (hat : InI64 at_) (hto : 0 ≤ to ∧ to < 256) :
    ∃ Γ, GamOK Tryd.prog DF Γ ∧ ∃ ds ps, runF Tryd.prog DF Γ 100 Tryd.f3 [.one (.words .u8 b), .one (.int .i64 false at_), .one (.int .u8 false to)] ds = some (.v (.one (.bool true true)), ps) ∧ AllQ ps := by
  by_cases hbig : 4096 < b.length
  · obtain ⟨ps, p1, p2⟩ := ft_big b at_ to (decide_eq_true (by omega))
    exact ⟨_, gFtO_ok, _, ps, p1, p2⟩
  have hcl : clampR 4194304 = 4194304 := by decide
  have o0 : OkN (clampR 4194304, 0, 0, false, []) 0 := ⟨okd_new 4194304, Int.le_refl _⟩
  have hn : NameOK cVt := ⟨by kernel_rfl, by decide, by kernel_rfl, by decide⟩
  have hsl := seal_len b
  have hsv : saveM (clampR 4194304, 0, 0, false, []) cVt b = (0, (4194304, 3, 0, false, one cVt (sealL b) (sealL b).length)) := by
    rw [hcl, save_new hn (by omega), if_neg (by omega)]
    rfl
  have hS := save_ok o0 cVt b
  rw [hsv] at hS
  have hk : Okd (4194304, 3, 0, false, one cVt (sealL b) ((sealL b).length : Int)) := hS.1
  have hsk : (sortK (one cVt (sealL b) ((sealL b).length : Int))).length = 1 := by rw [show sortK (one cVt (sealL b) ((sealL b).length : Int)) = [[Fd.s cVt]] from sortK_one cVt _]; rfl
  have hnm : nm1 (4194304, 3, 0, false, one cVt (sealL b) ((sealL b).length : Int)) = cVt := nm1_oneF
  have hob : obE (one cVt (sealL b) ((sealL b).length : Int)) [Fd.s (nm1 (4194304, 3, 0, false, one cVt (sealL b) ((sealL b).length : Int)))] = fileOb (sealL b) (sealL b).length := by rw [hnm]; exact ob_one _ _ _
  have hlen : ((((sealL b).length : Nat) : Int) != 32 + (b.length : Int)) = false := by
    rw [hsl]
    exact Bool.eq_false_iff.2 (fun h => (bne_iff_ne.1 h) (by omega))
  by_cases c1 : at_ < 0
  · have hx1 : ft_neg_x1 b = (0, (4194304, 3, 0, false, one cVt (sealL b) (sealL b).length)) := hsv
    obtain ⟨ps, p1, p2⟩ := ft_neg b at_ to (decide_eq_false (by omega)) (by omega) (o0.le (by decide)) (by rw [hx1]; rfl) (by rw [hx1]; exact hk) (by rw [hx1]; exact hsk) ⟨by omega, by omega⟩  (by rw [hx1]; show ((((obD (obE (one cVt (sealL b) _) _)).length : Nat) : Int) != _) = false; rw [hob]; exact hlen) (decide_eq_true c1)
    exact ⟨_, gFtO_ok, _, ps, p1, p2⟩
  obtain ⟨A, rfl⟩ : ∃ A : Nat, at_ = A := ⟨at_.toNat, by omega⟩
  by_cases c2 : (sealL b).length ≤ A
  · have hx1 : ft_over_x1 b = (0, (4194304, 3, 0, false, one cVt (sealL b) (sealL b).length)) := hsv
    obtain ⟨ps, p1, p2⟩ := ft_over b A to (decide_eq_false (by omega)) (by omega) (o0.le (by decide)) (by rw [hx1]; rfl) (by rw [hx1]; exact hk) (by rw [hx1]; exact hsk) ⟨by omega, by omega⟩  (by rw [hx1]; show ((((obD (obE (one cVt (sealL b) _) _)).length : Nat) : Int) != _) = false; rw [hob]; exact hlen) (decide_eq_false c1) (by rw [hx1]; show decide ((A : Int) ≥ (((obD (obE (one cVt (sealL b) _) _)).length : Nat) : Int)) = true; rw [hob]; exact decide_eq_true (show (A : Int) ≥ (((sealL b).length : Nat) : Int) by omega))
    exact ⟨_, gFtO_ok, _, ps, p1, p2⟩
  have c2b : ¬ (A : Int) ≥ (((sealL b).length : Nat) : Int) := by omega
  have c2c : (A : Int) < (((sealL b).length : Nat) : Int) := by omega
  have c2d : A < (sealL b).length := by omega
  by_cases c3 : (sealL b).getD A 0 = to
  · have hx1 : ft_same_x1 b = (0, (4194304, 3, 0, false, one cVt (sealL b) (sealL b).length)) := hsv
    have hx2 : ft_same_x2 b = sealL b := by
      unfold ft_same_x2
      rw [hx1]
      show obD (obE (one cVt (sealL b) _) _) = _
      rw [hob]
      rfl
    obtain ⟨ps, p1, p2⟩ := ft_same b A to (decide_eq_false (by omega)) (by omega) (o0.le (by decide)) (by rw [hx1]; rfl) (by rw [hx1]; exact hk) (by rw [hx1]; exact hsk) ⟨by omega, by omega⟩  (by rw [hx2]; exact hlen) (decide_eq_false c1) (by rw [hx2]; exact decide_eq_false c2b) (by omega) (by rw [hx2]; exact c2c) (by rw [hx2]; exact c2d) (by rw [hx2]; exact beq_iff_eq.2 c3)
    exact ⟨_, gFtO_ok, _, ps, p1, p2⟩
  have q4 : ((sealL b).getD A 0 == to) = false := beq_false_of_ne c3
  have hTl : ((sealL b).set A to).length = (sealL b).length := List.length_set
  have hEs : Esd 4194304 (one cVt ((sealL b).set A to) ((sealL b).length : Int)) := ⟨fun e h => by rw [List.mem_singleton.1 h]; exact ⟨cVt, rfl, hn.1⟩, by simp [one], fun e h => by
    rw [List.mem_singleton.1 h]
    exact ⟨_, _, rfl, by omega, by rw [hTl]; exact Int.le_refl _, by rw [hTl]; omega⟩, show 1 ≤ 32 by decide, by rw [safe_one]; omega⟩
  have hg : Okd (4194304, 0, 0, false, one cVt ((sealL b).set A to) ((sealL b).length : Int)) := hEs.okd ⟨by decide, by decide⟩ (Int.le_refl _) ⟨Int.le_refl _, by decide⟩
  have hrd : readM (4194304, 0, 0, false, one cVt ((sealL b).set A to) ((sealL b).length : Int)) cVt = (0, (sealL b).set A to) := read_one hn.1
  have hin : InB (((sealL b).set A to).drop 32) := by
    rw [List.drop_set]
    split
    · rw [seal_drop]; exact hb
    · rw [seal_drop]
      intro a ha
      rcases List.mem_or_eq_of_mem_set ha with ha | rfl
      · exact hb a ha
      · exact hto
  have hsum : ofF [((sealL b).set A to).drop 32] = rfSum (((sealL b).set A to).drop 32) := by
    have := of_same (ll := [((sealL b).set A to).drop 32]) (by rw [List.flatten_cons, List.flatten_nil, List.append_nil]; exact hin)
    rw [this, List.flatten_cons, List.flatten_nil, List.append_nil]
  have hl32 : (rfSum (((sealL b).set A to).drop 32)).length = 32 := by rw [← hsum, ofF_len]
  have q0 : (0 : Int) ≤ (((sealL b).length : Nat) : Int) := by omega
  have q1 : ((((sealL b).length : Nat) : Int)) ≤ ((((sealL b).set A to).length : Nat) : Int) := by rw [hTl]; exact Int.le_refl _
  have q2 : ((((sealL b).length : Nat) : Int)) ≤ clampR 4194304 := by rw [hcl]; omega
  have q3 : ((sealL b).set A to).length ≤ 140737488355328 := by rw [hTl]; omega
  have q5 : 0 < ((sealL b).set A to).length := by rw [hTl]; omega
  have q6 : (32 : Int) ≤ ((((sealL b).set A to).length : Nat) : Int) := by rw [hTl]; omega
  have q7 : (0 : Int) < ((((sealL b).set A to).length : Nat) : Int) := by rw [hTl]; omega
  have q8 : ((((sealL b).set A to).length : Nat) : Int).toNat - 32 = (((sealL b).set A to).drop 32).length := by rw [List.length_drop, Int.toNat_natCast]
  have q9 : List.take (((((sealL b).set A to).length : Nat) : Int).toNat - 32) (((sealL b).set A to).drop 32) = ((sealL b).set A to).drop 32 := by rw [q8, List.take_length]
  have q10 : (((sealL b).set A to).drop 32).length ≤ 140737488351232 := by rw [List.length_drop, hTl]; omega
  have q11 : (List.take (32 - 0) (List.drop 0 ((sealL b).set A to))).length ≤ 9223372036854775807 := by rw [List.length_take]; omega
  by_cases c5 : rfSum (((sealL b).set A to).drop 32) = ((sealL b).set A to).take 32
  · have hB : loadB (4194304, 0, 0, false, one cVt ((sealL b).set A to) ((sealL b).length : Int)) cVt := by
      unfold loadB
      rw [hrd]
      simp only
      rw [hsum]
      exact ⟨trivial, by rw [hTl]; omega, c5⟩
    by_cases c6 : b.length = 0
    · have hd0 : ((sealL b).set A to).drop 32 = [] := List.drop_eq_nil_of_le (by rw [hTl]; omega)
      rw [hd0] at c5 hl32
      have hx1 : ft_hitE_x1 b = (0, (4194304, 3, 0, false, one cVt (sealL b) (sealL b).length)) := hsv
      have hx2 : ft_hitE_x2 b = fileOb (sealL b) (sealL b).length := by
        unfold ft_hitE_x2
        rw [hx1]
        exact hob
      obtain ⟨ps, p1, p2⟩ := ft_hitE b A to (decide_eq_false (by omega)) (by omega) (o0.le (by decide)) (by rw [hx1]; rfl) (by rw [hx1]; exact hk) (by rw [hx1]; exact hsk) ⟨by omega, by omega⟩ (by rw [hx2]; exact hlen) (decide_eq_false c1) (by rw [hx2]; exact decide_eq_false c2b) (by omega) (by rw [hx2]; exact c2c) (by rw [hx2]; exact c2d) (by rw [hx2]; exact q4) (by rw [hx1]; show rightB (nm1 (4194304, 3, 0, false, one cVt (sealL b) _)) = true; rw [hnm]; exact hn.1) (by rw [hx2]; exact q0) (by rw [hx2]; exact q1) (by rw [hx2]; exact q2) (by rw [hx2]; exact q3) (by rw [hx2, hx1, hcl]; show Okd (4194304, 0, 0, false, one (nm1 (4194304, 3, 0, false, one cVt (sealL b) _)) _ _); rw [hnm]; exact hg) (by rw [hx2, hx1, hcl]; show loadB (4194304, 0, 0, false, one (nm1 (4194304, 3, 0, false, one cVt (sealL b) _)) _ _) _; rw [hnm]; exact hB) (by rw [hx2]; exact q5) (by rw [hx2]; show (32 : Int) = ((((sealL b).set A to).length : Nat) : Int); rw [hTl]; omega) (by rw [hx2]; exact q6) (by rw [hx2]; exact q7) (by rw [hx2]; exact decide_eq_true c5) (by rw [hl32]; decide) (by rw [hx2]; exact q11)
      exact ⟨_, gFtEO_ok, _, ps, p1, p2⟩
    · have hx1 : ft_hit_x1 b = (0, (4194304, 3, 0, false, one cVt (sealL b) (sealL b).length)) := hsv
      have hx2 : ft_hit_x2 b = fileOb (sealL b) (sealL b).length := by
        unfold ft_hit_x2
        rw [hx1]
        exact hob
      have hx3 : ft_hit_x3 b A to = ((sealL b).set A to).length := by
        unfold ft_hit_x3
        rw [hx2]
        rfl
      obtain ⟨ps, p1, p2⟩ := ft_hit b A to (decide_eq_false (by omega)) (by omega) (o0.le (by decide)) (by rw [hx1]; rfl) (by rw [hx1]; exact hk) (by rw [hx1]; exact hsk) ⟨by omega, by omega⟩ (by rw [hx2]; exact hlen) (decide_eq_false c1) (by rw [hx2]; exact decide_eq_false c2b) (by omega) (by rw [hx2]; exact c2c) (by rw [hx2]; exact c2d) (by rw [hx2]; exact q4) (by rw [hx1]; show rightB (nm1 (4194304, 3, 0, false, one cVt (sealL b) _)) = true; rw [hnm]; exact hn.1) (by rw [hx2]; exact q0) (by rw [hx2]; rw [hx3]; exact q1) (by rw [hx2]; exact q2) (by rw [hx3]; exact q3) (by rw [hx2, hx1, hcl]; show Okd (4194304, 0, 0, false, one (nm1 (4194304, 3, 0, false, one cVt (sealL b) _)) _ _); rw [hnm]; exact hg) (by rw [hx2, hx1, hcl]; show loadB (4194304, 0, 0, false, one (nm1 (4194304, 3, 0, false, one cVt (sealL b) _)) _ _) _; rw [hnm]; exact hB) (by rw [hx3]; exact q5) (by rw [hx3]; exact q6) (Int.le_refl _) (by rw [hx3]; show (32 : Int) < ((((sealL b).set A to).length : Nat) : Int); rw [hTl]; omega) (by rw [hx2]; rw [hx3]; show (List.take (((((sealL b).set A to).length : Nat) : Int).toNat - 32) (((sealL b).set A to).drop 32)).length ≤ _; rw [q9]; exact q10) (by rw [hx3]; exact q7) (by rw [hx2]; rw [hx3]; show decide (rfSum (List.take (((((sealL b).set A to).length : Nat) : Int).toNat - 32) (((sealL b).set A to).drop 32)) = ((sealL b).set A to).take 32) = _; rw [q9]; exact decide_eq_true c5) (by rw [hx2]; rw [hx3]; show (rfSum (List.take (((((sealL b).set A to).length : Nat) : Int).toNat - 32) (((sealL b).set A to).drop 32))).length ≤ _; rw [q9, hl32]; decide) (by rw [hx2]; exact q11)
      exact ⟨_, gFtO_ok, _, ps, p1, p2⟩
  · have hB : ¬ loadB (4194304, 0, 0, false, one cVt ((sealL b).set A to) ((sealL b).length : Int)) cVt := by
      unfold loadB
      rw [hrd]
      simp only
      rw [hsum]
      rintro ⟨_, _, h⟩
      exact c5 h
    have hM : (loadM (4194304, 0, 0, false, one cVt ((sealL b).set A to) ((sealL b).length : Int)) cVt).1 = 44 := by
      unfold loadM
      rw [hrd]
      simp only
      rw [if_neg (show ¬ (0 : Int) = 41 by decide), if_neg (show ¬ (0 : Int) ≠ 0 by decide), if_neg (by rw [hTl]; omega), if_pos (by rw [hsum]; exact c5)]
    by_cases c6 : b.length = 0
    · have hd0 : ((sealL b).set A to).drop 32 = [] := List.drop_eq_nil_of_le (by rw [hTl]; omega)
      rw [hd0] at c5 hl32
      have hx1 : ft_noE_x1 b = (0, (4194304, 3, 0, false, one cVt (sealL b) (sealL b).length)) := hsv
      have hx2 : ft_noE_x2 b = fileOb (sealL b) (sealL b).length := by
        unfold ft_noE_x2
        rw [hx1]
        exact hob
      have hx4 : ft_noE_x3 b A to = one cVt ((sealL b).set A to) ((sealL b).length : Int) := by
        unfold ft_noE_x3
        rw [hx2, hx1]
        show one (nm1 (4194304, 3, 0, false, one cVt (sealL b) _)) _ _ = _
        rw [hnm]
        rfl
      obtain ⟨ps, p1, p2⟩ := ft_noE b A to (decide_eq_false (by omega)) (by omega) (o0.le (by decide)) (by rw [hx1]; rfl) (by rw [hx1]; exact hk) (by rw [hx1]; exact hsk) ⟨by omega, by omega⟩ (by rw [hx2]; exact hlen) (decide_eq_false c1) (by rw [hx2]; exact decide_eq_false c2b) (by omega) (by rw [hx2]; exact c2c) (by rw [hx2]; exact c2d) (by rw [hx2]; exact q4) (by rw [hx1]; show rightB (nm1 (4194304, 3, 0, false, one cVt (sealL b) _)) = true; rw [hnm]; exact hn.1) (by rw [hx2]; exact q0) (by rw [hx2]; exact q1) (by rw [hx2]; exact q2) (by rw [hx2]; exact q3) (by rw [hx4, hcl]; exact hg) (by rw [hx4, hcl]; exact hB) (by rw [hx2]; exact q5) (by rw [hx2]; show (32 : Int) = ((((sealL b).set A to).length : Nat) : Int); rw [hTl]; omega) (by rw [hx2]; exact q6) (by rw [hx2]; exact q7) (by rw [hx2]; exact decide_eq_false (fun h => c5 h)) (by rw [hl32]; decide) (by rw [hx2]; exact q11) (by rw [hx4, hcl]; exact beq_iff_eq.2 hM)
      exact ⟨_, gFtEN_ok, _, ps, p1, p2⟩
    · have hx1 : ft_no_x1 b = (0, (4194304, 3, 0, false, one cVt (sealL b) (sealL b).length)) := hsv
      have hx2 : ft_no_x2 b = fileOb (sealL b) (sealL b).length := by
        unfold ft_no_x2
        rw [hx1]
        exact hob
      have hx3 : ft_no_x3 b A to = ((sealL b).set A to).length := by
        unfold ft_no_x3
        rw [hx2]
        rfl
      have hx4 : ft_no_x4 b A to = one cVt ((sealL b).set A to) ((sealL b).length : Int) := by
        unfold ft_no_x4
        rw [hx2, hx1]
        show one (nm1 (4194304, 3, 0, false, one cVt (sealL b) _)) _ _ = _
        rw [hnm]
        rfl
      obtain ⟨ps, p1, p2⟩ := ft_no b A to (decide_eq_false (by omega)) (by omega) (o0.le (by decide)) (by rw [hx1]; rfl) (by rw [hx1]; exact hk) (by rw [hx1]; exact hsk) ⟨by omega, by omega⟩ (by rw [hx2]; exact hlen) (decide_eq_false c1) (by rw [hx2]; exact decide_eq_false c2b) (by omega) (by rw [hx2]; exact c2c) (by rw [hx2]; exact c2d) (by rw [hx2]; exact q4) (by rw [hx1]; show rightB (nm1 (4194304, 3, 0, false, one cVt (sealL b) _)) = true; rw [hnm]; exact hn.1) (by rw [hx2]; exact q0) (by rw [hx2]; rw [hx3]; exact q1) (by rw [hx2]; exact q2) (by rw [hx3]; exact q3) (by rw [hx4, hcl]; exact hg) (by rw [hx4, hcl]; exact hB) (by rw [hx3]; exact q5) (by rw [hx3]; exact q6) (Int.le_refl _) (by rw [hx3]; show (32 : Int) < ((((sealL b).set A to).length : Nat) : Int); rw [hTl]; omega) (by rw [hx2]; rw [hx3]; show (List.take (((((sealL b).set A to).length : Nat) : Int).toNat - 32) (((sealL b).set A to).drop 32)).length ≤ _; rw [q9]; exact q10) (by rw [hx3]; exact q7) (by rw [hx2]; rw [hx3]; show decide (rfSum (List.take (((((sealL b).set A to).length : Nat) : Int).toNat - 32) (((sealL b).set A to).drop 32)) = ((sealL b).set A to).take 32) = _; rw [q9]; exact decide_eq_false (fun h => c5 h)) (by rw [hx2]; rw [hx3]; show (rfSum (List.take (((((sealL b).set A to).length : Nat) : Int).toNat - 32) (((sealL b).set A to).drop 32))).length ≤ _; rw [q9, hl32]; decide) (by rw [hx2]; exact q11) (by rw [hx4, hcl]; exact beq_iff_eq.2 hM)
      exact ⟨_, gFtN_ok, _, ps, p1, p2⟩
end Go.Num
namespace Go.Laws
open Go.Abs Go.Proofs Go.Proofs.YtpjphlncockggaaDoor Go.ChangeShapes Go.WideShapes Go.ChangeAt Go.RowKit Go.Num
theorem own : ownKnob Tryd.prog.godebug = none := by kernel_rfl
theorem laidOut : laidOutB Tryd.prog = true := by kernel_rfl
theorem trodAll_below {H : Type} {enc : TypeId × Value → H} {P : Program} (hl : laidOutB P = true) {W W' : World} (hb : Below W.heap.size W W') :
    ∀ {ts : List TypeId} {vs : List Value} {ds : List (DataW H)} {ps : List MemPlace}, (ts.all fun t => P.readableRec t && decide (t < P.types.size)) = true →
      DataW.TrodAll enc P W 0 (fun _ => true) true ts vs ds ps → (∀ x ∈ ps, x.block < W.heap.size) → DataW.TrodAll enc P W' 0 (fun b => decide (b < W.heap.size)) true ts vs ds ps
  | [], [], [], _, _, h, _ => h
  | [], [], _ :: _, _, _, h, _ => h.elim
  | [], _ :: _, _, _, _, h, _ => h.elim
  | _ :: _, [], _, _, _, h, _ => h.elim
  | _ :: _, _ :: _, [], _, _, h, _ => h.elim
  | t :: ts, v :: vs, d :: ds, ps, hr, h, hlt => by
    obtain ⟨p, q, h1, h2, rfl⟩ := h
    simp only [List.all_cons, Bool.and_eq_true, decide_eq_true_eq] at hr
    exact ⟨p, q, Below.trod hl hr.1.1 hr.1.2 h1 hb (fun x hx => hlt x (List.mem_append_left _ hx)), trodAll_below hl hb (by simpa using hr.2) h2 (fun x hx => hlt x (List.mem_append_right _ hx)), rfl⟩
theorem law_post {H : Type} {enc : TypeId × Value → H} {P : Program} {fn : Func} {s : ChangeSpec} {W W' : World} {args : Array Value} {ds : List (DataW H)} {before : List MemPlace} {tb : TypeId} (hl : laidOutB P = true)
    (hp : (fn.params.toList.all fun t => P.readableRec t && decide (t < P.types.size)) = true) (hs : s.vars = []) (hfn : s.fn H (ds ++ []) = { results := [.lit (.bool true)], args := ds })
    (hr : fn.resultTypes = #[tb]) (htb : P.underlying tb = some .bool) (hW : DataW.Whole enc P fn.params.toList s.vars false W args.toList ds [] before) (hb : Below W.heap.size W W') :
    s.post enc P fn false true false false W args (.bool true) W' := by
  have hlt : ∀ p ∈ before, p.block < W.heap.size := fun p hp => hW.lt p hp
  obtain ⟨p, q, hA, hV, hpq, hfz, hnd⟩ := id hW
  have hq : q = [] := by
    rw [hs] at hV
    exact hV
  subst hq
  rw [List.append_nil] at hpq
  subst hpq
  refine ⟨ds, [], before, [], before, [], hW, ?_, ?_, ?_, World.keptBut_mono (fun x hx => ⟨hx, .inr (.inl hx)⟩) (hb.frame (· ∈ before)), fun h => by cases h⟩
  · rw [hfn, hr]
    exact trodAll_cons_mk (shut_bool htb _) trodAll_mk0
  · rw [hfn]
    exact trodAll_below hl hb hp hA hlt
  · rw [hfn, hs]
    rfl
theorem no_spot {W : World} {a : Addr} {v : Value} (h : W.cell? a = some v) : a.spot = none := by
  unfold World.cell? at h
  split at h
  · split at h
    · cases h
    · rename_i hsp
      simpa using hsp
  · cases h
theorem add_plain {a : Addr} (hs : a.spot = none) (i : Nat) : a.add i = ⟨a.block, a.off + i, none⟩ := by
  unfold Addr.add
  split
  · rename_i h0
    subst h0
    cases a
    simp only at hs
    subst hs
    rfl
  · rfl
theorem cells_words {H : Type} {enc : TypeId × Value → H} {P : Program} {W : World} {t e : TypeId} {k : IntKind} {fuel : Nat} {cs : List Value} {x : DataW H × List MemPlace} (ht : P.underlying t = some (.slice e)) (he : P.underlying e = some (.int k)) (hc : P.cellsOf e = 1)
    (h : DataW.trod enc P W 0 (fun _ => true) true fuel t cs = some x) (hr : ∀ n ∈ x.1.weights P t, n ≤ reachBytes) :
    ∃ (v : Value) (l : List Int), cs = [v] ∧ SlRel (fun _ => False) W k l v ∧ v.oneCell' = true ∧ (∀ n ∈ l, (Lit.int k n).wf = true) ∧ l.length * P.bytesOf e ≤ reachBytes ∧
      ((l = [] ∧ x.1 = .nil) ∨ ∃ rest, x.1 = .slice (lits k l) rest) := by
  rcases open_ints ht he hc h with ⟨h1, h2⟩ | ⟨a, len, cap, zs, h1, _, h3, h4, h5, h6, h7, h8⟩
  · exact ⟨.slice none 0 0, [], h1, ⟨none, 0, rfl, Nat.le_refl _, Nat.zero_le _, fun _ => rfl, (fun i hi => by cases hi)⟩, rfl, (fun n hn => by cases hn), by simp, .inl ⟨rfl, by rw [h2]⟩⟩
  · subst h6
    simp only [if_true] at h5
    have hl : (zs.take len).length = len := by rw [List.length_take]; omega
    refine ⟨_, zs.take len, h1, ⟨some a, cap, by rw [hl], by omega, h4, (fun h => by cases h), fun i hi => ?_⟩, rfl, fun n hn => h8 n (List.mem_of_mem_take hn), ?_, .inr ⟨_, rfl⟩⟩
    · rw [hl] at hi
      have h0 := h7 0 (by omega)
      rw [Addr.add, if_pos rfl] at h0
      have hs := no_spot h0
      have h9 := h7 i (by omega)
      rw [add_plain hs] at h9
      refine ⟨a.block, a.off, ?_, fun h => h, ?_⟩
      · cases a
        simp only at hs
        subst hs
        rfl
      · rw [h9]
        congr 2
        rw [List.getD_eq_getElem?_getD, List.getD_eq_getElem?_getD, List.getElem?_take_of_lt hi]
    · have h10 := hr ((zs.take len).length * P.bytesOf e + (zs.drop len).length * P.bytesOf e) (by simp only [DataW.weights, ht, lits, List.length_map, Nat.add_mul]; exact List.mem_cons_self ..)
      omega
theorem open_words {H : Type} {enc : TypeId × Value → H} {P : Program} {W : World} {base : Nat} {t e : TypeId} {k : IntKind} {v : Value} {d : DataW H} {ps : List MemPlace} (ht : P.underlying t = some (.slice e)) (he : P.underlying e = some (.int k)) (hc : P.cellsOf e = 1)
    (hval : Value.okWide P W .any base t v) (hd : DataW.Trod enc P W 0 (fun _ => true) true t v d ps) (hr : ∀ n ∈ d.weights P t, n ≤ reachBytes) :
    ∃ l : List Int, SlRel (fun _ => False) W k l v ∧ v.oneCell' = true ∧ (∀ n ∈ l, (Lit.int k n).wf = true) ∧ l.length * P.bytesOf e ≤ reachBytes ∧ ((l = [] ∧ d = .nil) ∨ ∃ rest, d = .slice (lits k l) rest) := by
  obtain ⟨a0, len, cap, rfl⟩ := okWide_slice ht hval
  obtain ⟨fuel, hf⟩ := hd
  obtain ⟨v, l, h1, h2, h3, h4, h5, h6⟩ := cells_words ht he hc hf hr
  have h1' : [Value.slice a0 len cap] = [v] := h1
  simp only [List.cons.injEq, and_true] at h1'
  subst h1'
  exact ⟨l, h2, h3, h4, h5, h6⟩
theorem wf_u8 {n : Int} (h : (Lit.int .u8 n).wf = true) : 0 ≤ n ∧ n < 256 := by
  have h1 : IntKind.u8.min = 0 := rfl
  have h2 : IntKind.u8.max = 255 := rfl
  simp only [Lit.wf, Bool.and_eq_true, decide_eq_true_eq] at h
  omega
theorem wf_i64 {n : Int} (h : (Lit.int .i64 n).wf = true) : -9223372036854775808 ≤ n ∧ n ≤ 9223372036854775807 := by
  have h1 : IntKind.i64.min = -9223372036854775808 := rfl
  have h2 : IntKind.i64.max = 9223372036854775807 := rfl
  simp only [Lit.wf, Bool.and_eq_true, decide_eq_true_eq] at h
  omega
theorem one_words {D : Dom} {W : World} {k : IntKind} {l : List Int} {v : Value} (h : SlRel (fun _ => False) W k l v) (h1 : v.oneCell' = true) : A0Rel D (cenv W) (.one (.words k l)) v := ⟨h1, v, rfl, _, W, .inl ⟨rfl, rfl⟩, h⟩
theorem one_num {D : Dom} {W : World} {k : IntKind} {b : Bool} {n : Int} : A0Rel D (cenv W) (.one (.int k b n)) (.int k n) := ⟨rfl, rfl⟩
theorem rel_nil {D : Dom} {E : Env} : A0sRel D E [] [] := rfl
theorem rel_cons {D : Dom} {E : Env} {a : A0 D.τ} {v : Value} {xs : List (A0 D.τ)} {vs : List Value} (h : A0Rel D E a v) (k : A0sRel D E xs vs) : A0sRel D E (a :: xs) (v :: vs) := ⟨v, vs, rfl, h, k⟩
theorem law_calls {P : Program} {D : Dom} {Γ : Gam D} (hΓ : GamOK P D Γ) (hm : P.follows .mixedOrders = true) {f : FuncId} {fn : Func} (hf : P.funcs[f]? = some fn) {fuel : Nat} {xs : List (A0 D.τ)} {ds : List (Dec D.τ)} {b : Bool} {ps : List Prop}
    (h : runF P D Γ fuel fn xs ds = some (.v (.one (.bool b true)), ps)) (hps : AllQ ps) {W : World} {vs : List Value} (hG : GlobAt D W) (hx : A0sRel D (cenv W) xs vs) :
    Calls P f vs.toArray W fun e w' => e = .returned (.bool true) ∧ Below W.heap.size W w' := by
  refine (runF_calls hΓ hm hf h hps hG hx).mono ?_
  rintro e w' ⟨v, he, ⟨ν, _, hr⟩, hb⟩
  have hv : v = .bool true := by
    obtain ⟨_, h2⟩ := hr
    simpa [PartRel] using h2
  subst hv
  exact ⟨he, hb⟩
end Go.Laws
namespace Go.Laws
open Go.Abs Go.Proofs Go.Proofs.YtpjphlncockggaaDoor Go.RowKit Go.Num
theorem gFirst : Tryd.prog.globalNamed "cresset/sha.first" = some 0 := by kernel_rfl
theorem gRoots : Tryd.prog.globalNamed "cresset/sha.roots" = some 1 := by kernel_rfl
theorem tFirst : (Tryd.prog.globals[0]?).map (·.type) = some 77 := by kernel_rfl
theorem tRoots : (Tryd.prog.globals[1]?).map (·.type) = some 94 := by kernel_rfl
theorem globAt {W : World} (h : laidMet Tryd.prog [("cresset/sha.first", Rows.laid_cresset_sha_first), ("cresset/sha.roots", Rows.laid_cresset_sha_roots)] W) : GlobAt DS W := by
  have h1 : Lib.TabIs Tryd.prog W "cresset/sha.first" .u32 firstL := Lib.tabIs_of_head gFirst tFirst Tryd.underlying77 Tryd.underlying68 (by kernel_rfl) (by kernel_rfl) h
  have h2 : Lib.TabIs Tryd.prog W "cresset/sha.roots" .u32 rootsL := Lib.tabIs_of_head gRoots tRoots Tryd.underlying94 Tryd.underlying68 (by kernel_rfl) (by kernel_rfl) (laidMet.tail h)
  have put : ∀ {g : Nat} {name : String} {l : List Int}, Tryd.prog.globalNamed name = some g → Lib.TabIs Tryd.prog W name .u32 l → 0 < l.length → g < W.heap.size ∧ ∀ i, i < l.length → W.cell? ⟨g, i, none⟩ = some (.int .u32 (l.getD i 0)) := by
    intro g name l hg ht hl
    refine ⟨?_, fun i hi => ht.cell hg i hi⟩
    have h0 := ht.cell hg 0 hl
    unfold World.cell? at h0
    split at h0
    · rename_i hh
      exact (Array.getElem?_eq_some_iff.1 hh).1
    · cases h0
  intro g k l hg
  have hg : (bif Nat.beq g 0 then some (IntKind.u32, firstL) else bif Nat.beq g 1 then some (IntKind.u32, rootsL) else none) = some (k, l) := hg
  cases e1 : Nat.beq g 0 <;> rw [e1] at hg
  · cases e2 : Nat.beq g 1 <;> rw [e2] at hg
    · cases hg
    · simp only [cond_false, cond_true, Option.some.injEq, Prod.mk.injEq] at hg
      obtain ⟨rfl, rfl⟩ := hg
      obtain rfl := Nat.eq_of_beq_eq_true e2
      exact put gRoots h2 (by decide)
  · simp only [cond_true, Option.some.injEq, Prod.mk.injEq] at hg
    obtain ⟨rfl, rfl⟩ := hg
    obtain rfl := Nat.eq_of_beq_eq_true e1
    exact put gFirst h1 (by decide)
def layTab (l : List Int) : Obj → Obj
  | .cells _ t frozen => .cells (l.map (.int .u32)).toArray t frozen
  | o => o
noncomputable def laidWorld (os : Os) : World :=
  { World.holding Tryd.prog os ⟨#[], #[], []⟩ with heap := ((World.holding Tryd.prog os ⟨#[], #[], []⟩).heap.modify 0 (layTab firstL)).modify 1 (layTab rootsL) }
end Go.Laws
