/- Messages: written, read; the reference's. -/
import Derived.Test.YtbmjpcpmejibjaaW2
namespace Go.Num
open Go.Abs Go.Proofs Go.Shelf

def gw3 : Gam D0 := (13, checkD) :: (20, .tk 5 .u8 putT) :: (24, getD') :: (25, cloneD) :: (18, copyD D0) :: (16, sameD D0) :: gw2
theorem gw3_ok : GamOK Try.prog D0 gw3 := gam_cons check_ok (gam_tk put_ok (gam_cons get_ok (gam_cons clone_ok (gam_cons (copy_ok D0) (gam_cons (same_ok D0) gw2_ok)))))

theorem enc_bad_r (m : Msg) : runF Try.prog D0 gw3 200 Try.f12 [.agg m.P] [.is true] =
    some ((Go.Abs.AV.tup ((Go.Abs.A0.one (Go.Abs.Part.nil)) :: ((Go.Abs.A0.one (Go.Abs.Part.int Go.IntKind.i64 Bool.false (Go.Num.Msg.err (Go.Num.Msg.mk (m).1 (m).2 (m).3 (m).4 (m).5 (m).6 (m).7)))) :: ([] : List (A0 D0.τ))))), [((List.length (m).7) ≤ (9223372036854775807 : Nat)), (((Go.Num.Msg.err (Go.Num.Msg.mk (m).1 (m).2 (m).3 (m).4 (m).5 (m).6 (m).7)) != (0 : Int)) = Bool.true)]) := by kernel_rfl
theorem enc_bad (m : Msg)
    (h1 : ((List.length (m).7) ≤ (9223372036854775807 : Nat)))
    (h2 : (((Go.Num.Msg.err (Go.Num.Msg.mk (m).1 (m).2 (m).3 (m).4 (m).5 (m).6 (m).7)) != (0 : Int)) = Bool.true)) :
    ∃ ps, runF Try.prog D0 gw3 200 Try.f12 [.agg m.P] [.is true] = some ((Go.Abs.AV.tup ((Go.Abs.A0.one (Go.Abs.Part.nil)) :: ((Go.Abs.A0.one (Go.Abs.Part.int Go.IntKind.i64 Bool.false (Go.Num.Msg.err (Go.Num.Msg.mk (m).1 (m).2 (m).3 (m).4 (m).5 (m).6 (m).7)))) :: ([] : List (A0 D0.τ))))), ps) ∧ AllQ ps := ⟨_, enc_bad_r m, AllP.all ⟨h1, h2⟩⟩

theorem enc_ok_r (m : Msg) : runF Try.prog D0 gw3 200 Try.f12 [.agg m.P] [.is false] =
    some ((Go.Abs.AV.tup ((Go.Abs.A0.one (Go.Abs.Part.fresh (0 : Nat) (5 : Nat) Go.IntKind.u8 (((((((List.replicate (0 : Nat) (0 : Int)) ++ ((Go.IntKind.wrap Go.IntKind.u8 (m).1) :: ([] : List (Int)))) ++ (Go.Num.beB (4 : Nat) (m).2)) ++ ((Go.IntKind.wrap Go.IntKind.u8 (m).3) :: ((Go.IntKind.wrap Go.IntKind.u8 (m).4) :: ((Go.IntKind.wrap Go.IntKind.u8 (m).5) :: ([] : List (Int)))))) ++ (Go.Num.beB (8 : Nat) (m).6)) ++ (Go.Num.beB (2 : Nat) (((List.length (m).7) : Nat) : Int))) ++ (m).7))) :: ((Go.Abs.A0.one (Go.Abs.Part.int Go.IntKind.i64 Bool.true (0 : Int))) :: ([] : List (A0 D0.τ))))), [((List.length (m).7) ≤ (9223372036854775807 : Nat)), (((Go.Num.Msg.err (Go.Num.Msg.mk (m).1 (m).2 (m).3 (m).4 (m).5 (m).6 (m).7)) != (0 : Int)) = Bool.false), (Go.Abs.InI64 ((18 : Int) + (((List.length (m).7) : Nat) : Int))), ((0 : Int) ≤ (0 : Int)), ((0 : Int) ≤ ((18 : Int) + (((List.length (m).7) : Nat) : Int))), (((18 : Int) + (((List.length (m).7) : Nat) : Int)) ≤ (9223372036854775807 : Int)), (((((1 : Nat) : Nat) : Int) * ((18 : Int) + (((List.length (m).7) : Nat) : Int))) ≤ (281474976710656 : Int)), (((List.length (List.replicate (0 : Nat) (0 : Int))) + (1 : Nat)) ≤ (9223372036854775807 : Nat)), ((((List.length (List.replicate (0 : Nat) (0 : Int))) + (1 : Nat)) * (1 : Nat)) ≤ (140737488355328 : Nat)), ((0 : Int) ≤ (4 : Int)), ((4 : Int) ≤ (8 : Int)), ((List.length ((List.replicate (0 : Nat) (0 : Int)) ++ ((Go.IntKind.wrap Go.IntKind.u8 (m).1) :: ([] : List (Int))))) ≤ (140737488000000 : Nat)), (((List.length (((List.replicate (0 : Nat) (0 : Int)) ++ ((Go.IntKind.wrap Go.IntKind.u8 (m).1) :: ([] : List (Int)))) ++ (Go.Num.beB (4 : Nat) (m).2))) + (3 : Nat)) ≤ (9223372036854775807 : Nat)), ((((List.length (((List.replicate (0 : Nat) (0 : Int)) ++ ((Go.IntKind.wrap Go.IntKind.u8 (m).1) :: ([] : List (Int)))) ++ (Go.Num.beB (4 : Nat) (m).2))) + (3 : Nat)) * (1 : Nat)) ≤ (140737488355328 : Nat)), ((0 : Int) ≤ (8 : Int)), ((8 : Int) ≤ (8 : Int)), ((List.length ((((List.replicate (0 : Nat) (0 : Int)) ++ ((Go.IntKind.wrap Go.IntKind.u8 (m).1) :: ([] : List (Int)))) ++ (Go.Num.beB (4 : Nat) (m).2)) ++ ((Go.IntKind.wrap Go.IntKind.u8 (m).3) :: ((Go.IntKind.wrap Go.IntKind.u8 (m).4) :: ((Go.IntKind.wrap Go.IntKind.u8 (m).5) :: ([] : List (Int))))))) ≤ (140737488000000 : Nat)), ((0 : Int) ≤ (2 : Int)), ((2 : Int) ≤ (8 : Int)), ((List.length (((((List.replicate (0 : Nat) (0 : Int)) ++ ((Go.IntKind.wrap Go.IntKind.u8 (m).1) :: ([] : List (Int)))) ++ (Go.Num.beB (4 : Nat) (m).2)) ++ ((Go.IntKind.wrap Go.IntKind.u8 (m).3) :: ((Go.IntKind.wrap Go.IntKind.u8 (m).4) :: ((Go.IntKind.wrap Go.IntKind.u8 (m).5) :: ([] : List (Int)))))) ++ (Go.Num.beB (8 : Nat) (m).6))) ≤ (140737488000000 : Nat)), (((List.length ((((((List.replicate (0 : Nat) (0 : Int)) ++ ((Go.IntKind.wrap Go.IntKind.u8 (m).1) :: ([] : List (Int)))) ++ (Go.Num.beB (4 : Nat) (m).2)) ++ ((Go.IntKind.wrap Go.IntKind.u8 (m).3) :: ((Go.IntKind.wrap Go.IntKind.u8 (m).4) :: ((Go.IntKind.wrap Go.IntKind.u8 (m).5) :: ([] : List (Int)))))) ++ (Go.Num.beB (8 : Nat) (m).6)) ++ (Go.Num.beB (2 : Nat) (((List.length (m).7) : Nat) : Int)))) + (List.length (m).7)) ≤ (9223372036854775807 : Nat)), ((((List.length ((((((List.replicate (0 : Nat) (0 : Int)) ++ ((Go.IntKind.wrap Go.IntKind.u8 (m).1) :: ([] : List (Int)))) ++ (Go.Num.beB (4 : Nat) (m).2)) ++ ((Go.IntKind.wrap Go.IntKind.u8 (m).3) :: ((Go.IntKind.wrap Go.IntKind.u8 (m).4) :: ((Go.IntKind.wrap Go.IntKind.u8 (m).5) :: ([] : List (Int)))))) ++ (Go.Num.beB (8 : Nat) (m).6)) ++ (Go.Num.beB (2 : Nat) (((List.length (m).7) : Nat) : Int)))) + (List.length (m).7)) * (1 : Nat)) ≤ (140737488355328 : Nat))]) := by kernel_rfl
theorem enc_ok (m : Msg)
    (h1 : ((List.length (m).7) ≤ (9223372036854775807 : Nat)))
    (h2 : (((Go.Num.Msg.err (Go.Num.Msg.mk (m).1 (m).2 (m).3 (m).4 (m).5 (m).6 (m).7)) != (0 : Int)) = Bool.false))
    (h3 : (Go.Abs.InI64 ((18 : Int) + (((List.length (m).7) : Nat) : Int))))
    (h4 : ((0 : Int) ≤ ((18 : Int) + (((List.length (m).7) : Nat) : Int))))
    (h5 : (((18 : Int) + (((List.length (m).7) : Nat) : Int)) ≤ (9223372036854775807 : Int)))
    (h6 : (((((1 : Nat) : Nat) : Int) * ((18 : Int) + (((List.length (m).7) : Nat) : Int))) ≤ (281474976710656 : Int)))
    (h7 : (((List.length (List.replicate (0 : Nat) (0 : Int))) + (1 : Nat)) ≤ (9223372036854775807 : Nat)))
    (h8 : ((((List.length (List.replicate (0 : Nat) (0 : Int))) + (1 : Nat)) * (1 : Nat)) ≤ (140737488355328 : Nat)))
    (h9 : ((List.length ((List.replicate (0 : Nat) (0 : Int)) ++ ((Go.IntKind.wrap Go.IntKind.u8 (m).1) :: ([] : List (Int))))) ≤ (140737488000000 : Nat)))
    (h10 : (((List.length (((List.replicate (0 : Nat) (0 : Int)) ++ ((Go.IntKind.wrap Go.IntKind.u8 (m).1) :: ([] : List (Int)))) ++ (Go.Num.beB (4 : Nat) (m).2))) + (3 : Nat)) ≤ (9223372036854775807 : Nat)))
    (h11 : ((((List.length (((List.replicate (0 : Nat) (0 : Int)) ++ ((Go.IntKind.wrap Go.IntKind.u8 (m).1) :: ([] : List (Int)))) ++ (Go.Num.beB (4 : Nat) (m).2))) + (3 : Nat)) * (1 : Nat)) ≤ (140737488355328 : Nat)))
    (h12 : ((List.length ((((List.replicate (0 : Nat) (0 : Int)) ++ ((Go.IntKind.wrap Go.IntKind.u8 (m).1) :: ([] : List (Int)))) ++ (Go.Num.beB (4 : Nat) (m).2)) ++ ((Go.IntKind.wrap Go.IntKind.u8 (m).3) :: ((Go.IntKind.wrap Go.IntKind.u8 (m).4) :: ((Go.IntKind.wrap Go.IntKind.u8 (m).5) :: ([] : List (Int))))))) ≤ (140737488000000 : Nat)))
    (h13 : ((List.length (((((List.replicate (0 : Nat) (0 : Int)) ++ ((Go.IntKind.wrap Go.IntKind.u8 (m).1) :: ([] : List (Int)))) ++ (Go.Num.beB (4 : Nat) (m).2)) ++ ((Go.IntKind.wrap Go.IntKind.u8 (m).3) :: ((Go.IntKind.wrap Go.IntKind.u8 (m).4) :: ((Go.IntKind.wrap Go.IntKind.u8 (m).5) :: ([] : List (Int)))))) ++ (Go.Num.beB (8 : Nat) (m).6))) ≤ (140737488000000 : Nat)))
    (h14 : (((List.length ((((((List.replicate (0 : Nat) (0 : Int)) ++ ((Go.IntKind.wrap Go.IntKind.u8 (m).1) :: ([] : List (Int)))) ++ (Go.Num.beB (4 : Nat) (m).2)) ++ ((Go.IntKind.wrap Go.IntKind.u8 (m).3) :: ((Go.IntKind.wrap Go.IntKind.u8 (m).4) :: ((Go.IntKind.wrap Go.IntKind.u8 (m).5) :: ([] : List (Int)))))) ++ (Go.Num.beB (8 : Nat) (m).6)) ++ (Go.Num.beB (2 : Nat) (((List.length (m).7) : Nat) : Int)))) + (List.length (m).7)) ≤ (9223372036854775807 : Nat)))
    (h15 : ((((List.length ((((((List.replicate (0 : Nat) (0 : Int)) ++ ((Go.IntKind.wrap Go.IntKind.u8 (m).1) :: ([] : List (Int)))) ++ (Go.Num.beB (4 : Nat) (m).2)) ++ ((Go.IntKind.wrap Go.IntKind.u8 (m).3) :: ((Go.IntKind.wrap Go.IntKind.u8 (m).4) :: ((Go.IntKind.wrap Go.IntKind.u8 (m).5) :: ([] : List (Int)))))) ++ (Go.Num.beB (8 : Nat) (m).6)) ++ (Go.Num.beB (2 : Nat) (((List.length (m).7) : Nat) : Int)))) + (List.length (m).7)) * (1 : Nat)) ≤ (140737488355328 : Nat))) :
    ∃ ps, runF Try.prog D0 gw3 200 Try.f12 [.agg m.P] [.is false] = some ((Go.Abs.AV.tup ((Go.Abs.A0.one (Go.Abs.Part.fresh (0 : Nat) (5 : Nat) Go.IntKind.u8 (((((((List.replicate (0 : Nat) (0 : Int)) ++ ((Go.IntKind.wrap Go.IntKind.u8 (m).1) :: ([] : List (Int)))) ++ (Go.Num.beB (4 : Nat) (m).2)) ++ ((Go.IntKind.wrap Go.IntKind.u8 (m).3) :: ((Go.IntKind.wrap Go.IntKind.u8 (m).4) :: ((Go.IntKind.wrap Go.IntKind.u8 (m).5) :: ([] : List (Int)))))) ++ (Go.Num.beB (8 : Nat) (m).6)) ++ (Go.Num.beB (2 : Nat) (((List.length (m).7) : Nat) : Int))) ++ (m).7))) :: ((Go.Abs.A0.one (Go.Abs.Part.int Go.IntKind.i64 Bool.true (0 : Int))) :: ([] : List (A0 D0.τ))))), ps) ∧ AllQ ps := ⟨_, enc_ok_r m, AllP.all ⟨h1, h2, h3, (show ((0 : Int) ≤ (0 : Int)) from by decide), h4, h5, h6, h7, h8, (show ((0 : Int) ≤ (4 : Int)) from by decide), (show ((4 : Int) ≤ (8 : Int)) from by decide), h9, h10, h11, (show ((0 : Int) ≤ (8 : Int)) from by decide), (show ((8 : Int) ≤ (8 : Int)) from by decide), h12, (show ((0 : Int) ≤ (2 : Int)) from by decide), (show ((2 : Int) ≤ (8 : Int)) from by decide), h13, h14, h15⟩⟩

theorem dec_short_r (b : List Int) : runF Try.prog D0 gw3 200 Try.f19 [.one (.words .u8 b)] [.is true] =
    some ((Go.Abs.AV.tup ((Go.Abs.A0.agg ((Go.Abs.Part.int Go.IntKind.i64 Bool.true (0 : Int)) :: ((Go.Abs.Part.int Go.IntKind.i64 Bool.true (0 : Int)) :: ((Go.Abs.Part.int Go.IntKind.i64 Bool.true (0 : Int)) :: ((Go.Abs.Part.int Go.IntKind.i64 Bool.true (0 : Int)) :: ((Go.Abs.Part.int Go.IntKind.i64 Bool.true (0 : Int)) :: ((Go.Abs.Part.int Go.IntKind.i64 Bool.true (0 : Int)) :: ((Go.Abs.Part.nil) :: ([] : List (Part D0.τ)))))))))) :: ((Go.Abs.A0.one (Go.Abs.Part.int Go.IntKind.i64 Bool.true (16 : Int))) :: ([] : List (A0 D0.τ))))), [((decide ((((List.length b) : Nat) : Int) < (18 : Int))) = Bool.true)]) := by kernel_rfl
theorem dec_short (b : List Int)
    (h1 : ((decide ((((List.length b) : Nat) : Int) < (18 : Int))) = Bool.true)) :
    ∃ ps, runF Try.prog D0 gw3 200 Try.f19 [.one (.words .u8 b)] [.is true] = some ((Go.Abs.AV.tup ((Go.Abs.A0.agg ((Go.Abs.Part.int Go.IntKind.i64 Bool.true (0 : Int)) :: ((Go.Abs.Part.int Go.IntKind.i64 Bool.true (0 : Int)) :: ((Go.Abs.Part.int Go.IntKind.i64 Bool.true (0 : Int)) :: ((Go.Abs.Part.int Go.IntKind.i64 Bool.true (0 : Int)) :: ((Go.Abs.Part.int Go.IntKind.i64 Bool.true (0 : Int)) :: ((Go.Abs.Part.int Go.IntKind.i64 Bool.true (0 : Int)) :: ((Go.Abs.Part.nil) :: ([] : List (Part D0.τ)))))))))) :: ((Go.Abs.A0.one (Go.Abs.Part.int Go.IntKind.i64 Bool.true (16 : Int))) :: ([] : List (A0 D0.τ))))), ps) ∧ AllQ ps := ⟨_, dec_short_r b, AllP.all h1⟩

theorem dec_short2_r (b : List Int) : runF Try.prog D0 gw3 200 Try.f19 [.one (.words .u8 b)] [.is false, .is true] =
    some ((Go.Abs.AV.tup ((Go.Abs.A0.agg ((Go.Abs.Part.int Go.IntKind.i64 Bool.true (0 : Int)) :: ((Go.Abs.Part.int Go.IntKind.i64 Bool.true (0 : Int)) :: ((Go.Abs.Part.int Go.IntKind.i64 Bool.true (0 : Int)) :: ((Go.Abs.Part.int Go.IntKind.i64 Bool.true (0 : Int)) :: ((Go.Abs.Part.int Go.IntKind.i64 Bool.true (0 : Int)) :: ((Go.Abs.Part.int Go.IntKind.i64 Bool.true (0 : Int)) :: ((Go.Abs.Part.nil) :: ([] : List (Part D0.τ)))))))))) :: ((Go.Abs.A0.one (Go.Abs.Part.int Go.IntKind.i64 Bool.true (16 : Int))) :: ([] : List (A0 D0.τ))))), [((decide ((((List.length b) : Nat) : Int) < (18 : Int))) = Bool.false), ((0 : Int) ≤ (18 : Int)), ((18 : Int) ≤ (((List.length b) : Nat) : Int)), ((((List.length b) : Nat) : Int) ≤ (((List.length b) : Nat) : Int)), ((0 : Int) ≤ (16 : Int)), ((16 : Int) ≤ (18 : Int)), ((18 : Int) ≤ (((List.length b) : Nat) : Int)), (Go.Num.InB (List.drop (16 : Nat) (List.take (18 : Nat) b))), ((List.length (List.drop (16 : Nat) (List.take (18 : Nat) b))) ≤ (9223372036854775806 : Nat)), ((decide ((((List.length (List.drop (18 : Nat) (List.take (Int.toNat (((List.length b) : Nat) : Int)) b))) : Nat) : Int) < (Go.Num.getV (List.drop (16 : Nat) (List.take (18 : Nat) b))))) = Bool.true)]) := by kernel_rfl
theorem dec_short2 (b : List Int)
    (h1 : ((decide ((((List.length b) : Nat) : Int) < (18 : Int))) = Bool.false))
    (h2 : ((18 : Int) ≤ (((List.length b) : Nat) : Int)))
    (h3 : ((((List.length b) : Nat) : Int) ≤ (((List.length b) : Nat) : Int)))
    (h4 : (Go.Num.InB (List.drop (16 : Nat) (List.take (18 : Nat) b))))
    (h5 : ((List.length (List.drop (16 : Nat) (List.take (18 : Nat) b))) ≤ (9223372036854775806 : Nat)))
    (h6 : ((decide ((((List.length (List.drop (18 : Nat) (List.take (Int.toNat (((List.length b) : Nat) : Int)) b))) : Nat) : Int) < (Go.Num.getV (List.drop (16 : Nat) (List.take (18 : Nat) b))))) = Bool.true)) :
    ∃ ps, runF Try.prog D0 gw3 200 Try.f19 [.one (.words .u8 b)] [.is false, .is true] = some ((Go.Abs.AV.tup ((Go.Abs.A0.agg ((Go.Abs.Part.int Go.IntKind.i64 Bool.true (0 : Int)) :: ((Go.Abs.Part.int Go.IntKind.i64 Bool.true (0 : Int)) :: ((Go.Abs.Part.int Go.IntKind.i64 Bool.true (0 : Int)) :: ((Go.Abs.Part.int Go.IntKind.i64 Bool.true (0 : Int)) :: ((Go.Abs.Part.int Go.IntKind.i64 Bool.true (0 : Int)) :: ((Go.Abs.Part.int Go.IntKind.i64 Bool.true (0 : Int)) :: ((Go.Abs.Part.nil) :: ([] : List (Part D0.τ)))))))))) :: ((Go.Abs.A0.one (Go.Abs.Part.int Go.IntKind.i64 Bool.true (16 : Int))) :: ([] : List (A0 D0.τ))))), ps) ∧ AllQ ps := ⟨_, dec_short2_r b, AllP.all ⟨h1, (show ((0 : Int) ≤ (18 : Int)) from by decide), h2, h3, (show ((0 : Int) ≤ (16 : Int)) from by decide), (show ((16 : Int) ≤ (18 : Int)) from by decide), h2, h4, h5, h6⟩⟩

theorem dec_trail_r (b : List Int) : runF Try.prog D0 gw3 200 Try.f19 [.one (.words .u8 b)] [.is false, .is false, .is true] =
    some ((Go.Abs.AV.tup ((Go.Abs.A0.agg ((Go.Abs.Part.int Go.IntKind.i64 Bool.true (0 : Int)) :: ((Go.Abs.Part.int Go.IntKind.i64 Bool.true (0 : Int)) :: ((Go.Abs.Part.int Go.IntKind.i64 Bool.true (0 : Int)) :: ((Go.Abs.Part.int Go.IntKind.i64 Bool.true (0 : Int)) :: ((Go.Abs.Part.int Go.IntKind.i64 Bool.true (0 : Int)) :: ((Go.Abs.Part.int Go.IntKind.i64 Bool.true (0 : Int)) :: ((Go.Abs.Part.nil) :: ([] : List (Part D0.τ)))))))))) :: ((Go.Abs.A0.one (Go.Abs.Part.int Go.IntKind.i64 Bool.true (17 : Int))) :: ([] : List (A0 D0.τ))))), [((decide ((((List.length b) : Nat) : Int) < (18 : Int))) = Bool.false), ((0 : Int) ≤ (18 : Int)), ((18 : Int) ≤ (((List.length b) : Nat) : Int)), ((((List.length b) : Nat) : Int) ≤ (((List.length b) : Nat) : Int)), ((0 : Int) ≤ (16 : Int)), ((16 : Int) ≤ (18 : Int)), ((18 : Int) ≤ (((List.length b) : Nat) : Int)), (Go.Num.InB (List.drop (16 : Nat) (List.take (18 : Nat) b))), ((List.length (List.drop (16 : Nat) (List.take (18 : Nat) b))) ≤ (9223372036854775806 : Nat)), ((decide ((((List.length (List.drop (18 : Nat) (List.take (Int.toNat (((List.length b) : Nat) : Int)) b))) : Nat) : Int) < (Go.Num.getV (List.drop (16 : Nat) (List.take (18 : Nat) b))))) = Bool.false), ((decide ((((List.length (List.drop (18 : Nat) (List.take (Int.toNat (((List.length b) : Nat) : Int)) b))) : Nat) : Int) > (Go.Num.getV (List.drop (16 : Nat) (List.take (18 : Nat) b))))) = Bool.true)]) := by kernel_rfl
theorem dec_trail (b : List Int)
    (h1 : ((decide ((((List.length b) : Nat) : Int) < (18 : Int))) = Bool.false))
    (h2 : ((18 : Int) ≤ (((List.length b) : Nat) : Int)))
    (h3 : ((((List.length b) : Nat) : Int) ≤ (((List.length b) : Nat) : Int)))
    (h4 : (Go.Num.InB (List.drop (16 : Nat) (List.take (18 : Nat) b))))
    (h5 : ((List.length (List.drop (16 : Nat) (List.take (18 : Nat) b))) ≤ (9223372036854775806 : Nat)))
    (h6 : ((decide ((((List.length (List.drop (18 : Nat) (List.take (Int.toNat (((List.length b) : Nat) : Int)) b))) : Nat) : Int) < (Go.Num.getV (List.drop (16 : Nat) (List.take (18 : Nat) b))))) = Bool.false))
    (h7 : ((decide ((((List.length (List.drop (18 : Nat) (List.take (Int.toNat (((List.length b) : Nat) : Int)) b))) : Nat) : Int) > (Go.Num.getV (List.drop (16 : Nat) (List.take (18 : Nat) b))))) = Bool.true)) :
    ∃ ps, runF Try.prog D0 gw3 200 Try.f19 [.one (.words .u8 b)] [.is false, .is false, .is true] = some ((Go.Abs.AV.tup ((Go.Abs.A0.agg ((Go.Abs.Part.int Go.IntKind.i64 Bool.true (0 : Int)) :: ((Go.Abs.Part.int Go.IntKind.i64 Bool.true (0 : Int)) :: ((Go.Abs.Part.int Go.IntKind.i64 Bool.true (0 : Int)) :: ((Go.Abs.Part.int Go.IntKind.i64 Bool.true (0 : Int)) :: ((Go.Abs.Part.int Go.IntKind.i64 Bool.true (0 : Int)) :: ((Go.Abs.Part.int Go.IntKind.i64 Bool.true (0 : Int)) :: ((Go.Abs.Part.nil) :: ([] : List (Part D0.τ)))))))))) :: ((Go.Abs.A0.one (Go.Abs.Part.int Go.IntKind.i64 Bool.true (17 : Int))) :: ([] : List (A0 D0.τ))))), ps) ∧ AllQ ps := ⟨_, dec_trail_r b, AllP.all ⟨h1, (show ((0 : Int) ≤ (18 : Int)) from by decide), h2, h3, (show ((0 : Int) ≤ (16 : Int)) from by decide), (show ((16 : Int) ≤ (18 : Int)) from by decide), h2, h4, h5, h6, h7⟩⟩

theorem dec_bad_r (b : List Int) : runF Try.prog D0 gw3 200 Try.f19 [.one (.words .u8 b)] [.is false, .is false, .is false, .is true] =
    some ((Go.Abs.AV.tup ((Go.Abs.A0.agg ((Go.Abs.Part.int Go.IntKind.i64 Bool.true (0 : Int)) :: ((Go.Abs.Part.int Go.IntKind.i64 Bool.true (0 : Int)) :: ((Go.Abs.Part.int Go.IntKind.i64 Bool.true (0 : Int)) :: ((Go.Abs.Part.int Go.IntKind.i64 Bool.true (0 : Int)) :: ((Go.Abs.Part.int Go.IntKind.i64 Bool.true (0 : Int)) :: ((Go.Abs.Part.int Go.IntKind.i64 Bool.true (0 : Int)) :: ((Go.Abs.Part.nil) :: ([] : List (Part D0.τ)))))))))) :: ((Go.Abs.A0.one (Go.Abs.Part.int Go.IntKind.i64 Bool.false (Go.Num.Msg.err (Go.Num.Msg.mk (Go.IntKind.wrap Go.IntKind.i64 (List.getD b (0 : Nat) (0 : Int))) (Go.Num.getV (List.drop (1 : Nat) (List.take (5 : Nat) b))) (Go.IntKind.wrap Go.IntKind.i64 (List.getD b (5 : Nat) (0 : Int))) (Go.IntKind.wrap Go.IntKind.i64 (List.getD b (6 : Nat) (0 : Int))) (Go.IntKind.wrap Go.IntKind.i64 (List.getD b (7 : Nat) (0 : Int))) (Go.Num.getV (List.drop (8 : Nat) (List.take (16 : Nat) b))) (List.drop (18 : Nat) (List.take (Int.toNat (((List.length b) : Nat) : Int)) b)))))) :: ([] : List (A0 D0.τ))))), [((decide ((((List.length b) : Nat) : Int) < (18 : Int))) = Bool.false), ((0 : Int) ≤ (18 : Int)), ((18 : Int) ≤ (((List.length b) : Nat) : Int)), ((((List.length b) : Nat) : Int) ≤ (((List.length b) : Nat) : Int)), ((0 : Int) ≤ (16 : Int)), ((16 : Int) ≤ (18 : Int)), ((18 : Int) ≤ (((List.length b) : Nat) : Int)), (Go.Num.InB (List.drop (16 : Nat) (List.take (18 : Nat) b))), ((List.length (List.drop (16 : Nat) (List.take (18 : Nat) b))) ≤ (9223372036854775806 : Nat)), ((decide ((((List.length (List.drop (18 : Nat) (List.take (Int.toNat (((List.length b) : Nat) : Int)) b))) : Nat) : Int) < (Go.Num.getV (List.drop (16 : Nat) (List.take (18 : Nat) b))))) = Bool.false), ((decide ((((List.length (List.drop (18 : Nat) (List.take (Int.toNat (((List.length b) : Nat) : Int)) b))) : Nat) : Int) > (Go.Num.getV (List.drop (16 : Nat) (List.take (18 : Nat) b))))) = Bool.false), ((0 : Int) ≤ (0 : Int)), ((0 : Int) < (((List.length b) : Nat) : Int)), ((0 : Int) ≤ (1 : Int)), ((1 : Int) ≤ (5 : Int)), ((5 : Int) ≤ (((List.length b) : Nat) : Int)), (Go.Num.InB (List.drop (1 : Nat) (List.take (5 : Nat) b))), ((List.length (List.drop (1 : Nat) (List.take (5 : Nat) b))) ≤ (9223372036854775806 : Nat)), ((0 : Int) ≤ (5 : Int)), ((5 : Int) < (((List.length b) : Nat) : Int)), ((0 : Int) ≤ (6 : Int)), ((6 : Int) < (((List.length b) : Nat) : Int)), ((0 : Int) ≤ (7 : Int)), ((7 : Int) < (((List.length b) : Nat) : Int)), ((0 : Int) ≤ (8 : Int)), ((8 : Int) ≤ (16 : Int)), ((16 : Int) ≤ (((List.length b) : Nat) : Int)), (Go.Num.InB (List.drop (8 : Nat) (List.take (16 : Nat) b))), ((List.length (List.drop (8 : Nat) (List.take (16 : Nat) b))) ≤ (9223372036854775806 : Nat)), ((List.length (List.drop (18 : Nat) (List.take (Int.toNat (((List.length b) : Nat) : Int)) b))) ≤ (9223372036854775807 : Nat)), (((Go.Num.Msg.err (Go.Num.Msg.mk (Go.IntKind.wrap Go.IntKind.i64 (List.getD b (0 : Nat) (0 : Int))) (Go.Num.getV (List.drop (1 : Nat) (List.take (5 : Nat) b))) (Go.IntKind.wrap Go.IntKind.i64 (List.getD b (5 : Nat) (0 : Int))) (Go.IntKind.wrap Go.IntKind.i64 (List.getD b (6 : Nat) (0 : Int))) (Go.IntKind.wrap Go.IntKind.i64 (List.getD b (7 : Nat) (0 : Int))) (Go.Num.getV (List.drop (8 : Nat) (List.take (16 : Nat) b))) (List.drop (18 : Nat) (List.take (Int.toNat (((List.length b) : Nat) : Int)) b)))) != (0 : Int)) = Bool.true)]) := by kernel_rfl
theorem dec_bad (b : List Int)
    (h1 : ((decide ((((List.length b) : Nat) : Int) < (18 : Int))) = Bool.false))
    (h2 : ((18 : Int) ≤ (((List.length b) : Nat) : Int)))
    (h3 : ((((List.length b) : Nat) : Int) ≤ (((List.length b) : Nat) : Int)))
    (h4 : (Go.Num.InB (List.drop (16 : Nat) (List.take (18 : Nat) b))))
    (h5 : ((List.length (List.drop (16 : Nat) (List.take (18 : Nat) b))) ≤ (9223372036854775806 : Nat)))
    (h6 : ((decide ((((List.length (List.drop (18 : Nat) (List.take (Int.toNat (((List.length b) : Nat) : Int)) b))) : Nat) : Int) < (Go.Num.getV (List.drop (16 : Nat) (List.take (18 : Nat) b))))) = Bool.false))
    (h7 : ((decide ((((List.length (List.drop (18 : Nat) (List.take (Int.toNat (((List.length b) : Nat) : Int)) b))) : Nat) : Int) > (Go.Num.getV (List.drop (16 : Nat) (List.take (18 : Nat) b))))) = Bool.false))
    (h8 : ((0 : Int) < (((List.length b) : Nat) : Int)))
    (h9 : ((5 : Int) ≤ (((List.length b) : Nat) : Int)))
    (h10 : (Go.Num.InB (List.drop (1 : Nat) (List.take (5 : Nat) b))))
    (h11 : ((List.length (List.drop (1 : Nat) (List.take (5 : Nat) b))) ≤ (9223372036854775806 : Nat)))
    (h12 : ((5 : Int) < (((List.length b) : Nat) : Int)))
    (h13 : ((6 : Int) < (((List.length b) : Nat) : Int)))
    (h14 : ((7 : Int) < (((List.length b) : Nat) : Int)))
    (h15 : ((16 : Int) ≤ (((List.length b) : Nat) : Int)))
    (h16 : (Go.Num.InB (List.drop (8 : Nat) (List.take (16 : Nat) b))))
    (h17 : ((List.length (List.drop (8 : Nat) (List.take (16 : Nat) b))) ≤ (9223372036854775806 : Nat)))
    (h18 : ((List.length (List.drop (18 : Nat) (List.take (Int.toNat (((List.length b) : Nat) : Int)) b))) ≤ (9223372036854775807 : Nat)))
    (h19 : (((Go.Num.Msg.err (Go.Num.Msg.mk (Go.IntKind.wrap Go.IntKind.i64 (List.getD b (0 : Nat) (0 : Int))) (Go.Num.getV (List.drop (1 : Nat) (List.take (5 : Nat) b))) (Go.IntKind.wrap Go.IntKind.i64 (List.getD b (5 : Nat) (0 : Int))) (Go.IntKind.wrap Go.IntKind.i64 (List.getD b (6 : Nat) (0 : Int))) (Go.IntKind.wrap Go.IntKind.i64 (List.getD b (7 : Nat) (0 : Int))) (Go.Num.getV (List.drop (8 : Nat) (List.take (16 : Nat) b))) (List.drop (18 : Nat) (List.take (Int.toNat (((List.length b) : Nat) : Int)) b)))) != (0 : Int)) = Bool.true)) :
    ∃ ps, runF Try.prog D0 gw3 200 Try.f19 [.one (.words .u8 b)] [.is false, .is false, .is false, .is true] = some ((Go.Abs.AV.tup ((Go.Abs.A0.agg ((Go.Abs.Part.int Go.IntKind.i64 Bool.true (0 : Int)) :: ((Go.Abs.Part.int Go.IntKind.i64 Bool.true (0 : Int)) :: ((Go.Abs.Part.int Go.IntKind.i64 Bool.true (0 : Int)) :: ((Go.Abs.Part.int Go.IntKind.i64 Bool.true (0 : Int)) :: ((Go.Abs.Part.int Go.IntKind.i64 Bool.true (0 : Int)) :: ((Go.Abs.Part.int Go.IntKind.i64 Bool.true (0 : Int)) :: ((Go.Abs.Part.nil) :: ([] : List (Part D0.τ)))))))))) :: ((Go.Abs.A0.one (Go.Abs.Part.int Go.IntKind.i64 Bool.false (Go.Num.Msg.err (Go.Num.Msg.mk (Go.IntKind.wrap Go.IntKind.i64 (List.getD b (0 : Nat) (0 : Int))) (Go.Num.getV (List.drop (1 : Nat) (List.take (5 : Nat) b))) (Go.IntKind.wrap Go.IntKind.i64 (List.getD b (5 : Nat) (0 : Int))) (Go.IntKind.wrap Go.IntKind.i64 (List.getD b (6 : Nat) (0 : Int))) (Go.IntKind.wrap Go.IntKind.i64 (List.getD b (7 : Nat) (0 : Int))) (Go.Num.getV (List.drop (8 : Nat) (List.take (16 : Nat) b))) (List.drop (18 : Nat) (List.take (Int.toNat (((List.length b) : Nat) : Int)) b)))))) :: ([] : List (A0 D0.τ))))), ps) ∧ AllQ ps := ⟨_, dec_bad_r b, AllP.all ⟨h1, (show ((0 : Int) ≤ (18 : Int)) from by decide), h2, h3, (show ((0 : Int) ≤ (16 : Int)) from by decide), (show ((16 : Int) ≤ (18 : Int)) from by decide), h2, h4, h5, h6, h7, (show ((0 : Int) ≤ (0 : Int)) from by decide), h8, (show ((0 : Int) ≤ (1 : Int)) from by decide), (show ((1 : Int) ≤ (5 : Int)) from by decide), h9, h10, h11, (show ((0 : Int) ≤ (5 : Int)) from by decide), h12, (show ((0 : Int) ≤ (6 : Int)) from by decide), h13, (show ((0 : Int) ≤ (7 : Int)) from by decide), h14, (show ((0 : Int) ≤ (8 : Int)) from by decide), (show ((8 : Int) ≤ (16 : Int)) from by decide), h15, h16, h17, h18, h19⟩⟩

theorem dec_ok_r (b : List Int) : runF Try.prog D0 gw3 200 Try.f19 [.one (.words .u8 b)] [.is false, .is false, .is false, .is false] =
    some ((Go.Abs.AV.tup ((Go.Abs.A0.agg ((Go.Abs.Part.int Go.IntKind.i64 Bool.false (Go.IntKind.wrap Go.IntKind.i64 (List.getD b (0 : Nat) (0 : Int)))) :: ((Go.Abs.Part.int Go.IntKind.i64 Bool.false (Go.Num.getV (List.drop (1 : Nat) (List.take (5 : Nat) b)))) :: ((Go.Abs.Part.int Go.IntKind.i64 Bool.false (Go.IntKind.wrap Go.IntKind.i64 (List.getD b (5 : Nat) (0 : Int)))) :: ((Go.Abs.Part.int Go.IntKind.i64 Bool.false (Go.IntKind.wrap Go.IntKind.i64 (List.getD b (6 : Nat) (0 : Int)))) :: ((Go.Abs.Part.int Go.IntKind.i64 Bool.false (Go.IntKind.wrap Go.IntKind.i64 (List.getD b (7 : Nat) (0 : Int)))) :: ((Go.Abs.Part.int Go.IntKind.i64 Bool.false (Go.Num.getV (List.drop (8 : Nat) (List.take (16 : Nat) b)))) :: ((Go.Abs.Part.fresh (0 : Nat) (5 : TypeId) Go.IntKind.u8 (List.drop (18 : Nat) (List.take (Int.toNat (((List.length b) : Nat) : Int)) b))) :: ([] : List (Part D0.τ)))))))))) :: ((Go.Abs.A0.one (Go.Abs.Part.int Go.IntKind.i64 Bool.true (0 : Int))) :: ([] : List (A0 D0.τ))))), [((decide ((((List.length b) : Nat) : Int) < (18 : Int))) = Bool.false), ((0 : Int) ≤ (18 : Int)), ((18 : Int) ≤ (((List.length b) : Nat) : Int)), ((((List.length b) : Nat) : Int) ≤ (((List.length b) : Nat) : Int)), ((0 : Int) ≤ (16 : Int)), ((16 : Int) ≤ (18 : Int)), ((18 : Int) ≤ (((List.length b) : Nat) : Int)), (Go.Num.InB (List.drop (16 : Nat) (List.take (18 : Nat) b))), ((List.length (List.drop (16 : Nat) (List.take (18 : Nat) b))) ≤ (9223372036854775806 : Nat)), ((decide ((((List.length (List.drop (18 : Nat) (List.take (Int.toNat (((List.length b) : Nat) : Int)) b))) : Nat) : Int) < (Go.Num.getV (List.drop (16 : Nat) (List.take (18 : Nat) b))))) = Bool.false), ((decide ((((List.length (List.drop (18 : Nat) (List.take (Int.toNat (((List.length b) : Nat) : Int)) b))) : Nat) : Int) > (Go.Num.getV (List.drop (16 : Nat) (List.take (18 : Nat) b))))) = Bool.false), ((0 : Int) ≤ (0 : Int)), ((0 : Int) < (((List.length b) : Nat) : Int)), ((0 : Int) ≤ (1 : Int)), ((1 : Int) ≤ (5 : Int)), ((5 : Int) ≤ (((List.length b) : Nat) : Int)), (Go.Num.InB (List.drop (1 : Nat) (List.take (5 : Nat) b))), ((List.length (List.drop (1 : Nat) (List.take (5 : Nat) b))) ≤ (9223372036854775806 : Nat)), ((0 : Int) ≤ (5 : Int)), ((5 : Int) < (((List.length b) : Nat) : Int)), ((0 : Int) ≤ (6 : Int)), ((6 : Int) < (((List.length b) : Nat) : Int)), ((0 : Int) ≤ (7 : Int)), ((7 : Int) < (((List.length b) : Nat) : Int)), ((0 : Int) ≤ (8 : Int)), ((8 : Int) ≤ (16 : Int)), ((16 : Int) ≤ (((List.length b) : Nat) : Int)), (Go.Num.InB (List.drop (8 : Nat) (List.take (16 : Nat) b))), ((List.length (List.drop (8 : Nat) (List.take (16 : Nat) b))) ≤ (9223372036854775806 : Nat)), ((List.length (List.drop (18 : Nat) (List.take (Int.toNat (((List.length b) : Nat) : Int)) b))) ≤ (9223372036854775807 : Nat)), (((Go.Num.Msg.err (Go.Num.Msg.mk (Go.IntKind.wrap Go.IntKind.i64 (List.getD b (0 : Nat) (0 : Int))) (Go.Num.getV (List.drop (1 : Nat) (List.take (5 : Nat) b))) (Go.IntKind.wrap Go.IntKind.i64 (List.getD b (5 : Nat) (0 : Int))) (Go.IntKind.wrap Go.IntKind.i64 (List.getD b (6 : Nat) (0 : Int))) (Go.IntKind.wrap Go.IntKind.i64 (List.getD b (7 : Nat) (0 : Int))) (Go.Num.getV (List.drop (8 : Nat) (List.take (16 : Nat) b))) (List.drop (18 : Nat) (List.take (Int.toNat (((List.length b) : Nat) : Int)) b)))) != (0 : Int)) = Bool.false), ((List.length (List.drop (18 : Nat) (List.take (Int.toNat (((List.length b) : Nat) : Int)) b))) ≤ (140737488355328 : Nat))]) := by kernel_rfl
theorem dec_ok (b : List Int)
    (h1 : ((decide ((((List.length b) : Nat) : Int) < (18 : Int))) = Bool.false))
    (h2 : ((18 : Int) ≤ (((List.length b) : Nat) : Int)))
    (h3 : ((((List.length b) : Nat) : Int) ≤ (((List.length b) : Nat) : Int)))
    (h4 : (Go.Num.InB (List.drop (16 : Nat) (List.take (18 : Nat) b))))
    (h5 : ((List.length (List.drop (16 : Nat) (List.take (18 : Nat) b))) ≤ (9223372036854775806 : Nat)))
    (h6 : ((decide ((((List.length (List.drop (18 : Nat) (List.take (Int.toNat (((List.length b) : Nat) : Int)) b))) : Nat) : Int) < (Go.Num.getV (List.drop (16 : Nat) (List.take (18 : Nat) b))))) = Bool.false))
    (h7 : ((decide ((((List.length (List.drop (18 : Nat) (List.take (Int.toNat (((List.length b) : Nat) : Int)) b))) : Nat) : Int) > (Go.Num.getV (List.drop (16 : Nat) (List.take (18 : Nat) b))))) = Bool.false))
    (h8 : ((0 : Int) < (((List.length b) : Nat) : Int)))
    (h9 : ((5 : Int) ≤ (((List.length b) : Nat) : Int)))
    (h10 : (Go.Num.InB (List.drop (1 : Nat) (List.take (5 : Nat) b))))
    (h11 : ((List.length (List.drop (1 : Nat) (List.take (5 : Nat) b))) ≤ (9223372036854775806 : Nat)))
    (h12 : ((5 : Int) < (((List.length b) : Nat) : Int)))
    (h13 : ((6 : Int) < (((List.length b) : Nat) : Int)))
    (h14 : ((7 : Int) < (((List.length b) : Nat) : Int)))
    (h15 : ((16 : Int) ≤ (((List.length b) : Nat) : Int)))
    (h16 : (Go.Num.InB (List.drop (8 : Nat) (List.take (16 : Nat) b))))
    (h17 : ((List.length (List.drop (8 : Nat) (List.take (16 : Nat) b))) ≤ (9223372036854775806 : Nat)))
    (h18 : ((List.length (List.drop (18 : Nat) (List.take (Int.toNat (((List.length b) : Nat) : Int)) b))) ≤ (9223372036854775807 : Nat)))
    (h19 : (((Go.Num.Msg.err (Go.Num.Msg.mk (Go.IntKind.wrap Go.IntKind.i64 (List.getD b (0 : Nat) (0 : Int))) (Go.Num.getV (List.drop (1 : Nat) (List.take (5 : Nat) b))) (Go.IntKind.wrap Go.IntKind.i64 (List.getD b (5 : Nat) (0 : Int))) (Go.IntKind.wrap Go.IntKind.i64 (List.getD b (6 : Nat) (0 : Int))) (Go.IntKind.wrap Go.IntKind.i64 (List.getD b (7 : Nat) (0 : Int))) (Go.Num.getV (List.drop (8 : Nat) (List.take (16 : Nat) b))) (List.drop (18 : Nat) (List.take (Int.toNat (((List.length b) : Nat) : Int)) b)))) != (0 : Int)) = Bool.false))
    (h20 : ((List.length (List.drop (18 : Nat) (List.take (Int.toNat (((List.length b) : Nat) : Int)) b))) ≤ (140737488355328 : Nat))) :
    ∃ ps, runF Try.prog D0 gw3 200 Try.f19 [.one (.words .u8 b)] [.is false, .is false, .is false, .is false] = some ((Go.Abs.AV.tup ((Go.Abs.A0.agg ((Go.Abs.Part.int Go.IntKind.i64 Bool.false (Go.IntKind.wrap Go.IntKind.i64 (List.getD b (0 : Nat) (0 : Int)))) :: ((Go.Abs.Part.int Go.IntKind.i64 Bool.false (Go.Num.getV (List.drop (1 : Nat) (List.take (5 : Nat) b)))) :: ((Go.Abs.Part.int Go.IntKind.i64 Bool.false (Go.IntKind.wrap Go.IntKind.i64 (List.getD b (5 : Nat) (0 : Int)))) :: ((Go.Abs.Part.int Go.IntKind.i64 Bool.false (Go.IntKind.wrap Go.IntKind.i64 (List.getD b (6 : Nat) (0 : Int)))) :: ((Go.Abs.Part.int Go.IntKind.i64 Bool.false (Go.IntKind.wrap Go.IntKind.i64 (List.getD b (7 : Nat) (0 : Int)))) :: ((Go.Abs.Part.int Go.IntKind.i64 Bool.false (Go.Num.getV (List.drop (8 : Nat) (List.take (16 : Nat) b)))) :: ((Go.Abs.Part.fresh (0 : Nat) (5 : TypeId) Go.IntKind.u8 (List.drop (18 : Nat) (List.take (Int.toNat (((List.length b) : Nat) : Int)) b))) :: ([] : List (Part D0.τ)))))))))) :: ((Go.Abs.A0.one (Go.Abs.Part.int Go.IntKind.i64 Bool.true (0 : Int))) :: ([] : List (A0 D0.τ))))), ps) ∧ AllQ ps := ⟨_, dec_ok_r b, AllP.all ⟨h1, (show ((0 : Int) ≤ (18 : Int)) from by decide), h2, h3, (show ((0 : Int) ≤ (16 : Int)) from by decide), (show ((16 : Int) ≤ (18 : Int)) from by decide), h2, h4, h5, h6, h7, (show ((0 : Int) ≤ (0 : Int)) from by decide), h8, (show ((0 : Int) ≤ (1 : Int)) from by decide), (show ((1 : Int) ≤ (5 : Int)) from by decide), h9, h10, h11, (show ((0 : Int) ≤ (5 : Int)) from by decide), h12, (show ((0 : Int) ≤ (6 : Int)) from by decide), h13, (show ((0 : Int) ≤ (7 : Int)) from by decide), h14, (show ((0 : Int) ≤ (8 : Int)) from by decide), (show ((8 : Int) ≤ (16 : Int)) from by decide), h15, h16, h17, h18, h19, h20⟩⟩

def wordSn (l : List Int) (n i : Int) : Sn D0.τ where
  slots := [(0, .v (.one (.int .i64 false n))), (5, .v (.one (.own 0))), (6, .v (.one (.int .i64 false i)))]
  boxes := [(0, .dyn 5 (.ints .u8 l))]
  nt := 24

theorem word_round_r (l l' : List Int) (n i i' : Int) : stepPs Try.prog D0 [] 100 (bodyOf Try.f23) 100 (wordSn l n i).st [.is true] .normal (wordSn l' n i') =
    some [((decide (i ≥ (0 : Int))) = Bool.true), (Go.Abs.InI64 ((8 : Int) * i)), ((0 : Int) ≤ (Go.IntKind.wrap Go.IntKind.u64 ((8 : Int) * i))), (((List.length l) + (1 : Nat)) ≤ (9223372036854775807 : Nat)), ((((List.length l) + (1 : Nat)) * (1 : Nat)) ≤ (140737488355328 : Nat)), (Go.Abs.InI64 (i - (1 : Int))), (n = n), ((i - (1 : Int)) = i'), ((l ++ ((Go.IntKind.wrap Go.IntKind.u8 (Int.fdiv n ((2 : Int) ^ (min (Int.toNat (Go.IntKind.wrap Go.IntKind.u64 ((8 : Int) * i))) (64 : Nat))))) :: ([] : List (Int)))) = l')] := by kernel_rfl
theorem word_round (l l' : List Int) (n i i' : Int)
    (h1 : ((decide (i ≥ (0 : Int))) = Bool.true))
    (h2 : (Go.Abs.InI64 ((8 : Int) * i)))
    (h3 : ((0 : Int) ≤ (Go.IntKind.wrap Go.IntKind.u64 ((8 : Int) * i))))
    (h4 : (((List.length l) + (1 : Nat)) ≤ (9223372036854775807 : Nat)))
    (h5 : ((((List.length l) + (1 : Nat)) * (1 : Nat)) ≤ (140737488355328 : Nat)))
    (h6 : (Go.Abs.InI64 (i - (1 : Int))))
    (h7 : ((i - (1 : Int)) = i'))
    (h8 : ((l ++ ((Go.IntKind.wrap Go.IntKind.u8 (Int.fdiv n ((2 : Int) ^ (min (Int.toNat (Go.IntKind.wrap Go.IntKind.u64 ((8 : Int) * i))) (64 : Nat))))) :: ([] : List (Int)))) = l')) :
    ∃ ps, stepPs Try.prog D0 [] 100 (bodyOf Try.f23) 100 (wordSn l n i).st [.is true] .normal (wordSn l' n i') = some ps ∧ AllQ ps := ⟨_, word_round_r l l' n i i', AllP.all ⟨h1, h2, h3, h4, h5, h6, rfl, h7, h8⟩⟩

theorem word_exit_r (l : List Int) (n i : Int) : stepPs Try.prog D0 [] 100 (bodyOf Try.f23) 100 (wordSn l n i).st [.is false] (.exit 0) (wordSn l n i) =
    some [((decide (i ≥ (0 : Int))) = Bool.false), (n = n), (i = i), (l = l)] := by kernel_rfl
theorem word_exit (l : List Int) (n i : Int)
    (h1 : ((decide (i ≥ (0 : Int))) = Bool.false)) :
    ∃ ps, stepPs Try.prog D0 [] 100 (bodyOf Try.f23) 100 (wordSn l n i).st [.is false] (.exit 0) (wordSn l n i) = some ps ∧ AllQ ps := ⟨_, word_exit_r l n i, AllP.all ⟨h1, rfl, rfl, rfl⟩⟩

theorem word_run_r (l : List Int) (n z i i' : Int) : runF Try.prog D0 [] 100 Try.f23 [.one (.int .i64 false n), .one (.int .i64 false z)] [.loop (loopL D0 (wordSn [] n i) (.exit 0) (wordSn l n i'))] =
    some ((Go.Abs.AV.v (Go.Abs.A0.one (Go.Abs.Part.fresh (0 : Nat) (5 : TypeId) Go.IntKind.u8 l))), [(Go.Abs.InI64 (z - (1 : Int))), SumOK Try.prog D0 (bodyOf Try.f23) (loopL D0 (wordSn [] n i) (.exit 0) (wordSn l n i')), (n = n), ((z - (1 : Int)) = i), (([] : List (Int)) = ([] : List (Int)))]) := by kernel_rfl
theorem word_run (l : List Int) (n z i i' : Int)
    (h1 : (Go.Abs.InI64 (z - (1 : Int))))
    (h2 : SumOK Try.prog D0 (bodyOf Try.f23) (loopL D0 (wordSn [] n i) (.exit 0) (wordSn l n i')))
    (h3 : ((z - (1 : Int)) = i)) :
    ∃ ps, runF Try.prog D0 [] 100 Try.f23 [.one (.int .i64 false n), .one (.int .i64 false z)] [.loop (loopL D0 (wordSn [] n i) (.exit 0) (wordSn l n i'))] = some ((Go.Abs.AV.v (Go.Abs.A0.one (Go.Abs.Part.fresh (0 : Nat) (5 : TypeId) Go.IntKind.u8 l))), ps) ∧ AllQ ps := ⟨_, word_run_r l n z i i', AllP.all ⟨h1, h2, rfl, h3, rfl⟩⟩

theorem copy16_r (m : Msg) : runF Try.prog D0 gw3 200 Try.f11 [.agg m.P] [] =
    some ((Go.Abs.AV.v (Go.Abs.A0.agg ((Go.Abs.Part.int Go.IntKind.i64 Bool.false (m).1) :: ((Go.Abs.Part.int Go.IntKind.i64 Bool.false (m).2) :: ((Go.Abs.Part.int Go.IntKind.i64 Bool.false (m).3) :: ((Go.Abs.Part.int Go.IntKind.i64 Bool.false (m).4) :: ((Go.Abs.Part.int Go.IntKind.i64 Bool.false (m).5) :: ((Go.Abs.Part.int Go.IntKind.i64 Bool.false (m).6) :: ((Go.Abs.Part.fresh (0 : Nat) (5 : TypeId) Go.IntKind.u8 (m).7) :: ([] : List (Part D0.τ))))))))))), [((List.length (m).7) ≤ (281474976710656 : Nat))]) := by kernel_rfl
theorem copy16 (m : Msg)
    (h1 : ((List.length (m).7) ≤ (281474976710656 : Nat))) :
    ∃ ps, runF Try.prog D0 gw3 200 Try.f11 [.agg m.P] [] = some ((Go.Abs.AV.v (Go.Abs.A0.agg ((Go.Abs.Part.int Go.IntKind.i64 Bool.false (m).1) :: ((Go.Abs.Part.int Go.IntKind.i64 Bool.false (m).2) :: ((Go.Abs.Part.int Go.IntKind.i64 Bool.false (m).3) :: ((Go.Abs.Part.int Go.IntKind.i64 Bool.false (m).4) :: ((Go.Abs.Part.int Go.IntKind.i64 Bool.false (m).5) :: ((Go.Abs.Part.int Go.IntKind.i64 Bool.false (m).6) :: ((Go.Abs.Part.fresh (0 : Nat) (5 : TypeId) Go.IntKind.u8 (m).7) :: ([] : List (Part D0.τ))))))))))), ps) ∧ AllQ ps := ⟨_, copy16_r m, AllP.all h1⟩

def wordD : FnD D0
  | [.one (.int .i64 _ n), .one (.int .i64 _ z)] => some (.v (.one (.fresh 0 5 .u8 (beB z.toNat n))), [0 ≤ z, z ≤ 8])
  | _ => none

def gw3b : Gam D0 := (23, wordD) :: gw3

theorem bytes16_r (m : Msg) : runF Try.prog D0 gw3b 200 Try.f17 [.agg m.P] [] =
    some ((Go.Abs.AV.v (Go.Abs.A0.one (Go.Abs.Part.fresh (0 : Nat) (5 : Nat) Go.IntKind.u8 (((((((Go.IntKind.wrap Go.IntKind.u8 (m).1) :: ([] : List (Int))) ++ (Go.Num.beB (4 : Nat) (m).2)) ++ ((Go.IntKind.wrap Go.IntKind.u8 (m).3) :: ((Go.IntKind.wrap Go.IntKind.u8 (m).4) :: ((Go.IntKind.wrap Go.IntKind.u8 (m).5) :: ([] : List (Int)))))) ++ (Go.Num.beB (8 : Nat) (m).6)) ++ (Go.Num.beB (2 : Nat) (((List.length (m).7) : Nat) : Int))) ++ (m).7)))), [((0 : Int) ≤ (4 : Int)), ((4 : Int) ≤ (8 : Int)), (((1 : Nat) + (List.length (Go.Num.beB (4 : Nat) (m).2))) ≤ (9223372036854775807 : Nat)), ((((1 : Nat) + (List.length (Go.Num.beB (4 : Nat) (m).2))) * (1 : Nat)) ≤ (140737488355328 : Nat)), (((List.length (((Go.IntKind.wrap Go.IntKind.u8 (m).1) :: ([] : List (Int))) ++ (Go.Num.beB (4 : Nat) (m).2))) + (3 : Nat)) ≤ (9223372036854775807 : Nat)), ((((List.length (((Go.IntKind.wrap Go.IntKind.u8 (m).1) :: ([] : List (Int))) ++ (Go.Num.beB (4 : Nat) (m).2))) + (3 : Nat)) * (1 : Nat)) ≤ (140737488355328 : Nat)), ((0 : Int) ≤ (8 : Int)), ((8 : Int) ≤ (8 : Int)), (((List.length ((((Go.IntKind.wrap Go.IntKind.u8 (m).1) :: ([] : List (Int))) ++ (Go.Num.beB (4 : Nat) (m).2)) ++ ((Go.IntKind.wrap Go.IntKind.u8 (m).3) :: ((Go.IntKind.wrap Go.IntKind.u8 (m).4) :: ((Go.IntKind.wrap Go.IntKind.u8 (m).5) :: ([] : List (Int))))))) + (List.length (Go.Num.beB (8 : Nat) (m).6))) ≤ (9223372036854775807 : Nat)), ((((List.length ((((Go.IntKind.wrap Go.IntKind.u8 (m).1) :: ([] : List (Int))) ++ (Go.Num.beB (4 : Nat) (m).2)) ++ ((Go.IntKind.wrap Go.IntKind.u8 (m).3) :: ((Go.IntKind.wrap Go.IntKind.u8 (m).4) :: ((Go.IntKind.wrap Go.IntKind.u8 (m).5) :: ([] : List (Int))))))) + (List.length (Go.Num.beB (8 : Nat) (m).6))) * (1 : Nat)) ≤ (140737488355328 : Nat)), ((0 : Int) ≤ (2 : Int)), ((2 : Int) ≤ (8 : Int)), (((List.length (((((Go.IntKind.wrap Go.IntKind.u8 (m).1) :: ([] : List (Int))) ++ (Go.Num.beB (4 : Nat) (m).2)) ++ ((Go.IntKind.wrap Go.IntKind.u8 (m).3) :: ((Go.IntKind.wrap Go.IntKind.u8 (m).4) :: ((Go.IntKind.wrap Go.IntKind.u8 (m).5) :: ([] : List (Int)))))) ++ (Go.Num.beB (8 : Nat) (m).6))) + (List.length (Go.Num.beB (2 : Nat) (((List.length (m).7) : Nat) : Int)))) ≤ (9223372036854775807 : Nat)), ((((List.length (((((Go.IntKind.wrap Go.IntKind.u8 (m).1) :: ([] : List (Int))) ++ (Go.Num.beB (4 : Nat) (m).2)) ++ ((Go.IntKind.wrap Go.IntKind.u8 (m).3) :: ((Go.IntKind.wrap Go.IntKind.u8 (m).4) :: ((Go.IntKind.wrap Go.IntKind.u8 (m).5) :: ([] : List (Int)))))) ++ (Go.Num.beB (8 : Nat) (m).6))) + (List.length (Go.Num.beB (2 : Nat) (((List.length (m).7) : Nat) : Int)))) * (1 : Nat)) ≤ (140737488355328 : Nat)), (((List.length ((((((Go.IntKind.wrap Go.IntKind.u8 (m).1) :: ([] : List (Int))) ++ (Go.Num.beB (4 : Nat) (m).2)) ++ ((Go.IntKind.wrap Go.IntKind.u8 (m).3) :: ((Go.IntKind.wrap Go.IntKind.u8 (m).4) :: ((Go.IntKind.wrap Go.IntKind.u8 (m).5) :: ([] : List (Int)))))) ++ (Go.Num.beB (8 : Nat) (m).6)) ++ (Go.Num.beB (2 : Nat) (((List.length (m).7) : Nat) : Int)))) + (List.length (m).7)) ≤ (9223372036854775807 : Nat)), ((((List.length ((((((Go.IntKind.wrap Go.IntKind.u8 (m).1) :: ([] : List (Int))) ++ (Go.Num.beB (4 : Nat) (m).2)) ++ ((Go.IntKind.wrap Go.IntKind.u8 (m).3) :: ((Go.IntKind.wrap Go.IntKind.u8 (m).4) :: ((Go.IntKind.wrap Go.IntKind.u8 (m).5) :: ([] : List (Int)))))) ++ (Go.Num.beB (8 : Nat) (m).6)) ++ (Go.Num.beB (2 : Nat) (((List.length (m).7) : Nat) : Int)))) + (List.length (m).7)) * (1 : Nat)) ≤ (140737488355328 : Nat))]) := by kernel_rfl
theorem bytes16 (m : Msg)
    (h1 : (((1 : Nat) + (List.length (Go.Num.beB (4 : Nat) (m).2))) ≤ (9223372036854775807 : Nat)))
    (h2 : ((((1 : Nat) + (List.length (Go.Num.beB (4 : Nat) (m).2))) * (1 : Nat)) ≤ (140737488355328 : Nat)))
    (h3 : (((List.length (((Go.IntKind.wrap Go.IntKind.u8 (m).1) :: ([] : List (Int))) ++ (Go.Num.beB (4 : Nat) (m).2))) + (3 : Nat)) ≤ (9223372036854775807 : Nat)))
    (h4 : ((((List.length (((Go.IntKind.wrap Go.IntKind.u8 (m).1) :: ([] : List (Int))) ++ (Go.Num.beB (4 : Nat) (m).2))) + (3 : Nat)) * (1 : Nat)) ≤ (140737488355328 : Nat)))
    (h5 : (((List.length ((((Go.IntKind.wrap Go.IntKind.u8 (m).1) :: ([] : List (Int))) ++ (Go.Num.beB (4 : Nat) (m).2)) ++ ((Go.IntKind.wrap Go.IntKind.u8 (m).3) :: ((Go.IntKind.wrap Go.IntKind.u8 (m).4) :: ((Go.IntKind.wrap Go.IntKind.u8 (m).5) :: ([] : List (Int))))))) + (List.length (Go.Num.beB (8 : Nat) (m).6))) ≤ (9223372036854775807 : Nat)))
    (h6 : ((((List.length ((((Go.IntKind.wrap Go.IntKind.u8 (m).1) :: ([] : List (Int))) ++ (Go.Num.beB (4 : Nat) (m).2)) ++ ((Go.IntKind.wrap Go.IntKind.u8 (m).3) :: ((Go.IntKind.wrap Go.IntKind.u8 (m).4) :: ((Go.IntKind.wrap Go.IntKind.u8 (m).5) :: ([] : List (Int))))))) + (List.length (Go.Num.beB (8 : Nat) (m).6))) * (1 : Nat)) ≤ (140737488355328 : Nat)))
    (h7 : (((List.length (((((Go.IntKind.wrap Go.IntKind.u8 (m).1) :: ([] : List (Int))) ++ (Go.Num.beB (4 : Nat) (m).2)) ++ ((Go.IntKind.wrap Go.IntKind.u8 (m).3) :: ((Go.IntKind.wrap Go.IntKind.u8 (m).4) :: ((Go.IntKind.wrap Go.IntKind.u8 (m).5) :: ([] : List (Int)))))) ++ (Go.Num.beB (8 : Nat) (m).6))) + (List.length (Go.Num.beB (2 : Nat) (((List.length (m).7) : Nat) : Int)))) ≤ (9223372036854775807 : Nat)))
    (h8 : ((((List.length (((((Go.IntKind.wrap Go.IntKind.u8 (m).1) :: ([] : List (Int))) ++ (Go.Num.beB (4 : Nat) (m).2)) ++ ((Go.IntKind.wrap Go.IntKind.u8 (m).3) :: ((Go.IntKind.wrap Go.IntKind.u8 (m).4) :: ((Go.IntKind.wrap Go.IntKind.u8 (m).5) :: ([] : List (Int)))))) ++ (Go.Num.beB (8 : Nat) (m).6))) + (List.length (Go.Num.beB (2 : Nat) (((List.length (m).7) : Nat) : Int)))) * (1 : Nat)) ≤ (140737488355328 : Nat)))
    (h9 : (((List.length ((((((Go.IntKind.wrap Go.IntKind.u8 (m).1) :: ([] : List (Int))) ++ (Go.Num.beB (4 : Nat) (m).2)) ++ ((Go.IntKind.wrap Go.IntKind.u8 (m).3) :: ((Go.IntKind.wrap Go.IntKind.u8 (m).4) :: ((Go.IntKind.wrap Go.IntKind.u8 (m).5) :: ([] : List (Int)))))) ++ (Go.Num.beB (8 : Nat) (m).6)) ++ (Go.Num.beB (2 : Nat) (((List.length (m).7) : Nat) : Int)))) + (List.length (m).7)) ≤ (9223372036854775807 : Nat)))
    (h10 : ((((List.length ((((((Go.IntKind.wrap Go.IntKind.u8 (m).1) :: ([] : List (Int))) ++ (Go.Num.beB (4 : Nat) (m).2)) ++ ((Go.IntKind.wrap Go.IntKind.u8 (m).3) :: ((Go.IntKind.wrap Go.IntKind.u8 (m).4) :: ((Go.IntKind.wrap Go.IntKind.u8 (m).5) :: ([] : List (Int)))))) ++ (Go.Num.beB (8 : Nat) (m).6)) ++ (Go.Num.beB (2 : Nat) (((List.length (m).7) : Nat) : Int)))) + (List.length (m).7)) * (1 : Nat)) ≤ (140737488355328 : Nat))) :
    ∃ ps, runF Try.prog D0 gw3b 200 Try.f17 [.agg m.P] [] = some ((Go.Abs.AV.v (Go.Abs.A0.one (Go.Abs.Part.fresh (0 : Nat) (5 : Nat) Go.IntKind.u8 (((((((Go.IntKind.wrap Go.IntKind.u8 (m).1) :: ([] : List (Int))) ++ (Go.Num.beB (4 : Nat) (m).2)) ++ ((Go.IntKind.wrap Go.IntKind.u8 (m).3) :: ((Go.IntKind.wrap Go.IntKind.u8 (m).4) :: ((Go.IntKind.wrap Go.IntKind.u8 (m).5) :: ([] : List (Int)))))) ++ (Go.Num.beB (8 : Nat) (m).6)) ++ (Go.Num.beB (2 : Nat) (((List.length (m).7) : Nat) : Int))) ++ (m).7)))), ps) ∧ AllQ ps := ⟨_, bytes16_r m, AllP.all ⟨(show ((0 : Int) ≤ (4 : Int)) from by decide), (show ((4 : Int) ≤ (8 : Int)) from by decide), h1, h2, h3, h4, (show ((0 : Int) ≤ (8 : Int)) from by decide), (show ((8 : Int) ≤ (8 : Int)) from by decide), h5, h6, (show ((0 : Int) ≤ (2 : Int)) from by decide), (show ((2 : Int) ≤ (8 : Int)) from by decide), h7, h8, h9, h10⟩⟩

theorem same16_a_r (m n : Msg) : runF Try.prog D0 gw3 200 Try.f14 [.agg m.P, .agg n.P] [.is true, .is true, .is true, .is true, .is true, .is true, .keep, .keep, .keep] =
    some ((Go.Abs.AV.v (Go.Abs.A0.one (Go.Abs.Part.bool Bool.false (decide ((m).7 = (n).7))))), [(((m).1 == (n).1) = Bool.true), (((m).2 == (n).2) = Bool.true), (((m).3 == (n).3) = Bool.true), (((m).4 == (n).4) = Bool.true), (((m).5 == (n).5) = Bool.true), (((m).6 == (n).6) = Bool.true), ((List.length (m).7) ≤ (9223372036854775807 : Nat)), ((List.length (n).7) ≤ (9223372036854775807 : Nat))]) := by kernel_rfl
theorem same16_a (m n : Msg)
    (h1 : (((m).1 == (n).1) = Bool.true))
    (h2 : (((m).2 == (n).2) = Bool.true))
    (h3 : (((m).3 == (n).3) = Bool.true))
    (h4 : (((m).4 == (n).4) = Bool.true))
    (h5 : (((m).5 == (n).5) = Bool.true))
    (h6 : (((m).6 == (n).6) = Bool.true))
    (h7 : ((List.length (m).7) ≤ (9223372036854775807 : Nat)))
    (h8 : ((List.length (n).7) ≤ (9223372036854775807 : Nat))) :
    ∃ ps, runF Try.prog D0 gw3 200 Try.f14 [.agg m.P, .agg n.P] [.is true, .is true, .is true, .is true, .is true, .is true, .keep, .keep, .keep] = some ((Go.Abs.AV.v (Go.Abs.A0.one (Go.Abs.Part.bool Bool.false (decide ((m).7 = (n).7))))), ps) ∧ AllQ ps := ⟨_, same16_a_r m n, AllP.all ⟨h1, h2, h3, h4, h5, h6, h7, h8⟩⟩

theorem same16_0_r (m n : Msg) : runF Try.prog D0 gw3 200 Try.f14 [.agg m.P, .agg n.P] [.is false] =
    some ((Go.Abs.AV.v (Go.Abs.A0.one (Go.Abs.Part.bool Bool.true Bool.false))), [(((m).1 == (n).1) = Bool.false)]) := by kernel_rfl
theorem same16_0 (m n : Msg)
    (h1 : (((m).1 == (n).1) = Bool.false)) :
    ∃ ps, runF Try.prog D0 gw3 200 Try.f14 [.agg m.P, .agg n.P] [.is false] = some ((Go.Abs.AV.v (Go.Abs.A0.one (Go.Abs.Part.bool Bool.true Bool.false))), ps) ∧ AllQ ps := ⟨_, same16_0_r m n, AllP.all h1⟩

theorem same16_1_r (m n : Msg) : runF Try.prog D0 gw3 200 Try.f14 [.agg m.P, .agg n.P] [.is true, .is false] =
    some ((Go.Abs.AV.v (Go.Abs.A0.one (Go.Abs.Part.bool Bool.true Bool.false))), [(((m).1 == (n).1) = Bool.true), (((m).2 == (n).2) = Bool.false)]) := by kernel_rfl
theorem same16_1 (m n : Msg)
    (h1 : (((m).1 == (n).1) = Bool.true))
    (h2 : (((m).2 == (n).2) = Bool.false)) :
    ∃ ps, runF Try.prog D0 gw3 200 Try.f14 [.agg m.P, .agg n.P] [.is true, .is false] = some ((Go.Abs.AV.v (Go.Abs.A0.one (Go.Abs.Part.bool Bool.true Bool.false))), ps) ∧ AllQ ps := ⟨_, same16_1_r m n, AllP.all ⟨h1, h2⟩⟩

theorem same16_2_r (m n : Msg) : runF Try.prog D0 gw3 200 Try.f14 [.agg m.P, .agg n.P] [.is true, .is true, .is false] =
    some ((Go.Abs.AV.v (Go.Abs.A0.one (Go.Abs.Part.bool Bool.true Bool.false))), [(((m).1 == (n).1) = Bool.true), (((m).2 == (n).2) = Bool.true), (((m).3 == (n).3) = Bool.false)]) := by kernel_rfl
theorem same16_2 (m n : Msg)
    (h1 : (((m).1 == (n).1) = Bool.true))
    (h2 : (((m).2 == (n).2) = Bool.true))
    (h3 : (((m).3 == (n).3) = Bool.false)) :
    ∃ ps, runF Try.prog D0 gw3 200 Try.f14 [.agg m.P, .agg n.P] [.is true, .is true, .is false] = some ((Go.Abs.AV.v (Go.Abs.A0.one (Go.Abs.Part.bool Bool.true Bool.false))), ps) ∧ AllQ ps := ⟨_, same16_2_r m n, AllP.all ⟨h1, h2, h3⟩⟩

theorem same16_3_r (m n : Msg) : runF Try.prog D0 gw3 200 Try.f14 [.agg m.P, .agg n.P] [.is true, .is true, .is true, .is false] =
    some ((Go.Abs.AV.v (Go.Abs.A0.one (Go.Abs.Part.bool Bool.true Bool.false))), [(((m).1 == (n).1) = Bool.true), (((m).2 == (n).2) = Bool.true), (((m).3 == (n).3) = Bool.true), (((m).4 == (n).4) = Bool.false)]) := by kernel_rfl
theorem same16_3 (m n : Msg)
    (h1 : (((m).1 == (n).1) = Bool.true))
    (h2 : (((m).2 == (n).2) = Bool.true))
    (h3 : (((m).3 == (n).3) = Bool.true))
    (h4 : (((m).4 == (n).4) = Bool.false)) :
    ∃ ps, runF Try.prog D0 gw3 200 Try.f14 [.agg m.P, .agg n.P] [.is true, .is true, .is true, .is false] = some ((Go.Abs.AV.v (Go.Abs.A0.one (Go.Abs.Part.bool Bool.true Bool.false))), ps) ∧ AllQ ps := ⟨_, same16_3_r m n, AllP.all ⟨h1, h2, h3, h4⟩⟩

theorem same16_4_r (m n : Msg) : runF Try.prog D0 gw3 200 Try.f14 [.agg m.P, .agg n.P] [.is true, .is true, .is true, .is true, .is false] =
    some ((Go.Abs.AV.v (Go.Abs.A0.one (Go.Abs.Part.bool Bool.true Bool.false))), [(((m).1 == (n).1) = Bool.true), (((m).2 == (n).2) = Bool.true), (((m).3 == (n).3) = Bool.true), (((m).4 == (n).4) = Bool.true), (((m).5 == (n).5) = Bool.false)]) := by kernel_rfl
theorem same16_4 (m n : Msg)
    (h1 : (((m).1 == (n).1) = Bool.true))
    (h2 : (((m).2 == (n).2) = Bool.true))
    (h3 : (((m).3 == (n).3) = Bool.true))
    (h4 : (((m).4 == (n).4) = Bool.true))
    (h5 : (((m).5 == (n).5) = Bool.false)) :
    ∃ ps, runF Try.prog D0 gw3 200 Try.f14 [.agg m.P, .agg n.P] [.is true, .is true, .is true, .is true, .is false] = some ((Go.Abs.AV.v (Go.Abs.A0.one (Go.Abs.Part.bool Bool.true Bool.false))), ps) ∧ AllQ ps := ⟨_, same16_4_r m n, AllP.all ⟨h1, h2, h3, h4, h5⟩⟩

theorem same16_5_r (m n : Msg) : runF Try.prog D0 gw3 200 Try.f14 [.agg m.P, .agg n.P] [.is true, .is true, .is true, .is true, .is true, .is false] =
    some ((Go.Abs.AV.v (Go.Abs.A0.one (Go.Abs.Part.bool Bool.true Bool.false))), [(((m).1 == (n).1) = Bool.true), (((m).2 == (n).2) = Bool.true), (((m).3 == (n).3) = Bool.true), (((m).4 == (n).4) = Bool.true), (((m).5 == (n).5) = Bool.true), (((m).6 == (n).6) = Bool.false)]) := by kernel_rfl
theorem same16_5 (m n : Msg)
    (h1 : (((m).1 == (n).1) = Bool.true))
    (h2 : (((m).2 == (n).2) = Bool.true))
    (h3 : (((m).3 == (n).3) = Bool.true))
    (h4 : (((m).4 == (n).4) = Bool.true))
    (h5 : (((m).5 == (n).5) = Bool.true))
    (h6 : (((m).6 == (n).6) = Bool.false)) :
    ∃ ps, runF Try.prog D0 gw3 200 Try.f14 [.agg m.P, .agg n.P] [.is true, .is true, .is true, .is true, .is true, .is false] = some ((Go.Abs.AV.v (Go.Abs.A0.one (Go.Abs.Part.bool Bool.true Bool.false))), ps) ∧ AllQ ps := ⟨_, same16_5_r m n, AllP.all ⟨h1, h2, h3, h4, h5, h6⟩⟩

/-! the bytes -/

def Msg.bytes (m : Msg) : List Int := ((((([IntKind.wrap .u8 m.kd] ++ beB 4 m.ep) ++ [IntKind.wrap .u8 m.fr, IntKind.wrap .u8 m.wh, IntKind.wrap .u8 m.tp]) ++ beB 8 m.rd) ++ beB 2 ((m.bd.length : Nat) : Int)) ++ m.bd)

theorem Msg.bytes_len (m : Msg) : m.bytes.length = 18 + m.bd.length := by
  simp only [Msg.bytes, List.length_append, beB_len, List.length_cons, List.length_nil]

theorem word_loop (n : Int) {z : Nat} (hz : z ≤ 8) :
    SumOK Try.prog D0 (bodyOf Try.f23) (loopL D0 (wordSn [] n ((z : Int) - 1)) (.exit 0) (wordSn (beB z n) n (-1))) := by
  have key : SumOK Try.prog D0 (bodyOf Try.f23) (loopL D0 (wordSn ((beB z n).take 0) n ((z : Int) - 1 - (0 : Nat))) (.exit 0) (wordSn ((beB z n).take z) n ((z : Int) - 1 - z))) := by
    refine sum_loop gam_nil mixed (fun k => wordSn ((beB z n).take k) n ((z : Int) - 1 - k)) z rfl (fun k hk => ⟨100, 100, [.is true], ?_⟩) ⟨100, 100, [.is false], word_exit _ n _ (decide_eq_false (by omega))⟩
    have hi : (z : Int) - 1 - k = ((z - 1 - k : Nat) : Int) := by omega
    have hlen : ((beB z n).take k).length ≤ 8 := by rw [List.length_take, beB_len]; omega
    have hw : IntKind.wrap .u64 (8 * ((z - 1 - k : Nat) : Int)) = 8 * ((z - 1 - k : Nat) : Int) := by rw [IntKind.wrap_u64]; omega
    refine word_round _ _ n _ _ (decide_eq_true (by omega)) ⟨by omega, by omega⟩ (by rw [hi, hw]; omega) (by omega) (by omega) ⟨by omega, by omega⟩ (by omega) ?_
    rw [hi, hw, byte_at n (by omega), beB_take z n hk]
  rw [List.take_zero, List.take_of_length_le (by rw [beB_len]; omega), show (z : Int) - 1 - (0 : Nat) = (z : Int) - 1 from by omega, show (z : Int) - 1 - z = -1 from by omega] at key
  exact key

theorem word_ok : FnOK Try.prog D0 23 wordD := by
  refine fnOK_of gam_nil mixed Try.func23 (enters_of Try.func23 (by kernel_rfl) rfl) ?_
  intro xs r ps h hps
  unfold wordD at h
  split at h
  · rename_i s n t z
    simp only [Option.some.injEq, Prod.mk.injEq] at h
    obtain ⟨rfl, rfl⟩ := h
    have h0 : 0 ≤ z := hps _ (by simp)
    have h1 : z ≤ 8 := hps _ (by simp)
    obtain ⟨z, rfl⟩ := Int.eq_ofNat_of_zero_le h0
    obtain ⟨ps, h3, h4⟩ := word_run _ n z _ _ ⟨by omega, by omega⟩ (word_loop n (z := z) (by omega)) rfl
    exact ⟨_, 100, _, _, _, fun w => args_cons int_lit (args_cons int_lit fun _ h => h), h3, h4, fun E v hv => hv⟩
  · cases h

theorem gw3b_ok : GamOK Try.prog D0 gw3b := gam_cons word_ok gw3_ok

def msgF (m : Msg) : List (Part D0.τ) := [.int .i64 false m.kd, .int .i64 false m.ep, .int .i64 false m.fr, .int .i64 false m.wh, .int .i64 false m.tp, .int .i64 false m.rd, .fresh 0 5 .u8 m.bd]

def copy16D : FnD D0
  | [.agg p] => match msgOf p with
    | some m => some (.v (.agg (msgF m)), [m.bd.length ≤ 281474976710656])
    | none => none
  | _ => none

theorem copy16_ok : FnOK Try.prog D0 11 copy16D := by
  refine fnOK_of gw3_ok mixed Try.func11 (enters_of Try.func11 (by kernel_rfl) rfl) ?_
  intro xs r ps h hps
  unfold copy16D at h
  split at h
  · split at h
    · rename_i m hm
      simp only [Option.some.injEq, Prod.mk.injEq] at h
      obtain ⟨rfl, rfl⟩ := h
      have hlen : m.bd.length ≤ 281474976710656 := hps _ (List.mem_cons_self ..)
      obtain ⟨ps, h1, h2⟩ := copy16 m hlen
      exact ⟨_, 200, _, _, _, fun w vs h => args1 (fun v hv => msgOf_rel hm hv) h, h1, h2, fun E v hv => hv⟩
    · cases h
  · cases h

def bytes16D : FnD D0
  | [.agg p] => match msgOf p with
    | some m => some (.v (.one (.fresh 0 5 .u8 m.bytes)), [m.bd.length ≤ 140737488000000])
    | none => none
  | _ => none

theorem bytes16_ok : FnOK Try.prog D0 17 bytes16D := by
  refine fnOK_of gw3b_ok mixed Try.func17 (enters_of Try.func17 (by kernel_rfl) rfl) ?_
  intro xs r ps h hps
  unfold bytes16D at h
  split at h
  · split at h
    · rename_i m hm
      simp only [Option.some.injEq, Prod.mk.injEq] at h
      obtain ⟨rfl, rfl⟩ := h
      have hlen : m.bd.length ≤ 140737488000000 := hps _ (List.mem_cons_self ..)
      obtain ⟨ps, h1, h2⟩ := bytes16 m (by simp only [beB_len]; omega) (by simp only [beB_len]; omega) (by simp only [List.length_append, beB_len, List.length_cons, List.length_nil]; omega) (by simp only [List.length_append, beB_len, List.length_cons, List.length_nil]; omega)
        (by simp only [List.length_append, beB_len, List.length_cons, List.length_nil]; omega) (by simp only [List.length_append, beB_len, List.length_cons, List.length_nil]; omega) (by simp only [List.length_append, beB_len, List.length_cons, List.length_nil]; omega)
        (by simp only [List.length_append, beB_len, List.length_cons, List.length_nil]; omega) (by simp only [List.length_append, beB_len, List.length_cons, List.length_nil]; omega) (by simp only [List.length_append, beB_len, List.length_cons, List.length_nil]; omega)
      exact ⟨_, 200, _, _, _, fun w vs h => args1 (fun v hv => msgOf_rel hm hv) h, h1, h2, fun E v hv => hv⟩
    · cases h
  · cases h

/-- The same message. -/
def Msg.eqv (m n : Msg) : Prop := m.kd = n.kd ∧ m.ep = n.ep ∧ m.fr = n.fr ∧ m.wh = n.wh ∧ m.tp = n.tp ∧ m.rd = n.rd ∧ m.bd = n.bd
instance (m n : Msg) : Decidable (m.eqv n) := inferInstanceAs (Decidable (_ ∧ _))
theorem Msg.eqv_iff {m n : Msg} : m.eqv n ↔ m = n := by
  constructor
  · rintro ⟨h1, h2, h3, h4, h5, h6, h7⟩
    cases m
    cases n
    simp only at *
    subst h1 h2 h3 h4 h5 h6 h7
    rfl
  · rintro rfl
    exact ⟨rfl, rfl, rfl, rfl, rfl, rfl, rfl⟩

def same16D : FnD D0
  | [.agg p, .agg q] => match msgOf p, msgOf q with
    | some m, some n => some (.v (.one (.bool false (decide (m.eqv n)))), [m.bd.length ≤ 9223372036854775807, n.bd.length ≤ 9223372036854775807])
    | _, _ => none
  | _ => none

theorem same16_ok : FnOK Try.prog D0 14 same16D := by
  refine fnOK_of gw3_ok mixed Try.func14 (enters_of Try.func14 (by kernel_rfl) rfl) ?_
  intro xs r ps h hps
  unfold same16D at h
  split at h
  · split at h
    · rename_i m n hm hn
      simp only [Option.some.injEq, Prod.mk.injEq] at h
      obtain ⟨rfl, rfl⟩ := h
      have l1 : m.bd.length ≤ 9223372036854775807 := hps _ (by simp)
      have l2 : n.bd.length ≤ 9223372036854775807 := hps _ (by simp)
      have fin : ∀ {ds r qs b}, runF Try.prog D0 gw3 200 Try.f14 [.agg m.P, .agg n.P] ds = some (.v (.one (.bool r b)), qs) → AllQ qs → b = decide (m.eqv n) →
          ∃ xs' fuel ds r' qs, (∀ w vs, A0sRel D0 (cenv w) [.agg _, .agg _] vs → A0sRel D0 (cenv w) xs' vs) ∧ runF Try.prog D0 gw3 fuel Try.f14 xs' ds = some (r', qs) ∧ AllQ qs ∧ ∀ E v, AVRel D0 E r' v → AVRel D0 E (.v (.one (.bool false (decide (m.eqv n))))) v :=
        fun h1 h2 h3 => ⟨_, 200, _, _, _, fun w vs h => args2 (fun v hv => msgOf_rel hm hv) (fun v hv => msgOf_rel hn hv) h, h1, h2, fun E v hv => one_bool h3 hv⟩
      have neq : ¬ m.eqv n → false = decide (m.eqv n) := fun h => (decide_eq_false h).symm
      cases c0 : (m.kd == n.kd)
      · obtain ⟨ps, h1, h2⟩ := same16_0 m n c0
        exact fin h1 h2 (neq fun e => ne_of_beq_false c0 e.1)
      cases c1 : (m.ep == n.ep)
      · obtain ⟨ps, h1, h2⟩ := same16_1 m n c0 c1
        exact fin h1 h2 (neq fun e => ne_of_beq_false c1 e.2.1)
      cases c2 : (m.fr == n.fr)
      · obtain ⟨ps, h1, h2⟩ := same16_2 m n c0 c1 c2
        exact fin h1 h2 (neq fun e => ne_of_beq_false c2 e.2.2.1)
      cases c3 : (m.wh == n.wh)
      · obtain ⟨ps, h1, h2⟩ := same16_3 m n c0 c1 c2 c3
        exact fin h1 h2 (neq fun e => ne_of_beq_false c3 e.2.2.2.1)
      cases c4 : (m.tp == n.tp)
      · obtain ⟨ps, h1, h2⟩ := same16_4 m n c0 c1 c2 c3 c4
        exact fin h1 h2 (neq fun e => ne_of_beq_false c4 e.2.2.2.2.1)
      cases c5 : (m.rd == n.rd)
      · obtain ⟨ps, h1, h2⟩ := same16_5 m n c0 c1 c2 c3 c4 c5
        exact fin h1 h2 (neq fun e => ne_of_beq_false c5 e.2.2.2.2.2.1)
      obtain ⟨ps, h1, h2⟩ := same16_a m n c0 c1 c2 c3 c4 c5 l1 l2
      exact fin h1 h2 (decide_eq_decide.2 ⟨fun e => ⟨eq_of_beq c0, eq_of_beq c1, eq_of_beq c2, eq_of_beq c3, eq_of_beq c4, eq_of_beq c5, e⟩, fun e => e.2.2.2.2.2.2⟩)
    · cases h
  · cases h

/-! Encode -/

def Msg.enc (m : Msg) : List Int := if m.Ck then m.bytes else []

def encD : FnD D0
  | [.agg p] => match msgOf p with
    | some m => some (.tup [.one (.fresh 0 5 .u8 m.enc), .one (.int .i64 false m.err)], [m.bd.length ≤ 9223372036854775807])
    | none => none
  | _ => none

theorem Msg.Ck_len {m : Msg} (h : m.Ck) : m.bd.length ≤ 4096 := by
  obtain ⟨_, _, _, _, h⟩ := h
  unfold Msg.Rt Go.Num.Rt at h
  omega

theorem nil_tup {w w' : World} {e : TypeId} {k : IntKind} {s t : Bool} {a b : Int} {v : Value} (hab : a = b) (h : RRes D0 w w' (.tup [.one .nil, .one (.int .i64 s a)]) v) : RRes D0 w w' (.tup [.one (.fresh 0 e k []), .one (.int .i64 t b)]) v := by
  subst hab
  obtain ⟨ν, _, vs, rfl, v1, us, rfl, h1, v2, us2, rfl, h2, h3⟩ := h
  cases h3
  have hv : [v1] = [Value.slice none 0 0] := h1.2
  simp only [List.cons.injEq, and_true] at hv
  subst hv
  exact ⟨nilν, nilν_disj, _, rfl, _, _, rfl, ⟨rfl, fresh_nil⟩, _, _, rfl, h2, rfl⟩

theorem encode_ok : FnOK Try.prog D0 12 encD := by
  refine fnOK_ofR gw3_ok mixed Try.func12 (enters_of Try.func12 (by kernel_rfl) rfl) ?_
  intro xs r ps h hps
  unfold encD at h
  split at h
  · split at h
    · rename_i m hm
      simp only [Option.some.injEq, Prod.mk.injEq] at h
      obtain ⟨rfl, rfl⟩ := h
      have hlen : m.bd.length ≤ 9223372036854775807 := hps _ (List.mem_cons_self ..)
      by_cases hk : m.Ck
      · have he : m.err = 0 := if_pos hk
        have hl := Msg.Ck_len hk
        have he2 : (m.err != 0) = false := by rw [he]; rfl
        obtain ⟨ps, h1, h2⟩ := enc_ok m hlen he2 ⟨by omega, by omega⟩ (by omega) (by omega) (by omega) (by simp only [List.length_replicate]; omega) (by simp only [List.length_replicate]; omega)
          (by simp only [List.length_append, List.length_replicate, List.length_cons, List.length_nil]; omega) (by simp only [List.length_append, List.length_replicate, beB_len, List.length_cons, List.length_nil]; omega)
          (by simp only [List.length_append, List.length_replicate, beB_len, List.length_cons, List.length_nil]; omega) (by simp only [List.length_append, List.length_replicate, beB_len, List.length_cons, List.length_nil]; omega)
          (by simp only [List.length_append, List.length_replicate, beB_len, List.length_cons, List.length_nil]; omega) (by simp only [List.length_append, List.length_replicate, beB_len, List.length_cons, List.length_nil]; omega)
          (by simp only [List.length_append, List.length_replicate, beB_len, List.length_cons, List.length_nil]; omega)
        refine ⟨_, 200, _, _, _, fun w vs h => args1 (fun v hv => msgOf_rel hm hv) h, h1, h2, fun w w' v hv => rres_mono (fun E v hv => ?_) hv⟩
        rw [Msg.enc, if_pos hk, he]
        exact hv
      · have he : m.err = 60 := if_neg hk
        have he2 : (m.err != 0) = true := by rw [he]; rfl
        obtain ⟨ps, h1, h2⟩ := enc_bad m hlen he2
        refine ⟨_, 200, _, _, _, fun w vs h => args1 (fun v hv => msgOf_rel hm hv) h, h1, h2, fun w w' v hv => ?_⟩
        rw [Msg.enc, if_neg hk]
        exact nil_tup rfl hv
    · cases h
  · cases h

/-! Decode -/

def decM (b : List Int) : Msg := ⟨IntKind.wrap .i64 (b.getD 0 0), getV ((b.take 5).drop 1), IntKind.wrap .i64 (b.getD 5 0), IntKind.wrap .i64 (b.getD 6 0), IntKind.wrap .i64 (b.getD 7 0), getV ((b.take 16).drop 8), b.drop 18⟩
def decE (b : List Int) : Int := if b.length < 18 then 16 else if ((b.length - 18 : Nat) : Int) < getV ((b.take 18).drop 16) then 16 else if ((b.length - 18 : Nat) : Int) > getV ((b.take 18).drop 16) then 17 else (decM b).err
def decR (b : List Int) : Msg := if decE b = 0 then decM b else ⟨0, 0, 0, 0, 0, 0, []⟩

def decD : FnD D0
  | [.one p] => match bytesP p with
    | some b => some (.tup [.agg (msgF (decR b)), .one (.int .i64 false (decE b))], [InB b, b.length ≤ 140737488355328])
    | none => none
  | _ => none

theorem nil_msg {w w' : World} {s t : Bool} {a b : Int} {v : Value} (hab : a = b)
    (h : RRes D0 w w' (.tup [.agg [.int .i64 true 0, .int .i64 true 0, .int .i64 true 0, .int .i64 true 0, .int .i64 true 0, .int .i64 true 0, .nil], .one (.int .i64 s a)]) v) :
    RRes D0 w w' (.tup [.agg (msgF ⟨0, 0, 0, 0, 0, 0, []⟩), .one (.int .i64 t b)]) v := by
  subst hab
  obtain ⟨ν, _, vs, rfl, v1, us, rfl, h1, v2, us2, rfl, h2, h3⟩ := h
  cases h3
  obtain ⟨cs, e, a1, a2, e1, r1, b1, b2, e2, r2, c1, c2, e3, r3, d1, d2, e4, r4, f1, f2, e5, r5, g1, g2, e6, r6, i1, i2, e7, r7, r8⟩ := h1
  have hv : i1 = [Value.slice none 0 0] := r7
  subst hv
  exact ⟨nilν, nilν_disj, _, rfl, _, _, rfl, ⟨cs, e, a1, a2, e1, r1, b1, b2, e2, r2, c1, c2, e3, r3, d1, d2, e4, r4, f1, f2, e5, r5, g1, g2, e6, r6, _, i2, e7, fresh_nil, r8⟩, _, _, rfl, h2, rfl⟩

theorem decode_ok : FnOK Try.prog D0 19 decD := by
  refine fnOK_ofR gw3_ok mixed Try.func19 (enters_of Try.func19 (by kernel_rfl) rfl) ?_
  intro xs r ps h hps
  unfold decD at h
  split at h
  · rename_i p
    split at h
    · rename_i b hp
      simp only [Option.some.injEq, Prod.mk.injEq] at h
      obtain ⟨rfl, rfl⟩ := h
      have hb : InB b := hps _ (by simp)
      have hlen : b.length ≤ 140737488355328 := hps _ (by simp)
      have harg : ∀ w vs, A0sRel D0 (cenv w) [.one p] vs → A0sRel D0 (cenv w) [.one (.words .u8 b)] vs := fun w => args_cons (fun v (hv : A0Rel D0 (cenv w) (.one p) v) => ⟨hv.1, bytesP_part hp hv.2⟩) fun _ h => h
      by_cases c1 : b.length < 18
      · have he : decE b = 16 := if_pos c1
        obtain ⟨ps, h1, h2⟩ := dec_short b (decide_eq_true (by omega))
        refine ⟨_, 200, _, _, _, harg, h1, h2, fun w w' v hv => ?_⟩
        rw [decR, if_neg (by rw [he]; decide)]
        exact nil_msg he.symm hv
      have inb : ∀ i j, InB ((b.take j).drop i) := fun i j a ha => hb a (List.mem_of_mem_take (List.mem_of_mem_drop ha))
      have ln : ∀ i j, ((b.take j).drop i).length ≤ 9223372036854775806 := fun i j => by rw [List.length_drop, List.length_take]; omega
      have hd : List.drop 18 (List.take (Int.toNat ((b.length : Nat) : Int)) b) = b.drop 18 := by rw [Int.toNat_natCast, List.take_length]
      have hdl : ((List.drop 18 (List.take (Int.toNat ((b.length : Nat) : Int)) b)).length : Int) = ((b.length - 18 : Nat) : Int) := by rw [hd, List.length_drop]
      have f1 : decide ((b.length : Int) < 18) = false := decide_eq_false (by omega)
      by_cases c2 : ((b.length - 18 : Nat) : Int) < getV ((b.take 18).drop 16)
      · have he : decE b = 16 := by rw [decE, if_neg c1, if_pos c2]
        obtain ⟨ps, h1, h2⟩ := dec_short2 b f1 (by omega) (Int.le_refl _) (inb 16 18) (ln 16 18) (decide_eq_true (by rw [hdl]; exact c2))
        refine ⟨_, 200, _, _, _, harg, h1, h2, fun w w' v hv => ?_⟩
        rw [decR, if_neg (by rw [he]; decide)]
        exact nil_msg he.symm hv
      have f2 : decide (((List.drop 18 (List.take (Int.toNat ((b.length : Nat) : Int)) b)).length : Int) < getV ((b.take 18).drop 16)) = false := decide_eq_false (by rw [hdl]; exact c2)
      by_cases c3 : ((b.length - 18 : Nat) : Int) > getV ((b.take 18).drop 16)
      · have he : decE b = 17 := by rw [decE, if_neg c1, if_neg c2, if_pos c3]
        obtain ⟨ps, h1, h2⟩ := dec_trail b f1 (by omega) (Int.le_refl _) (inb 16 18) (ln 16 18) f2 (decide_eq_true (by rw [hdl]; exact c3))
        refine ⟨_, 200, _, _, _, harg, h1, h2, fun w w' v hv => ?_⟩
        rw [decR, if_neg (by rw [he]; decide)]
        exact nil_msg he.symm hv
      have f3 : decide (((List.drop 18 (List.take (Int.toNat ((b.length : Nat) : Int)) b)).length : Int) > getV ((b.take 18).drop 16)) = false := decide_eq_false (by rw [hdl]; exact c3)
      have he : decE b = (decM b).err := by rw [decE, if_neg c1, if_neg c2, if_neg c3]
      have hM : Msg.mk (IntKind.wrap .i64 (b.getD 0 0)) (getV ((b.take 5).drop 1)) (IntKind.wrap .i64 (b.getD 5 0)) (IntKind.wrap .i64 (b.getD 6 0)) (IntKind.wrap .i64 (b.getD 7 0)) (getV ((b.take 16).drop 8)) (List.drop 18 (List.take (Int.toNat ((b.length : Nat) : Int)) b)) = decM b := by rw [hd]; rfl
      have hl18 : (List.drop 18 (List.take (Int.toNat ((b.length : Nat) : Int)) b)).length ≤ 140737488355328 := by rw [hd, List.length_drop]; omega
      by_cases c4 : (decM b).err = 0
      · obtain ⟨ps, h1, h2⟩ := dec_ok b f1 (by omega) (Int.le_refl _) (inb 16 18) (ln 16 18) f2 f3 (by omega) (by omega) (inb 1 5) (ln 1 5) (by omega) (by omega) (by omega) (by omega) (inb 8 16) (ln 8 16) (by omega) (by rw [hM, c4]; rfl) hl18
        refine ⟨_, 200, _, _, _, harg, h1, h2, fun w w' v hv => rres_mono (fun E v hv => ?_) hv⟩
        rw [decR, he, if_pos c4, c4, ← hM]
        exact hv
      · obtain ⟨ps, h1, h2⟩ := dec_bad b f1 (by omega) (Int.le_refl _) (inb 16 18) (ln 16 18) f2 f3 (by omega) (by omega) (inb 1 5) (ln 1 5) (by omega) (by omega) (by omega) (by omega) (inb 8 16) (ln 8 16) (by omega) (by rw [hM]; exact bne_iff_ne.2 c4)
        refine ⟨_, 200, _, _, _, harg, h1, h2, fun w w' v hv => ?_⟩
        rw [decR, if_neg (by rw [he]; exact c4)]
        exact nil_msg (by rw [hM, he]) hv
    · cases h
  · cases h

end Go.Num
