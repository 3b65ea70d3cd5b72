/- HKDF: the runs of the laws. -/
import Derived.Test.YtjglidfemgodiaaDoorK4
namespace Go.Num
open Go.Abs Go.Proofs Go.Shelf

noncomputable def gamL : Gam DS := [(21, .fn headD), (10, .fz (copyD DS)), (22, .fn macD), (14, .fn joinD), (23, .fn rmacD), (15, .fn (sameD DS)), (25, .fn extD), (24, .fn exD), (26, .fn exD)]

theorem gamL_ok : GamOK Tryd.prog DS gamL := gam_cons hd2_ok (gam_fz (copy_ok DS) (gam_cons mac_ok (gam_cons join_ok (gam_cons rmac_ok (gam_cons (same_ok DS) (gam_cons ext_ok (gam_cons exp_ok (gam_cons rexp_ok gam_nil))))))))

def hm1Sn (key : List Int) (ll ml : List (List Int)) (n : Int) (sl : List (Nat × AV DS.τ)) : Sn DS.τ where
  slots := [(0, .v (.one (.words .u8 key))), (1, .v (.one (.wordss .u8 ll))), slI 5 n, (6, .v (.one (.own 0)))] ++ sl
  boxes := [(0, .dyn 24 (.lws .u8 ml))]
  nt := 71
def hm1In (ll : List (List Int)) (i : Int) : List (Nat × AV DS.τ) := [(18, .v (.one (.wordss .u8 ll))), slI 19 ll.length, slI 20 i]
def hm2Sn (ll ml : List (List Int)) (sl : List (Nat × AV DS.τ)) : Sn DS.τ where
  slots := [(1, .v (.one (.wordss .u8 ll))), (6, .v (.one (.own 0))), (11, .v (.one (.bool true true)))] ++ sl
  boxes := [(0, .dyn 24 (.lws .u8 ml))]
  nt := 71
def hm2End : Sn DS.τ where
  slots := [(11, .v (.one (.bool true true)))]
  boxes := []
  nt := 71

theorem hm1_round_r (key : List Int) (ll ml ml' : List (List Int)) (n n' : Int) (i : Nat) : stepPs Tryd.prog DS gamL 100 (bodyN Tryd.f6 0) 100 (hm1Sn key ll ml n (hm1In ll i)).st [.is true] .normal (hm1Sn key ll ml' n' (hm1In ll ((i : Int) + 1))) =
    some [((decide (((i : Nat) : Int) < (((List.length ll) : Nat) : Int))) = Bool.true), ((0 : Int) ≤ ((i : Nat) : Int)), (((i : Nat) : Int) < (((List.length ll) : Nat) : Int)), (Go.Abs.InI64 (n + (((List.length (List.getD ll (Int.toNat ((i : Nat) : Int)) ([] : List (Int)))) : Nat) : Int))), ((List.length (List.getD ll (Int.toNat ((i : Nat) : Int)) ([] : List (Int)))) ≤ (281474976710656 : Nat)), ((((List.length ml) + (1 : Nat)) * (24 : Nat)) ≤ (140737488355328 : Nat)), (((List.length ml) + (1 : Nat)) ≤ (9223372036854775807 : Nat)), (Go.Abs.InI64 (((i : Nat) : Int) + (1 : Int))), (key = key), (ll = ll), ((n + (((List.length (List.getD ll (Int.toNat ((i : Nat) : Int)) ([] : List (Int)))) : Nat) : Int)) = n'), (ll = ll), ((((List.length ll) : Nat) : Int) = (((List.length ll) : Nat) : Int)), ((((i : Nat) : Int) + (1 : Int)) = (((i : Nat) : Int) + (1 : Int))), ((ml ++ ((List.getD ll (Int.toNat ((i : Nat) : Int)) ([] : List (Int))) :: ([] : List (List Int)))) = ml')] := by kernel_rfl
theorem hm1_round (key : List Int) (ll ml ml' : List (List Int)) (n n' : Int) (i : Nat)
    (h1 : ((decide (((i : Nat) : Int) < (((List.length ll) : Nat) : Int))) = Bool.true))
    (h2 : ((0 : Int) ≤ ((i : Nat) : Int)))
    (h3 : (((i : Nat) : Int) < (((List.length ll) : Nat) : Int)))
    (h4 : (Go.Abs.InI64 (n + (((List.length (List.getD ll (Int.toNat ((i : Nat) : Int)) ([] : List (Int)))) : Nat) : Int))))
    (h5 : ((List.length (List.getD ll (Int.toNat ((i : Nat) : Int)) ([] : List (Int)))) ≤ (281474976710656 : Nat)))
    (h6 : ((((List.length ml) + (1 : Nat)) * (24 : Nat)) ≤ (140737488355328 : Nat)))
    (h7 : (((List.length ml) + (1 : Nat)) ≤ (9223372036854775807 : Nat)))
    (h8 : (Go.Abs.InI64 (((i : Nat) : Int) + (1 : Int))))
    (h9 : ((n + (((List.length (List.getD ll (Int.toNat ((i : Nat) : Int)) ([] : List (Int)))) : Nat) : Int)) = n'))
    (h10 : ((ml ++ ((List.getD ll (Int.toNat ((i : Nat) : Int)) ([] : List (Int))) :: ([] : List (List Int)))) = ml')) :
    ∃ ps, stepPs Tryd.prog DS gamL 100 (bodyN Tryd.f6 0) 100 (hm1Sn key ll ml n (hm1In ll i)).st [.is true] .normal (hm1Sn key ll ml' n' (hm1In ll ((i : Int) + 1))) = some ps ∧ AllQ ps := ⟨_, hm1_round_r key ll ml ml' n n' i, AllP.all ⟨h1, h2, h3, h4, h5, h6, h7, h8, rfl, rfl, h9, rfl, rfl, rfl, h10⟩⟩

theorem hm1_exit_r (key : List Int) (ll ml : List (List Int)) (n : Int) (i : Nat) : stepPs Tryd.prog DS gamL 100 (bodyN Tryd.f6 0) 100 (hm1Sn key ll ml n (hm1In ll i)).st [.is false] (.exit 0) (hm1Sn key ll ml n []) =
    some [((decide (((i : Nat) : Int) < (((List.length ll) : Nat) : Int))) = Bool.false), (key = key), (ll = ll), (n = n), (ml = ml)] := by kernel_rfl
theorem hm1_exit (key : List Int) (ll ml : List (List Int)) (n : Int) (i : Nat)
    (h1 : ((decide (((i : Nat) : Int) < (((List.length ll) : Nat) : Int))) = Bool.false)) :
    ∃ ps, stepPs Tryd.prog DS gamL 100 (bodyN Tryd.f6 0) 100 (hm1Sn key ll ml n (hm1In ll i)).st [.is false] (.exit 0) (hm1Sn key ll ml n []) = some ps ∧ AllQ ps := ⟨_, hm1_exit_r key ll ml n i, AllP.all ⟨h1, rfl, rfl, rfl, rfl⟩⟩

theorem hm2_round_r (ll ml : List (List Int)) (i : Nat) : stepPs Tryd.prog DS gamL 100 (bodyN Tryd.f6 1) 100 (hm2Sn ll ml [slI 53 ml.length, slI 54 i]).st [.is true, .is true] .normal (hm2Sn ll ml [slI 53 ml.length, slI 54 ((i : Int) + 1)]) =
    some [((decide (((i : Nat) : Int) < (((List.length ml) : Nat) : Int))) = Bool.true), ((0 : Int) ≤ ((i : Nat) : Int)), (((i : Nat) : Int) < (((List.length ml) : Nat) : Int)), ((Int.toNat ((i : Nat) : Int)) < (List.length ml)), ((0 : Int) ≤ ((i : Nat) : Int)), (((i : Nat) : Int) < (((List.length ll) : Nat) : Int)), ((decide ((List.getD ml (Int.toNat ((i : Nat) : Int)) ([] : List (Int))) = (List.getD ll (Int.toNat ((i : Nat) : Int)) ([] : List (Int))))) = Bool.true), ((List.length (List.getD ml (Int.toNat ((i : Nat) : Int)) ([] : List (Int)))) ≤ (9223372036854775807 : Nat)), ((List.length (List.getD ll (Int.toNat ((i : Nat) : Int)) ([] : List (Int)))) ≤ (9223372036854775807 : Nat)), (Go.Abs.InI64 (((i : Nat) : Int) + (1 : Int))), (ll = ll), ((((List.length ml) : Nat) : Int) = (((List.length ml) : Nat) : Int)), ((((i : Nat) : Int) + (1 : Int)) = (((i : Nat) : Int) + (1 : Int))), (ml = ml)] := by kernel_rfl
theorem hm2_round (ll ml : List (List Int)) (i : Nat)
    (h1 : ((decide (((i : Nat) : Int) < (((List.length ml) : Nat) : Int))) = Bool.true))
    (h2 : ((0 : Int) ≤ ((i : Nat) : Int)))
    (h3 : (((i : Nat) : Int) < (((List.length ml) : Nat) : Int)))
    (h4 : ((Int.toNat ((i : Nat) : Int)) < (List.length ml)))
    (h5 : (((i : Nat) : Int) < (((List.length ll) : Nat) : Int)))
    (h6 : ((decide ((List.getD ml (Int.toNat ((i : Nat) : Int)) ([] : List (Int))) = (List.getD ll (Int.toNat ((i : Nat) : Int)) ([] : List (Int))))) = Bool.true))
    (h7 : ((List.length (List.getD ml (Int.toNat ((i : Nat) : Int)) ([] : List (Int)))) ≤ (9223372036854775807 : Nat)))
    (h8 : ((List.length (List.getD ll (Int.toNat ((i : Nat) : Int)) ([] : List (Int)))) ≤ (9223372036854775807 : Nat)))
    (h9 : (Go.Abs.InI64 (((i : Nat) : Int) + (1 : Int)))) :
    ∃ ps, stepPs Tryd.prog DS gamL 100 (bodyN Tryd.f6 1) 100 (hm2Sn ll ml [slI 53 ml.length, slI 54 i]).st [.is true, .is true] .normal (hm2Sn ll ml [slI 53 ml.length, slI 54 ((i : Int) + 1)]) = some ps ∧ AllQ ps := ⟨_, hm2_round_r ll ml i, AllP.all ⟨h1, h2, h3, h4, h2, h5, h6, h7, h8, h9, rfl, rfl, rfl, rfl⟩⟩

theorem hm2_exit_r (ll ml : List (List Int)) (i : Nat) : stepPs Tryd.prog DS gamL 100 (bodyN Tryd.f6 1) 100 (hm2Sn ll ml [slI 53 ml.length, slI 54 i]).st [.is false] (.exit 2) hm2End =
    some [((decide (((i : Nat) : Int) < (((List.length ml) : Nat) : Int))) = Bool.false)] := by kernel_rfl
theorem hm2_exit (ll ml : List (List Int)) (i : Nat)
    (h1 : ((decide (((i : Nat) : Int) < (((List.length ml) : Nat) : Int))) = Bool.false)) :
    ∃ ps, stepPs Tryd.prog DS gamL 100 (bodyN Tryd.f6 1) 100 (hm2Sn ll ml [slI 53 ml.length, slI 54 i]).st [.is false] (.exit 2) hm2End = some ps ∧ AllQ ps := ⟨_, hm2_exit_r ll ml i, AllP.all h1⟩

theorem hm_run_r (key : List Int) (ll ml : List (List Int)) (n : Int) : runF Tryd.prog DS gamL 200 Tryd.f6 [.one (.words .u8 key), .one (.wordss .u8 ll)] [.loop (loopL DS (hm1Sn key ll [] key.length (hm1In ll (0 : Nat))) (.exit 0) (hm1Sn key ll ml n [])), .is false, .is true, .is true, .loop (loopL DS (hm2Sn ll ml [slI 53 ml.length, slI 54 (0 : Nat)]) (.exit 2) hm2End)] =
    some ((Go.Abs.AV.v (Go.Abs.A0.one (Go.Abs.Part.bool Bool.true Bool.true))), [SumOK Tryd.prog DS (bodyN Tryd.f6 0) (loopL DS (hm1Sn key ll [] key.length (hm1In ll (0 : Nat))) (.exit 0) (hm1Sn key ll ml n [])), (key = key), (ll = ll), ((((List.length key) : Nat) : Int) = (((List.length key) : Nat) : Int)), (ll = ll), ((((List.length ll) : Nat) : Int) = (((List.length ll) : Nat) : Int)), ((0 : Int) = (((0 : Nat) : Nat) : Int)), (([] : List (List Int)) = ([] : List (List Int))), ((decide (n > (16384 : Int))) = Bool.false), ((List.length key) ≤ (281474976710656 : Nat)), (Go.Num.InB key), (Go.Num.InB (List.flatten ml)), ((List.length key) ≤ (1000000 : Nat)), ((List.length (List.flatten ml)) ≤ (1000000 : Nat)), ((List.length ml) ≤ (2000000 : Nat)), ((0 : Int) ≤ (0 : Int)), ((0 : Int) ≤ (((32 : Nat) : Nat) : Int)), ((((32 : Nat) : Nat) : Int) ≤ (((32 : Nat) : Nat) : Int)), ((0 : Int) < (((32 : Nat) : Nat) : Int)), ((List.length (List.flatten ll)) ≤ (1000000 : Nat)), ((List.length ll) ≤ (9223372036854775807 : Nat)), ((List.length key) ≤ (1000000 : Nat)), ((List.length (List.flatten ll)) ≤ (1000000 : Nat)), ((decide ((List.take ((32 : Nat) - (0 : Nat)) (List.drop (0 : Nat) (Go.Num.hmF key (List.flatten ml)))) = (Go.Num.hmF key (List.flatten ll)))) = Bool.true), ((List.length (List.take ((32 : Nat) - (0 : Nat)) (List.drop (0 : Nat) (Go.Num.hmF key (List.flatten ml))))) ≤ (9223372036854775807 : Nat)), ((List.length (Go.Num.hmF key (List.flatten ll))) ≤ (9223372036854775807 : Nat)), ((decide (key = key)) = Bool.true), ((List.length key) ≤ (9223372036854775807 : Nat)), ((List.length key) ≤ (9223372036854775807 : Nat)), SumOK Tryd.prog DS (bodyN Tryd.f6 1) (loopL DS (hm2Sn ll ml [slI 53 ml.length, slI 54 (0 : Nat)]) (.exit 2) hm2End), (ll = ll), ((((List.length ml) : Nat) : Int) = (((List.length ml) : Nat) : Int)), ((0 : Int) = (((0 : Nat) : Nat) : Int)), (ml = ml)]) := by kernel_rfl
theorem hm_run (key : List Int) (ll ml : List (List Int)) (n : Int)
    (h1 : SumOK Tryd.prog DS (bodyN Tryd.f6 0) (loopL DS (hm1Sn key ll [] key.length (hm1In ll (0 : Nat))) (.exit 0) (hm1Sn key ll ml n [])))
    (h2 : ((decide (n > (16384 : Int))) = Bool.false))
    (h3 : ((List.length key) ≤ (281474976710656 : Nat)))
    (h4 : (Go.Num.InB key))
    (h5 : (Go.Num.InB (List.flatten ml)))
    (h6 : ((List.length key) ≤ (1000000 : Nat)))
    (h7 : ((List.length (List.flatten ml)) ≤ (1000000 : Nat)))
    (h8 : ((List.length ml) ≤ (2000000 : Nat)))
    (h9 : ((List.length (List.flatten ll)) ≤ (1000000 : Nat)))
    (h10 : ((List.length ll) ≤ (9223372036854775807 : Nat)))
    (h11 : ((decide ((List.take ((32 : Nat) - (0 : Nat)) (List.drop (0 : Nat) (Go.Num.hmF key (List.flatten ml)))) = (Go.Num.hmF key (List.flatten ll)))) = Bool.true))
    (h12 : ((List.length (List.take ((32 : Nat) - (0 : Nat)) (List.drop (0 : Nat) (Go.Num.hmF key (List.flatten ml))))) ≤ (9223372036854775807 : Nat)))
    (h13 : ((List.length (Go.Num.hmF key (List.flatten ll))) ≤ (9223372036854775807 : Nat)))
    (h14 : ((decide (key = key)) = Bool.true))
    (h15 : ((List.length key) ≤ (9223372036854775807 : Nat)))
    (h16 : SumOK Tryd.prog DS (bodyN Tryd.f6 1) (loopL DS (hm2Sn ll ml [slI 53 ml.length, slI 54 (0 : Nat)]) (.exit 2) hm2End)) :
    ∃ ps, runF Tryd.prog DS gamL 200 Tryd.f6 [.one (.words .u8 key), .one (.wordss .u8 ll)] [.loop (loopL DS (hm1Sn key ll [] key.length (hm1In ll (0 : Nat))) (.exit 0) (hm1Sn key ll ml n [])), .is false, .is true, .is true, .loop (loopL DS (hm2Sn ll ml [slI 53 ml.length, slI 54 (0 : Nat)]) (.exit 2) hm2End)] = some ((Go.Abs.AV.v (Go.Abs.A0.one (Go.Abs.Part.bool Bool.true Bool.true))), ps) ∧ AllQ ps := ⟨_, hm_run_r key ll ml n, AllP.all ⟨h1, rfl, rfl, rfl, rfl, rfl, (show ((0 : Int) = (((0 : Nat) : Nat) : Int)) from by decide), rfl, h2, h3, h4, h5, h6, h7, h8, (show ((0 : Int) ≤ (0 : Int)) from by decide), (show ((0 : Int) ≤ (((32 : Nat) : Nat) : Int)) from by decide), (show ((((32 : Nat) : Nat) : Int) ≤ (((32 : Nat) : Nat) : Int)) from by decide), (show ((0 : Int) < (((32 : Nat) : Nat) : Int)) from by decide), h9, h10, h6, h9, h11, h12, h13, h14, h15, h15, h16, rfl, rfl, (show ((0 : Int) = (((0 : Nat) : Nat) : Int)) from by decide), rfl⟩⟩

theorem hm_big_r (key : List Int) (ll ml : List (List Int)) (n : Int) : runF Tryd.prog DS gamL 200 Tryd.f6 [.one (.words .u8 key), .one (.wordss .u8 ll)] [.loop (loopL DS (hm1Sn key ll [] key.length (hm1In ll (0 : Nat))) (.exit 0) (hm1Sn key ll ml n [])), .is true] =
    some ((Go.Abs.AV.v (Go.Abs.A0.one (Go.Abs.Part.bool Bool.true Bool.true))), [SumOK Tryd.prog DS (bodyN Tryd.f6 0) (loopL DS (hm1Sn key ll [] key.length (hm1In ll (0 : Nat))) (.exit 0) (hm1Sn key ll ml n [])), (key = key), (ll = ll), ((((List.length key) : Nat) : Int) = (((List.length key) : Nat) : Int)), (ll = ll), ((((List.length ll) : Nat) : Int) = (((List.length ll) : Nat) : Int)), ((0 : Int) = (((0 : Nat) : Nat) : Int)), (([] : List (List Int)) = ([] : List (List Int))), ((decide (n > (16384 : Int))) = Bool.true)]) := by kernel_rfl
theorem hm_big (key : List Int) (ll ml : List (List Int)) (n : Int)
    (h1 : SumOK Tryd.prog DS (bodyN Tryd.f6 0) (loopL DS (hm1Sn key ll [] key.length (hm1In ll (0 : Nat))) (.exit 0) (hm1Sn key ll ml n [])))
    (h2 : ((decide (n > (16384 : Int))) = Bool.true)) :
    ∃ ps, runF Tryd.prog DS gamL 200 Tryd.f6 [.one (.words .u8 key), .one (.wordss .u8 ll)] [.loop (loopL DS (hm1Sn key ll [] key.length (hm1In ll (0 : Nat))) (.exit 0) (hm1Sn key ll ml n [])), .is true] = some ((Go.Abs.AV.v (Go.Abs.A0.one (Go.Abs.Part.bool Bool.true Bool.true))), ps) ∧ AllQ ps := ⟨_, hm_big_r key ll ml n, AllP.all ⟨h1, rfl, rfl, rfl, rfl, rfl, (show ((0 : Int) = (((0 : Nat) : Nat) : Int)) from by decide), rfl, h2⟩⟩

theorem hg_big_r (key info : List Int) (n m : Int) : runF Tryd.prog DS gamL 200 Tryd.f7 [.one (.words .u8 key), .one (.words .u8 info), .one (.int .i64 false n), .one (.int .i64 false m)] [.is true] =
    some ((Go.Abs.AV.v (Go.Abs.A0.one (Go.Abs.Part.bool Bool.true Bool.true))), [(Go.Abs.InI64 ((((List.length key) : Nat) : Int) + (((List.length info) : Nat) : Int))), ((decide (((((List.length key) : Nat) : Int) + (((List.length info) : Nat) : Int)) > (4096 : Int))) = Bool.true)]) := by kernel_rfl
theorem hg_big (key info : List Int) (n m : Int)
    (h1 : (Go.Abs.InI64 ((((List.length key) : Nat) : Int) + (((List.length info) : Nat) : Int))))
    (h2 : ((decide (((((List.length key) : Nat) : Int) + (((List.length info) : Nat) : Int)) > (4096 : Int))) = Bool.true)) :
    ∃ ps, runF Tryd.prog DS gamL 200 Tryd.f7 [.one (.words .u8 key), .one (.words .u8 info), .one (.int .i64 false n), .one (.int .i64 false m)] [.is true] = some ((Go.Abs.AV.v (Go.Abs.A0.one (Go.Abs.Part.bool Bool.true Bool.true))), ps) ∧ AllQ ps := ⟨_, hg_big_r key info n m, AllP.all ⟨h1, h2⟩⟩

theorem hg_neg_r (key info : List Int) (n m : Int) : runF Tryd.prog DS gamL 200 Tryd.f7 [.one (.words .u8 key), .one (.words .u8 info), .one (.int .i64 false n), .one (.int .i64 false m)] [.is false, .is true, .is true, .is true] =
    some ((Go.Abs.AV.v (Go.Abs.A0.one (Go.Abs.Part.bool Bool.true Bool.true))), [(Go.Abs.InI64 ((((List.length key) : Nat) : Int) + (((List.length info) : Nat) : Int))), ((decide (((((List.length key) : Nat) : Int) + (((List.length info) : Nat) : Int)) > (4096 : Int))) = Bool.false), ((decide (n < (0 : Int))) = Bool.true), ((List.length key) ≤ (281474976710656 : Nat)), ((List.length info) ≤ (281474976710656 : Nat)), (Go.Num.InB key), (Go.Num.InB info), ((List.length key) ≤ (1000000 : Nat)), ((List.length info) ≤ (10000 : Nat)), (((((List.length (Go.Num.exF key info n)) : Nat) : Int) == (0 : Int)) = Bool.true)]) := by kernel_rfl
theorem hg_neg (key info : List Int) (n m : Int)
    (h1 : (Go.Abs.InI64 ((((List.length key) : Nat) : Int) + (((List.length info) : Nat) : Int))))
    (h2 : ((decide (((((List.length key) : Nat) : Int) + (((List.length info) : Nat) : Int)) > (4096 : Int))) = Bool.false))
    (h3 : ((decide (n < (0 : Int))) = Bool.true))
    (h4 : ((List.length key) ≤ (281474976710656 : Nat)))
    (h5 : ((List.length info) ≤ (281474976710656 : Nat)))
    (h6 : (Go.Num.InB key))
    (h7 : (Go.Num.InB info))
    (h8 : ((List.length key) ≤ (1000000 : Nat)))
    (h9 : ((List.length info) ≤ (10000 : Nat)))
    (h10 : (((((List.length (Go.Num.exF key info n)) : Nat) : Int) == (0 : Int)) = Bool.true)) :
    ∃ ps, runF Tryd.prog DS gamL 200 Tryd.f7 [.one (.words .u8 key), .one (.words .u8 info), .one (.int .i64 false n), .one (.int .i64 false m)] [.is false, .is true, .is true, .is true] = some ((Go.Abs.AV.v (Go.Abs.A0.one (Go.Abs.Part.bool Bool.true Bool.true))), ps) ∧ AllQ ps := ⟨_, hg_neg_r key info n m, AllP.all ⟨h1, h2, h3, h4, h5, h6, h7, h8, h9, h10⟩⟩

theorem hg_most_r (key info : List Int) (n m : Int) : runF Tryd.prog DS gamL 200 Tryd.f7 [.one (.words .u8 key), .one (.words .u8 info), .one (.int .i64 false n), .one (.int .i64 false m)] [.is false, .is false, .is true, .is true, .is true] =
    some ((Go.Abs.AV.v (Go.Abs.A0.one (Go.Abs.Part.bool Bool.true Bool.true))), [(Go.Abs.InI64 ((((List.length key) : Nat) : Int) + (((List.length info) : Nat) : Int))), ((decide (((((List.length key) : Nat) : Int) + (((List.length info) : Nat) : Int)) > (4096 : Int))) = Bool.false), ((decide (n < (0 : Int))) = Bool.false), ((decide (n > (8160 : Int))) = Bool.true), ((List.length key) ≤ (281474976710656 : Nat)), ((List.length info) ≤ (281474976710656 : Nat)), (Go.Num.InB key), (Go.Num.InB info), ((List.length key) ≤ (1000000 : Nat)), ((List.length info) ≤ (10000 : Nat)), (((((List.length (Go.Num.exF key info n)) : Nat) : Int) == (0 : Int)) = Bool.true)]) := by kernel_rfl
theorem hg_most (key info : List Int) (n m : Int)
    (h1 : (Go.Abs.InI64 ((((List.length key) : Nat) : Int) + (((List.length info) : Nat) : Int))))
    (h2 : ((decide (((((List.length key) : Nat) : Int) + (((List.length info) : Nat) : Int)) > (4096 : Int))) = Bool.false))
    (h3 : ((decide (n < (0 : Int))) = Bool.false))
    (h4 : ((decide (n > (8160 : Int))) = Bool.true))
    (h5 : ((List.length key) ≤ (281474976710656 : Nat)))
    (h6 : ((List.length info) ≤ (281474976710656 : Nat)))
    (h7 : (Go.Num.InB key))
    (h8 : (Go.Num.InB info))
    (h9 : ((List.length key) ≤ (1000000 : Nat)))
    (h10 : ((List.length info) ≤ (10000 : Nat)))
    (h11 : (((((List.length (Go.Num.exF key info n)) : Nat) : Int) == (0 : Int)) = Bool.true)) :
    ∃ ps, runF Tryd.prog DS gamL 200 Tryd.f7 [.one (.words .u8 key), .one (.words .u8 info), .one (.int .i64 false n), .one (.int .i64 false m)] [.is false, .is false, .is true, .is true, .is true] = some ((Go.Abs.AV.v (Go.Abs.A0.one (Go.Abs.Part.bool Bool.true Bool.true))), ps) ∧ AllQ ps := ⟨_, hg_most_r key info n m, AllP.all ⟨h1, h2, h3, h4, h5, h6, h7, h8, h9, h10, h11⟩⟩

theorem hg_much_r (key info : List Int) (n m : Int) : runF Tryd.prog DS gamL 200 Tryd.f7 [.one (.words .u8 key), .one (.words .u8 info), .one (.int .i64 false n), .one (.int .i64 false m)] [.is false, .is false, .is false, .is true, .is true] =
    some ((Go.Abs.AV.v (Go.Abs.A0.one (Go.Abs.Part.bool Bool.true Bool.true))), [(Go.Abs.InI64 ((((List.length key) : Nat) : Int) + (((List.length info) : Nat) : Int))), ((decide (((((List.length key) : Nat) : Int) + (((List.length info) : Nat) : Int)) > (4096 : Int))) = Bool.false), ((decide (n < (0 : Int))) = Bool.false), ((decide (n > (8160 : Int))) = Bool.false), ((List.length key) ≤ (281474976710656 : Nat)), ((List.length info) ≤ (281474976710656 : Nat)), (Go.Num.InB key), (Go.Num.InB info), ((List.length key) ≤ (1000000 : Nat)), ((List.length info) ≤ (10000 : Nat)), ((List.length key) ≤ (281474976710656 : Nat)), ((List.length info) ≤ (281474976710656 : Nat)), (Go.Num.InB key), (Go.Num.InB info), ((List.length key) ≤ (1000000 : Nat)), ((List.length info) ≤ (10000 : Nat)), ((decide ((Go.Abs.bitsOf Go.BinOp.and Go.IntKind.i64 m (8191 : Int)) > (8160 : Int))) = Bool.true), (((((List.length (Go.Num.exF key info (Go.Abs.bitsOf Go.BinOp.and Go.IntKind.i64 m (8191 : Int)))) : Nat) : Int) == (0 : Int)) = Bool.true)]) := by kernel_rfl
theorem hg_much (key info : List Int) (n m : Int)
    (h1 : (Go.Abs.InI64 ((((List.length key) : Nat) : Int) + (((List.length info) : Nat) : Int))))
    (h2 : ((decide (((((List.length key) : Nat) : Int) + (((List.length info) : Nat) : Int)) > (4096 : Int))) = Bool.false))
    (h3 : ((decide (n < (0 : Int))) = Bool.false))
    (h4 : ((decide (n > (8160 : Int))) = Bool.false))
    (h5 : ((List.length key) ≤ (281474976710656 : Nat)))
    (h6 : ((List.length info) ≤ (281474976710656 : Nat)))
    (h7 : (Go.Num.InB key))
    (h8 : (Go.Num.InB info))
    (h9 : ((List.length key) ≤ (1000000 : Nat)))
    (h10 : ((List.length info) ≤ (10000 : Nat)))
    (h11 : ((decide ((Go.Abs.bitsOf Go.BinOp.and Go.IntKind.i64 m (8191 : Int)) > (8160 : Int))) = Bool.true))
    (h12 : (((((List.length (Go.Num.exF key info (Go.Abs.bitsOf Go.BinOp.and Go.IntKind.i64 m (8191 : Int)))) : Nat) : Int) == (0 : Int)) = Bool.true)) :
    ∃ ps, runF Tryd.prog DS gamL 200 Tryd.f7 [.one (.words .u8 key), .one (.words .u8 info), .one (.int .i64 false n), .one (.int .i64 false m)] [.is false, .is false, .is false, .is true, .is true] = some ((Go.Abs.AV.v (Go.Abs.A0.one (Go.Abs.Part.bool Bool.true Bool.true))), ps) ∧ AllQ ps := ⟨_, hg_much_r key info n m, AllP.all ⟨h1, h2, h3, h4, h5, h6, h7, h8, h9, h10, h5, h6, h7, h8, h9, h10, h11, h12⟩⟩

theorem hg_both_r (key info : List Int) (n m : Int) : runF Tryd.prog DS gamL 200 Tryd.f7 [.one (.words .u8 key), .one (.words .u8 info), .one (.int .i64 false n), .one (.int .i64 false m)] [.is false, .is false, .is false, .is false, .is false, .is false, .is true] =
    some ((Go.Abs.AV.v (Go.Abs.A0.one (Go.Abs.Part.bool Bool.true Bool.true))), [(Go.Abs.InI64 ((((List.length key) : Nat) : Int) + (((List.length info) : Nat) : Int))), ((decide (((((List.length key) : Nat) : Int) + (((List.length info) : Nat) : Int)) > (4096 : Int))) = Bool.false), ((decide (n < (0 : Int))) = Bool.false), ((decide (n > (8160 : Int))) = Bool.false), ((List.length key) ≤ (281474976710656 : Nat)), ((List.length info) ≤ (281474976710656 : Nat)), (Go.Num.InB key), (Go.Num.InB info), ((List.length key) ≤ (1000000 : Nat)), ((List.length info) ≤ (10000 : Nat)), ((List.length key) ≤ (281474976710656 : Nat)), ((List.length info) ≤ (281474976710656 : Nat)), (Go.Num.InB key), (Go.Num.InB info), ((List.length key) ≤ (1000000 : Nat)), ((List.length info) ≤ (10000 : Nat)), ((decide ((Go.Abs.bitsOf Go.BinOp.and Go.IntKind.i64 m (8191 : Int)) > (8160 : Int))) = Bool.false), (((((List.length (Go.Num.exF key info n)) : Nat) : Int) != n) = Bool.false), (((((List.length (Go.Num.exF key info (Go.Abs.bitsOf Go.BinOp.and Go.IntKind.i64 m (8191 : Int)))) : Nat) : Int) != (Go.Abs.bitsOf Go.BinOp.and Go.IntKind.i64 m (8191 : Int))) = Bool.false), ((0 : Int) ≤ (if ((Go.Abs.bitsOf Go.BinOp.and Go.IntKind.i64 m (8191 : Int)) < n) then (Go.Abs.bitsOf Go.BinOp.and Go.IntKind.i64 m (8191 : Int)) else n)), ((if ((Go.Abs.bitsOf Go.BinOp.and Go.IntKind.i64 m (8191 : Int)) < n) then (Go.Abs.bitsOf Go.BinOp.and Go.IntKind.i64 m (8191 : Int)) else n) ≤ (((List.length (Go.Num.exF key info n)) : Nat) : Int)), ((0 : Int) ≤ (if ((Go.Abs.bitsOf Go.BinOp.and Go.IntKind.i64 m (8191 : Int)) < n) then (Go.Abs.bitsOf Go.BinOp.and Go.IntKind.i64 m (8191 : Int)) else n)), ((if ((Go.Abs.bitsOf Go.BinOp.and Go.IntKind.i64 m (8191 : Int)) < n) then (Go.Abs.bitsOf Go.BinOp.and Go.IntKind.i64 m (8191 : Int)) else n) ≤ (((List.length (Go.Num.exF key info (Go.Abs.bitsOf Go.BinOp.and Go.IntKind.i64 m (8191 : Int)))) : Nat) : Int)), ((decide ((List.take (Int.toNat (if ((Go.Abs.bitsOf Go.BinOp.and Go.IntKind.i64 m (8191 : Int)) < n) then (Go.Abs.bitsOf Go.BinOp.and Go.IntKind.i64 m (8191 : Int)) else n)) (Go.Num.exF key info n)) = (List.take (Int.toNat (if ((Go.Abs.bitsOf Go.BinOp.and Go.IntKind.i64 m (8191 : Int)) < n) then (Go.Abs.bitsOf Go.BinOp.and Go.IntKind.i64 m (8191 : Int)) else n)) (Go.Num.exF key info (Go.Abs.bitsOf Go.BinOp.and Go.IntKind.i64 m (8191 : Int)))))) = Bool.true), ((List.length (List.take (Int.toNat (if ((Go.Abs.bitsOf Go.BinOp.and Go.IntKind.i64 m (8191 : Int)) < n) then (Go.Abs.bitsOf Go.BinOp.and Go.IntKind.i64 m (8191 : Int)) else n)) (Go.Num.exF key info n))) ≤ (9223372036854775807 : Nat)), ((List.length (List.take (Int.toNat (if ((Go.Abs.bitsOf Go.BinOp.and Go.IntKind.i64 m (8191 : Int)) < n) then (Go.Abs.bitsOf Go.BinOp.and Go.IntKind.i64 m (8191 : Int)) else n)) (Go.Num.exF key info (Go.Abs.bitsOf Go.BinOp.and Go.IntKind.i64 m (8191 : Int))))) ≤ (9223372036854775807 : Nat))]) := by kernel_rfl
theorem hg_both (key info : List Int) (n m : Int)
    (h1 : (Go.Abs.InI64 ((((List.length key) : Nat) : Int) + (((List.length info) : Nat) : Int))))
    (h2 : ((decide (((((List.length key) : Nat) : Int) + (((List.length info) : Nat) : Int)) > (4096 : Int))) = Bool.false))
    (h3 : ((decide (n < (0 : Int))) = Bool.false))
    (h4 : ((decide (n > (8160 : Int))) = Bool.false))
    (h5 : ((List.length key) ≤ (281474976710656 : Nat)))
    (h6 : ((List.length info) ≤ (281474976710656 : Nat)))
    (h7 : (Go.Num.InB key))
    (h8 : (Go.Num.InB info))
    (h9 : ((List.length key) ≤ (1000000 : Nat)))
    (h10 : ((List.length info) ≤ (10000 : Nat)))
    (h11 : ((decide ((Go.Abs.bitsOf Go.BinOp.and Go.IntKind.i64 m (8191 : Int)) > (8160 : Int))) = Bool.false))
    (h12 : (((((List.length (Go.Num.exF key info n)) : Nat) : Int) != n) = Bool.false))
    (h13 : (((((List.length (Go.Num.exF key info (Go.Abs.bitsOf Go.BinOp.and Go.IntKind.i64 m (8191 : Int)))) : Nat) : Int) != (Go.Abs.bitsOf Go.BinOp.and Go.IntKind.i64 m (8191 : Int))) = Bool.false))
    (h14 : ((0 : Int) ≤ (if ((Go.Abs.bitsOf Go.BinOp.and Go.IntKind.i64 m (8191 : Int)) < n) then (Go.Abs.bitsOf Go.BinOp.and Go.IntKind.i64 m (8191 : Int)) else n)))
    (h15 : ((if ((Go.Abs.bitsOf Go.BinOp.and Go.IntKind.i64 m (8191 : Int)) < n) then (Go.Abs.bitsOf Go.BinOp.and Go.IntKind.i64 m (8191 : Int)) else n) ≤ (((List.length (Go.Num.exF key info n)) : Nat) : Int)))
    (h16 : ((if ((Go.Abs.bitsOf Go.BinOp.and Go.IntKind.i64 m (8191 : Int)) < n) then (Go.Abs.bitsOf Go.BinOp.and Go.IntKind.i64 m (8191 : Int)) else n) ≤ (((List.length (Go.Num.exF key info (Go.Abs.bitsOf Go.BinOp.and Go.IntKind.i64 m (8191 : Int)))) : Nat) : Int)))
    (h17 : ((decide ((List.take (Int.toNat (if ((Go.Abs.bitsOf Go.BinOp.and Go.IntKind.i64 m (8191 : Int)) < n) then (Go.Abs.bitsOf Go.BinOp.and Go.IntKind.i64 m (8191 : Int)) else n)) (Go.Num.exF key info n)) = (List.take (Int.toNat (if ((Go.Abs.bitsOf Go.BinOp.and Go.IntKind.i64 m (8191 : Int)) < n) then (Go.Abs.bitsOf Go.BinOp.and Go.IntKind.i64 m (8191 : Int)) else n)) (Go.Num.exF key info (Go.Abs.bitsOf Go.BinOp.and Go.IntKind.i64 m (8191 : Int)))))) = Bool.true))
    (h18 : ((List.length (List.take (Int.toNat (if ((Go.Abs.bitsOf Go.BinOp.and Go.IntKind.i64 m (8191 : Int)) < n) then (Go.Abs.bitsOf Go.BinOp.and Go.IntKind.i64 m (8191 : Int)) else n)) (Go.Num.exF key info n))) ≤ (9223372036854775807 : Nat)))
    (h19 : ((List.length (List.take (Int.toNat (if ((Go.Abs.bitsOf Go.BinOp.and Go.IntKind.i64 m (8191 : Int)) < n) then (Go.Abs.bitsOf Go.BinOp.and Go.IntKind.i64 m (8191 : Int)) else n)) (Go.Num.exF key info (Go.Abs.bitsOf Go.BinOp.and Go.IntKind.i64 m (8191 : Int))))) ≤ (9223372036854775807 : Nat))) :
    ∃ ps, runF Tryd.prog DS gamL 200 Tryd.f7 [.one (.words .u8 key), .one (.words .u8 info), .one (.int .i64 false n), .one (.int .i64 false m)] [.is false, .is false, .is false, .is false, .is false, .is false, .is true] = some ((Go.Abs.AV.v (Go.Abs.A0.one (Go.Abs.Part.bool Bool.true Bool.true))), ps) ∧ AllQ ps := ⟨_, hg_both_r key info n m, AllP.all ⟨h1, h2, h3, h4, h5, h6, h7, h8, h9, h10, h5, h6, h7, h8, h9, h10, h11, h12, h13, h14, h15, h14, h16, h17, h18, h19⟩⟩

def hkSn2 (x y w : List Int) (n i : Int) : Sn DS.τ where
  slots := [(10, .v (.one (.own 0))), (11, .v (.one (.own 1))), (12, .v (.one (.own 2))), slI 65 n, slI 66 i]
  boxes := [(0, .dyn 5 (.ints .u8 x)), (1, .dyn 5 (.ints .u8 y)), (2, .dyn 5 (.ints .u8 w))]
  nt := 79
def hkEnd (y w : List Int) : Sn DS.τ where
  slots := [(11, .v (.one (.own 1))), (12, .v (.one (.own 2)))]
  boxes := [(1, .dyn 5 (.ints .u8 y)), (2, .dyn 5 (.ints .u8 w))]
  nt := 79

theorem hk_round_r (x x' y w : List Int) (n : Int) (i : Nat) : stepPs Tryd.prog DS gamL 100 (bodyN Tryd.f8 0) 100 (hkSn2 x y w n i).st [.is true] .normal (hkSn2 x' y w n ((i : Int) + 1)) =
    some [((decide (((i : Nat) : Int) < n)) = Bool.true), ((0 : Int) ≤ ((i : Nat) : Int)), (((i : Nat) : Int) < (((List.length x) : Nat) : Int)), ((Int.toNat ((i : Nat) : Int)) < (List.length x)), ((0 : Int) ≤ ((i : Nat) : Int)), (((i : Nat) : Int) < (((List.length x) : Nat) : Int)), ((Int.toNat ((i : Nat) : Int)) < (List.length x)), ((some (1 : Nat)) = (some (1 : Nat))), (Go.Abs.InI64 (((i : Nat) : Int) + (1 : Int))), (n = n), ((((i : Nat) : Int) + (1 : Int)) = (((i : Nat) : Int) + (1 : Int))), ((List.set x (Int.toNat ((i : Nat) : Int)) (Go.Abs.bitsOf Go.BinOp.xor Go.IntKind.u8 (List.getD x (Int.toNat ((i : Nat) : Int)) (0 : Int)) (255 : Int))) = x'), (y = y), (w = w)] := by kernel_rfl
theorem hk_round (x x' y w : List Int) (n : Int) (i : Nat)
    (h1 : ((decide (((i : Nat) : Int) < n)) = Bool.true))
    (h2 : ((0 : Int) ≤ ((i : Nat) : Int)))
    (h3 : (((i : Nat) : Int) < (((List.length x) : Nat) : Int)))
    (h4 : ((Int.toNat ((i : Nat) : Int)) < (List.length x)))
    (h5 : (Go.Abs.InI64 (((i : Nat) : Int) + (1 : Int))))
    (h6 : ((List.set x (Int.toNat ((i : Nat) : Int)) (Go.Abs.bitsOf Go.BinOp.xor Go.IntKind.u8 (List.getD x (Int.toNat ((i : Nat) : Int)) (0 : Int)) (255 : Int))) = x')) :
    ∃ ps, stepPs Tryd.prog DS gamL 100 (bodyN Tryd.f8 0) 100 (hkSn2 x y w n i).st [.is true] .normal (hkSn2 x' y w n ((i : Int) + 1)) = some ps ∧ AllQ ps := ⟨_, hk_round_r x x' y w n i, AllP.all ⟨h1, h2, h3, h4, h2, h3, h4, rfl, h5, rfl, rfl, h6, rfl, rfl⟩⟩

theorem hk_exit_r (x y w : List Int) (n : Int) (i : Nat) : stepPs Tryd.prog DS gamL 100 (bodyN Tryd.f8 0) 100 (hkSn2 x y w n i).st [.is false] (.exit 0) (hkEnd y w) =
    some [((decide (((i : Nat) : Int) < n)) = Bool.false), (y = y), (w = w)] := by kernel_rfl
theorem hk_exit (x y w : List Int) (n : Int) (i : Nat)
    (h1 : ((decide (((i : Nat) : Int) < n)) = Bool.false)) :
    ∃ ps, stepPs Tryd.prog DS gamL 100 (bodyN Tryd.f8 0) 100 (hkSn2 x y w n i).st [.is false] (.exit 0) (hkEnd y w) = some ps ∧ AllQ ps := ⟨_, hk_exit_r x y w n i, AllP.all ⟨h1, rfl, rfl⟩⟩

theorem hk_big_r (salt drawn info : List Int) (n : Int) : runF Tryd.prog DS gamL 200 Tryd.f8 [.one (.words .u8 salt), .one (.words .u8 drawn), .one (.words .u8 info), .one (.int .i64 false n)] [.is true] =
    some ((Go.Abs.AV.v (Go.Abs.A0.one (Go.Abs.Part.bool Bool.true Bool.true))), [(Go.Abs.InI64 ((((List.length salt) : Nat) : Int) + (((List.length drawn) : Nat) : Int))), (Go.Abs.InI64 (((((List.length salt) : Nat) : Int) + (((List.length drawn) : Nat) : Int)) + (((List.length info) : Nat) : Int))), ((decide ((((((List.length salt) : Nat) : Int) + (((List.length drawn) : Nat) : Int)) + (((List.length info) : Nat) : Int)) > (4096 : Int))) = Bool.true)]) := by kernel_rfl
theorem hk_big (salt drawn info : List Int) (n : Int)
    (h1 : (Go.Abs.InI64 ((((List.length salt) : Nat) : Int) + (((List.length drawn) : Nat) : Int))))
    (h2 : (Go.Abs.InI64 (((((List.length salt) : Nat) : Int) + (((List.length drawn) : Nat) : Int)) + (((List.length info) : Nat) : Int))))
    (h3 : ((decide ((((((List.length salt) : Nat) : Int) + (((List.length drawn) : Nat) : Int)) + (((List.length info) : Nat) : Int)) > (4096 : Int))) = Bool.true)) :
    ∃ ps, runF Tryd.prog DS gamL 200 Tryd.f8 [.one (.words .u8 salt), .one (.words .u8 drawn), .one (.words .u8 info), .one (.int .i64 false n)] [.is true] = some ((Go.Abs.AV.v (Go.Abs.A0.one (Go.Abs.Part.bool Bool.true Bool.true))), ps) ∧ AllQ ps := ⟨_, hk_big_r salt drawn info n, AllP.all ⟨h1, h2, h3⟩⟩

theorem hk_a_r (salt drawn info x : List Int) (n m : Int) : runF Tryd.prog DS gamL 200 Tryd.f8 [.one (.words .u8 salt), .one (.words .u8 drawn), .one (.words .u8 info), .one (.int .i64 false n)] [.is false, .is true, .is false, .is true, .loop (loopL DS (hkSn2 x x x m (0 : Nat)) (.exit 0) (hkEnd x x)), .is true] =
    some ((Go.Abs.AV.v (Go.Abs.A0.one (Go.Abs.Part.bool Bool.true Bool.true))), [(Go.Abs.InI64 ((((List.length salt) : Nat) : Int) + (((List.length drawn) : Nat) : Int))), (Go.Abs.InI64 (((((List.length salt) : Nat) : Int) + (((List.length drawn) : Nat) : Int)) + (((List.length info) : Nat) : Int))), ((decide ((((((List.length salt) : Nat) : Int) + (((List.length drawn) : Nat) : Int)) + (((List.length info) : Nat) : Int)) > (4096 : Int))) = Bool.false), ((List.length salt) ≤ (281474976710656 : Nat)), ((List.length drawn) ≤ (281474976710656 : Nat)), (Go.Num.InB salt), (Go.Num.InB drawn), ((List.length salt) ≤ (1000000 : Nat)), ((List.length drawn) ≤ (1000000 : Nat)), ((0 : Int) ≤ (0 : Int)), ((0 : Int) ≤ (((32 : Nat) : Nat) : Int)), ((((32 : Nat) : Nat) : Int) ≤ (((32 : Nat) : Nat) : Int)), ((0 : Int) < (((32 : Nat) : Nat) : Int)), ((List.length salt) ≤ (1000000 : Nat)), ((List.length drawn) ≤ (1000000 : Nat)), ((decide ((List.take ((32 : Nat) - (0 : Nat)) (List.drop (0 : Nat) (Go.Num.hmF salt drawn))) = (Go.Num.hmF salt drawn))) = Bool.true), ((List.length (List.take ((32 : Nat) - (0 : Nat)) (List.drop (0 : Nat) (Go.Num.hmF salt drawn)))) ≤ (9223372036854775807 : Nat)), ((List.length (Go.Num.hmF salt drawn)) ≤ (9223372036854775807 : Nat)), ((decide (n > (400 : Int))) = Bool.false), ((0 : Int) ≤ (0 : Int)), ((0 : Int) ≤ (((32 : Nat) : Nat) : Int)), ((((32 : Nat) : Nat) : Int) ≤ (((32 : Nat) : Nat) : Int)), ((0 : Int) < (((32 : Nat) : Nat) : Int)), ((List.length (List.take ((32 : Nat) - (0 : Nat)) (List.drop (0 : Nat) (Go.Num.hmF salt drawn)))) ≤ (281474976710656 : Nat)), ((List.length info) ≤ (281474976710656 : Nat)), (Go.Num.InB (List.take ((32 : Nat) - (0 : Nat)) (List.drop (0 : Nat) (Go.Num.hmF salt drawn)))), (Go.Num.InB info), ((List.length (List.take ((32 : Nat) - (0 : Nat)) (List.drop (0 : Nat) (Go.Num.hmF salt drawn)))) ≤ (1000000 : Nat)), ((List.length info) ≤ (10000 : Nat)), ((0 : Int) ≤ (0 : Int)), ((0 : Int) ≤ (((32 : Nat) : Nat) : Int)), ((((32 : Nat) : Nat) : Int) ≤ (((32 : Nat) : Nat) : Int)), ((0 : Int) < (((32 : Nat) : Nat) : Int)), ((List.length (List.take ((32 : Nat) - (0 : Nat)) (List.drop (0 : Nat) (Go.Num.hmF salt drawn)))) ≤ (281474976710656 : Nat)), ((List.length info) ≤ (281474976710656 : Nat)), (Go.Num.InB (List.take ((32 : Nat) - (0 : Nat)) (List.drop (0 : Nat) (Go.Num.hmF salt drawn)))), (Go.Num.InB info), ((List.length (List.take ((32 : Nat) - (0 : Nat)) (List.drop (0 : Nat) (Go.Num.hmF salt drawn)))) ≤ (1000000 : Nat)), ((List.length info) ≤ (10000 : Nat)), ((0 : Int) ≤ (0 : Int)), ((0 : Int) ≤ (((32 : Nat) : Nat) : Int)), ((((32 : Nat) : Nat) : Int) ≤ (((32 : Nat) : Nat) : Int)), ((0 : Int) < (((32 : Nat) : Nat) : Int)), (Go.Num.InB (List.take ((32 : Nat) - (0 : Nat)) (List.drop (0 : Nat) (Go.Num.hmF salt drawn)))), (Go.Num.InB info), ((List.length (List.take ((32 : Nat) - (0 : Nat)) (List.drop (0 : Nat) (Go.Num.hmF salt drawn)))) ≤ (1000000 : Nat)), ((List.length info) ≤ (10000 : Nat)), ((decide ((Go.Num.exF (List.take ((32 : Nat) - (0 : Nat)) (List.drop (0 : Nat) (Go.Num.hmF salt drawn))) info n) = (Go.Num.exF (List.take ((32 : Nat) - (0 : Nat)) (List.drop (0 : Nat) (Go.Num.hmF salt drawn))) info n))) = Bool.true), ((List.length (Go.Num.exF (List.take ((32 : Nat) - (0 : Nat)) (List.drop (0 : Nat) (Go.Num.hmF salt drawn))) info n)) ≤ (9223372036854775807 : Nat)), ((List.length (Go.Num.exF (List.take ((32 : Nat) - (0 : Nat)) (List.drop (0 : Nat) (Go.Num.hmF salt drawn))) info n)) ≤ (9223372036854775807 : Nat)), SumOK Tryd.prog DS (bodyN Tryd.f8 0) (loopL DS (hkSn2 x x x m (0 : Nat)) (.exit 0) (hkEnd x x)), ((((List.length (Go.Num.exF (List.take ((32 : Nat) - (0 : Nat)) (List.drop (0 : Nat) (Go.Num.hmF salt drawn))) info n)) : Nat) : Int) = m), ((0 : Int) = (((0 : Nat) : Nat) : Int)), ((Go.Num.exF (List.take ((32 : Nat) - (0 : Nat)) (List.drop (0 : Nat) (Go.Num.hmF salt drawn))) info n) = x), ((Go.Num.exF (List.take ((32 : Nat) - (0 : Nat)) (List.drop (0 : Nat) (Go.Num.hmF salt drawn))) info n) = x), ((Go.Num.exF (List.take ((32 : Nat) - (0 : Nat)) (List.drop (0 : Nat) (Go.Num.hmF salt drawn))) info n) = x), ((decide (x = x)) = Bool.true), ((List.length x) ≤ (9223372036854775807 : Nat)), ((List.length x) ≤ (9223372036854775807 : Nat))]) := by kernel_rfl
theorem hk_a (salt drawn info x : List Int) (n m : Int)
    (h1 : (Go.Abs.InI64 ((((List.length salt) : Nat) : Int) + (((List.length drawn) : Nat) : Int))))
    (h2 : (Go.Abs.InI64 (((((List.length salt) : Nat) : Int) + (((List.length drawn) : Nat) : Int)) + (((List.length info) : Nat) : Int))))
    (h3 : ((decide ((((((List.length salt) : Nat) : Int) + (((List.length drawn) : Nat) : Int)) + (((List.length info) : Nat) : Int)) > (4096 : Int))) = Bool.false))
    (h4 : ((List.length salt) ≤ (281474976710656 : Nat)))
    (h5 : ((List.length drawn) ≤ (281474976710656 : Nat)))
    (h6 : (Go.Num.InB salt))
    (h7 : (Go.Num.InB drawn))
    (h8 : ((List.length salt) ≤ (1000000 : Nat)))
    (h9 : ((List.length drawn) ≤ (1000000 : Nat)))
    (h10 : ((decide ((List.take ((32 : Nat) - (0 : Nat)) (List.drop (0 : Nat) (Go.Num.hmF salt drawn))) = (Go.Num.hmF salt drawn))) = Bool.true))
    (h11 : ((List.length (List.take ((32 : Nat) - (0 : Nat)) (List.drop (0 : Nat) (Go.Num.hmF salt drawn)))) ≤ (9223372036854775807 : Nat)))
    (h12 : ((List.length (Go.Num.hmF salt drawn)) ≤ (9223372036854775807 : Nat)))
    (h13 : ((decide (n > (400 : Int))) = Bool.false))
    (h14 : ((List.length (List.take ((32 : Nat) - (0 : Nat)) (List.drop (0 : Nat) (Go.Num.hmF salt drawn)))) ≤ (281474976710656 : Nat)))
    (h15 : ((List.length info) ≤ (281474976710656 : Nat)))
    (h16 : (Go.Num.InB (List.take ((32 : Nat) - (0 : Nat)) (List.drop (0 : Nat) (Go.Num.hmF salt drawn)))))
    (h17 : (Go.Num.InB info))
    (h18 : ((List.length (List.take ((32 : Nat) - (0 : Nat)) (List.drop (0 : Nat) (Go.Num.hmF salt drawn)))) ≤ (1000000 : Nat)))
    (h19 : ((List.length info) ≤ (10000 : Nat)))
    (h20 : ((decide ((Go.Num.exF (List.take ((32 : Nat) - (0 : Nat)) (List.drop (0 : Nat) (Go.Num.hmF salt drawn))) info n) = (Go.Num.exF (List.take ((32 : Nat) - (0 : Nat)) (List.drop (0 : Nat) (Go.Num.hmF salt drawn))) info n))) = Bool.true))
    (h21 : ((List.length (Go.Num.exF (List.take ((32 : Nat) - (0 : Nat)) (List.drop (0 : Nat) (Go.Num.hmF salt drawn))) info n)) ≤ (9223372036854775807 : Nat)))
    (h22 : SumOK Tryd.prog DS (bodyN Tryd.f8 0) (loopL DS (hkSn2 x x x m (0 : Nat)) (.exit 0) (hkEnd x x)))
    (h23 : ((((List.length (Go.Num.exF (List.take ((32 : Nat) - (0 : Nat)) (List.drop (0 : Nat) (Go.Num.hmF salt drawn))) info n)) : Nat) : Int) = m))
    (h24 : ((Go.Num.exF (List.take ((32 : Nat) - (0 : Nat)) (List.drop (0 : Nat) (Go.Num.hmF salt drawn))) info n) = x))
    (h25 : ((decide (x = x)) = Bool.true))
    (h26 : ((List.length x) ≤ (9223372036854775807 : Nat))) :
    ∃ ps, runF Tryd.prog DS gamL 200 Tryd.f8 [.one (.words .u8 salt), .one (.words .u8 drawn), .one (.words .u8 info), .one (.int .i64 false n)] [.is false, .is true, .is false, .is true, .loop (loopL DS (hkSn2 x x x m (0 : Nat)) (.exit 0) (hkEnd x x)), .is true] = some ((Go.Abs.AV.v (Go.Abs.A0.one (Go.Abs.Part.bool Bool.true Bool.true))), ps) ∧ AllQ ps := ⟨_, hk_a_r salt drawn info x n m, AllP.all ⟨h1, h2, h3, h4, h5, h6, h7, h8, h9, (show ((0 : Int) ≤ (0 : Int)) from by decide), (show ((0 : Int) ≤ (((32 : Nat) : Nat) : Int)) from by decide), (show ((((32 : Nat) : Nat) : Int) ≤ (((32 : Nat) : Nat) : Int)) from by decide), (show ((0 : Int) < (((32 : Nat) : Nat) : Int)) from by decide), h8, h9, h10, h11, h12, h13, (show ((0 : Int) ≤ (0 : Int)) from by decide), (show ((0 : Int) ≤ (((32 : Nat) : Nat) : Int)) from by decide), (show ((((32 : Nat) : Nat) : Int) ≤ (((32 : Nat) : Nat) : Int)) from by decide), (show ((0 : Int) < (((32 : Nat) : Nat) : Int)) from by decide), h14, h15, h16, h17, h18, h19, (show ((0 : Int) ≤ (0 : Int)) from by decide), (show ((0 : Int) ≤ (((32 : Nat) : Nat) : Int)) from by decide), (show ((((32 : Nat) : Nat) : Int) ≤ (((32 : Nat) : Nat) : Int)) from by decide), (show ((0 : Int) < (((32 : Nat) : Nat) : Int)) from by decide), h14, h15, h16, h17, h18, h19, (show ((0 : Int) ≤ (0 : Int)) from by decide), (show ((0 : Int) ≤ (((32 : Nat) : Nat) : Int)) from by decide), (show ((((32 : Nat) : Nat) : Int) ≤ (((32 : Nat) : Nat) : Int)) from by decide), (show ((0 : Int) < (((32 : Nat) : Nat) : Int)) from by decide), h16, h17, h18, h19, h20, h21, h21, h22, h23, (show ((0 : Int) = (((0 : Nat) : Nat) : Int)) from by decide), h24, h24, h24, h25, h26, h26⟩⟩

theorem hk_b_r (salt drawn info x : List Int) (n m : Int) : runF Tryd.prog DS gamL 200 Tryd.f8 [.one (.words .u8 salt), .one (.words .u8 drawn), .one (.words .u8 info), .one (.int .i64 false n)] [.is false, .is true, .is true, .is false, .is true, .loop (loopL DS (hkSn2 x x x m (0 : Nat)) (.exit 0) (hkEnd x x)), .is true] =
    some ((Go.Abs.AV.v (Go.Abs.A0.one (Go.Abs.Part.bool Bool.true Bool.true))), [(Go.Abs.InI64 ((((List.length salt) : Nat) : Int) + (((List.length drawn) : Nat) : Int))), (Go.Abs.InI64 (((((List.length salt) : Nat) : Int) + (((List.length drawn) : Nat) : Int)) + (((List.length info) : Nat) : Int))), ((decide ((((((List.length salt) : Nat) : Int) + (((List.length drawn) : Nat) : Int)) + (((List.length info) : Nat) : Int)) > (4096 : Int))) = Bool.false), ((List.length salt) ≤ (281474976710656 : Nat)), ((List.length drawn) ≤ (281474976710656 : Nat)), (Go.Num.InB salt), (Go.Num.InB drawn), ((List.length salt) ≤ (1000000 : Nat)), ((List.length drawn) ≤ (1000000 : Nat)), ((0 : Int) ≤ (0 : Int)), ((0 : Int) ≤ (((32 : Nat) : Nat) : Int)), ((((32 : Nat) : Nat) : Int) ≤ (((32 : Nat) : Nat) : Int)), ((0 : Int) < (((32 : Nat) : Nat) : Int)), ((List.length salt) ≤ (1000000 : Nat)), ((List.length drawn) ≤ (1000000 : Nat)), ((decide ((List.take ((32 : Nat) - (0 : Nat)) (List.drop (0 : Nat) (Go.Num.hmF salt drawn))) = (Go.Num.hmF salt drawn))) = Bool.true), ((List.length (List.take ((32 : Nat) - (0 : Nat)) (List.drop (0 : Nat) (Go.Num.hmF salt drawn)))) ≤ (9223372036854775807 : Nat)), ((List.length (Go.Num.hmF salt drawn)) ≤ (9223372036854775807 : Nat)), ((decide (n > (400 : Int))) = Bool.true), ((decide (n ≤ (8160 : Int))) = Bool.false), ((0 : Int) ≤ (0 : Int)), ((0 : Int) ≤ (((32 : Nat) : Nat) : Int)), ((((32 : Nat) : Nat) : Int) ≤ (((32 : Nat) : Nat) : Int)), ((0 : Int) < (((32 : Nat) : Nat) : Int)), ((List.length (List.take ((32 : Nat) - (0 : Nat)) (List.drop (0 : Nat) (Go.Num.hmF salt drawn)))) ≤ (281474976710656 : Nat)), ((List.length info) ≤ (281474976710656 : Nat)), (Go.Num.InB (List.take ((32 : Nat) - (0 : Nat)) (List.drop (0 : Nat) (Go.Num.hmF salt drawn)))), (Go.Num.InB info), ((List.length (List.take ((32 : Nat) - (0 : Nat)) (List.drop (0 : Nat) (Go.Num.hmF salt drawn)))) ≤ (1000000 : Nat)), ((List.length info) ≤ (10000 : Nat)), ((0 : Int) ≤ (0 : Int)), ((0 : Int) ≤ (((32 : Nat) : Nat) : Int)), ((((32 : Nat) : Nat) : Int) ≤ (((32 : Nat) : Nat) : Int)), ((0 : Int) < (((32 : Nat) : Nat) : Int)), ((List.length (List.take ((32 : Nat) - (0 : Nat)) (List.drop (0 : Nat) (Go.Num.hmF salt drawn)))) ≤ (281474976710656 : Nat)), ((List.length info) ≤ (281474976710656 : Nat)), (Go.Num.InB (List.take ((32 : Nat) - (0 : Nat)) (List.drop (0 : Nat) (Go.Num.hmF salt drawn)))), (Go.Num.InB info), ((List.length (List.take ((32 : Nat) - (0 : Nat)) (List.drop (0 : Nat) (Go.Num.hmF salt drawn)))) ≤ (1000000 : Nat)), ((List.length info) ≤ (10000 : Nat)), ((0 : Int) ≤ (0 : Int)), ((0 : Int) ≤ (((32 : Nat) : Nat) : Int)), ((((32 : Nat) : Nat) : Int) ≤ (((32 : Nat) : Nat) : Int)), ((0 : Int) < (((32 : Nat) : Nat) : Int)), (Go.Num.InB (List.take ((32 : Nat) - (0 : Nat)) (List.drop (0 : Nat) (Go.Num.hmF salt drawn)))), (Go.Num.InB info), ((List.length (List.take ((32 : Nat) - (0 : Nat)) (List.drop (0 : Nat) (Go.Num.hmF salt drawn)))) ≤ (1000000 : Nat)), ((List.length info) ≤ (10000 : Nat)), ((decide ((Go.Num.exF (List.take ((32 : Nat) - (0 : Nat)) (List.drop (0 : Nat) (Go.Num.hmF salt drawn))) info n) = (Go.Num.exF (List.take ((32 : Nat) - (0 : Nat)) (List.drop (0 : Nat) (Go.Num.hmF salt drawn))) info n))) = Bool.true), ((List.length (Go.Num.exF (List.take ((32 : Nat) - (0 : Nat)) (List.drop (0 : Nat) (Go.Num.hmF salt drawn))) info n)) ≤ (9223372036854775807 : Nat)), ((List.length (Go.Num.exF (List.take ((32 : Nat) - (0 : Nat)) (List.drop (0 : Nat) (Go.Num.hmF salt drawn))) info n)) ≤ (9223372036854775807 : Nat)), SumOK Tryd.prog DS (bodyN Tryd.f8 0) (loopL DS (hkSn2 x x x m (0 : Nat)) (.exit 0) (hkEnd x x)), ((((List.length (Go.Num.exF (List.take ((32 : Nat) - (0 : Nat)) (List.drop (0 : Nat) (Go.Num.hmF salt drawn))) info n)) : Nat) : Int) = m), ((0 : Int) = (((0 : Nat) : Nat) : Int)), ((Go.Num.exF (List.take ((32 : Nat) - (0 : Nat)) (List.drop (0 : Nat) (Go.Num.hmF salt drawn))) info n) = x), ((Go.Num.exF (List.take ((32 : Nat) - (0 : Nat)) (List.drop (0 : Nat) (Go.Num.hmF salt drawn))) info n) = x), ((Go.Num.exF (List.take ((32 : Nat) - (0 : Nat)) (List.drop (0 : Nat) (Go.Num.hmF salt drawn))) info n) = x), ((decide (x = x)) = Bool.true), ((List.length x) ≤ (9223372036854775807 : Nat)), ((List.length x) ≤ (9223372036854775807 : Nat))]) := by kernel_rfl
theorem hk_b (salt drawn info x : List Int) (n m : Int)
    (h1 : (Go.Abs.InI64 ((((List.length salt) : Nat) : Int) + (((List.length drawn) : Nat) : Int))))
    (h2 : (Go.Abs.InI64 (((((List.length salt) : Nat) : Int) + (((List.length drawn) : Nat) : Int)) + (((List.length info) : Nat) : Int))))
    (h3 : ((decide ((((((List.length salt) : Nat) : Int) + (((List.length drawn) : Nat) : Int)) + (((List.length info) : Nat) : Int)) > (4096 : Int))) = Bool.false))
    (h4 : ((List.length salt) ≤ (281474976710656 : Nat)))
    (h5 : ((List.length drawn) ≤ (281474976710656 : Nat)))
    (h6 : (Go.Num.InB salt))
    (h7 : (Go.Num.InB drawn))
    (h8 : ((List.length salt) ≤ (1000000 : Nat)))
    (h9 : ((List.length drawn) ≤ (1000000 : Nat)))
    (h10 : ((decide ((List.take ((32 : Nat) - (0 : Nat)) (List.drop (0 : Nat) (Go.Num.hmF salt drawn))) = (Go.Num.hmF salt drawn))) = Bool.true))
    (h11 : ((List.length (List.take ((32 : Nat) - (0 : Nat)) (List.drop (0 : Nat) (Go.Num.hmF salt drawn)))) ≤ (9223372036854775807 : Nat)))
    (h12 : ((List.length (Go.Num.hmF salt drawn)) ≤ (9223372036854775807 : Nat)))
    (h13 : ((decide (n > (400 : Int))) = Bool.true))
    (h14 : ((decide (n ≤ (8160 : Int))) = Bool.false))
    (h15 : ((List.length (List.take ((32 : Nat) - (0 : Nat)) (List.drop (0 : Nat) (Go.Num.hmF salt drawn)))) ≤ (281474976710656 : Nat)))
    (h16 : ((List.length info) ≤ (281474976710656 : Nat)))
    (h17 : (Go.Num.InB (List.take ((32 : Nat) - (0 : Nat)) (List.drop (0 : Nat) (Go.Num.hmF salt drawn)))))
    (h18 : (Go.Num.InB info))
    (h19 : ((List.length (List.take ((32 : Nat) - (0 : Nat)) (List.drop (0 : Nat) (Go.Num.hmF salt drawn)))) ≤ (1000000 : Nat)))
    (h20 : ((List.length info) ≤ (10000 : Nat)))
    (h21 : ((decide ((Go.Num.exF (List.take ((32 : Nat) - (0 : Nat)) (List.drop (0 : Nat) (Go.Num.hmF salt drawn))) info n) = (Go.Num.exF (List.take ((32 : Nat) - (0 : Nat)) (List.drop (0 : Nat) (Go.Num.hmF salt drawn))) info n))) = Bool.true))
    (h22 : ((List.length (Go.Num.exF (List.take ((32 : Nat) - (0 : Nat)) (List.drop (0 : Nat) (Go.Num.hmF salt drawn))) info n)) ≤ (9223372036854775807 : Nat)))
    (h23 : SumOK Tryd.prog DS (bodyN Tryd.f8 0) (loopL DS (hkSn2 x x x m (0 : Nat)) (.exit 0) (hkEnd x x)))
    (h24 : ((((List.length (Go.Num.exF (List.take ((32 : Nat) - (0 : Nat)) (List.drop (0 : Nat) (Go.Num.hmF salt drawn))) info n)) : Nat) : Int) = m))
    (h25 : ((Go.Num.exF (List.take ((32 : Nat) - (0 : Nat)) (List.drop (0 : Nat) (Go.Num.hmF salt drawn))) info n) = x))
    (h26 : ((decide (x = x)) = Bool.true))
    (h27 : ((List.length x) ≤ (9223372036854775807 : Nat))) :
    ∃ ps, runF Tryd.prog DS gamL 200 Tryd.f8 [.one (.words .u8 salt), .one (.words .u8 drawn), .one (.words .u8 info), .one (.int .i64 false n)] [.is false, .is true, .is true, .is false, .is true, .loop (loopL DS (hkSn2 x x x m (0 : Nat)) (.exit 0) (hkEnd x x)), .is true] = some ((Go.Abs.AV.v (Go.Abs.A0.one (Go.Abs.Part.bool Bool.true Bool.true))), ps) ∧ AllQ ps := ⟨_, hk_b_r salt drawn info x n m, AllP.all ⟨h1, h2, h3, h4, h5, h6, h7, h8, h9, (show ((0 : Int) ≤ (0 : Int)) from by decide), (show ((0 : Int) ≤ (((32 : Nat) : Nat) : Int)) from by decide), (show ((((32 : Nat) : Nat) : Int) ≤ (((32 : Nat) : Nat) : Int)) from by decide), (show ((0 : Int) < (((32 : Nat) : Nat) : Int)) from by decide), h8, h9, h10, h11, h12, h13, h14, (show ((0 : Int) ≤ (0 : Int)) from by decide), (show ((0 : Int) ≤ (((32 : Nat) : Nat) : Int)) from by decide), (show ((((32 : Nat) : Nat) : Int) ≤ (((32 : Nat) : Nat) : Int)) from by decide), (show ((0 : Int) < (((32 : Nat) : Nat) : Int)) from by decide), h15, h16, h17, h18, h19, h20, (show ((0 : Int) ≤ (0 : Int)) from by decide), (show ((0 : Int) ≤ (((32 : Nat) : Nat) : Int)) from by decide), (show ((((32 : Nat) : Nat) : Int) ≤ (((32 : Nat) : Nat) : Int)) from by decide), (show ((0 : Int) < (((32 : Nat) : Nat) : Int)) from by decide), h15, h16, h17, h18, h19, h20, (show ((0 : Int) ≤ (0 : Int)) from by decide), (show ((0 : Int) ≤ (((32 : Nat) : Nat) : Int)) from by decide), (show ((((32 : Nat) : Nat) : Int) ≤ (((32 : Nat) : Nat) : Int)) from by decide), (show ((0 : Int) < (((32 : Nat) : Nat) : Int)) from by decide), h17, h18, h19, h20, h21, h22, h22, h23, h24, (show ((0 : Int) = (((0 : Nat) : Nat) : Int)) from by decide), h25, h25, h25, h26, h27, h27⟩⟩

theorem hk_c_r (salt drawn info x : List Int) (n m : Int) : runF Tryd.prog DS gamL 200 Tryd.f8 [.one (.words .u8 salt), .one (.words .u8 drawn), .one (.words .u8 info), .one (.int .i64 false n)] [.is false, .is true, .is true, .is true, .is true, .loop (loopL DS (hkSn2 x x x m (0 : Nat)) (.exit 0) (hkEnd x x)), .is true] =
    some ((Go.Abs.AV.v (Go.Abs.A0.one (Go.Abs.Part.bool Bool.true Bool.true))), [(Go.Abs.InI64 ((((List.length salt) : Nat) : Int) + (((List.length drawn) : Nat) : Int))), (Go.Abs.InI64 (((((List.length salt) : Nat) : Int) + (((List.length drawn) : Nat) : Int)) + (((List.length info) : Nat) : Int))), ((decide ((((((List.length salt) : Nat) : Int) + (((List.length drawn) : Nat) : Int)) + (((List.length info) : Nat) : Int)) > (4096 : Int))) = Bool.false), ((List.length salt) ≤ (281474976710656 : Nat)), ((List.length drawn) ≤ (281474976710656 : Nat)), (Go.Num.InB salt), (Go.Num.InB drawn), ((List.length salt) ≤ (1000000 : Nat)), ((List.length drawn) ≤ (1000000 : Nat)), ((0 : Int) ≤ (0 : Int)), ((0 : Int) ≤ (((32 : Nat) : Nat) : Int)), ((((32 : Nat) : Nat) : Int) ≤ (((32 : Nat) : Nat) : Int)), ((0 : Int) < (((32 : Nat) : Nat) : Int)), ((List.length salt) ≤ (1000000 : Nat)), ((List.length drawn) ≤ (1000000 : Nat)), ((decide ((List.take ((32 : Nat) - (0 : Nat)) (List.drop (0 : Nat) (Go.Num.hmF salt drawn))) = (Go.Num.hmF salt drawn))) = Bool.true), ((List.length (List.take ((32 : Nat) - (0 : Nat)) (List.drop (0 : Nat) (Go.Num.hmF salt drawn)))) ≤ (9223372036854775807 : Nat)), ((List.length (Go.Num.hmF salt drawn)) ≤ (9223372036854775807 : Nat)), ((decide (n > (400 : Int))) = Bool.true), ((decide (n ≤ (8160 : Int))) = Bool.true), ((0 : Int) ≤ (0 : Int)), ((0 : Int) ≤ (((32 : Nat) : Nat) : Int)), ((((32 : Nat) : Nat) : Int) ≤ (((32 : Nat) : Nat) : Int)), ((0 : Int) < (((32 : Nat) : Nat) : Int)), ((List.length (List.take ((32 : Nat) - (0 : Nat)) (List.drop (0 : Nat) (Go.Num.hmF salt drawn)))) ≤ (281474976710656 : Nat)), ((List.length info) ≤ (281474976710656 : Nat)), (Go.Num.InB (List.take ((32 : Nat) - (0 : Nat)) (List.drop (0 : Nat) (Go.Num.hmF salt drawn)))), (Go.Num.InB info), ((List.length (List.take ((32 : Nat) - (0 : Nat)) (List.drop (0 : Nat) (Go.Num.hmF salt drawn)))) ≤ (1000000 : Nat)), ((List.length info) ≤ (10000 : Nat)), ((0 : Int) ≤ (0 : Int)), ((0 : Int) ≤ (((32 : Nat) : Nat) : Int)), ((((32 : Nat) : Nat) : Int) ≤ (((32 : Nat) : Nat) : Int)), ((0 : Int) < (((32 : Nat) : Nat) : Int)), ((List.length (List.take ((32 : Nat) - (0 : Nat)) (List.drop (0 : Nat) (Go.Num.hmF salt drawn)))) ≤ (281474976710656 : Nat)), ((List.length info) ≤ (281474976710656 : Nat)), (Go.Num.InB (List.take ((32 : Nat) - (0 : Nat)) (List.drop (0 : Nat) (Go.Num.hmF salt drawn)))), (Go.Num.InB info), ((List.length (List.take ((32 : Nat) - (0 : Nat)) (List.drop (0 : Nat) (Go.Num.hmF salt drawn)))) ≤ (1000000 : Nat)), ((List.length info) ≤ (10000 : Nat)), ((0 : Int) ≤ (0 : Int)), ((0 : Int) ≤ (((32 : Nat) : Nat) : Int)), ((((32 : Nat) : Nat) : Int) ≤ (((32 : Nat) : Nat) : Int)), ((0 : Int) < (((32 : Nat) : Nat) : Int)), (Go.Num.InB (List.take ((32 : Nat) - (0 : Nat)) (List.drop (0 : Nat) (Go.Num.hmF salt drawn)))), (Go.Num.InB info), ((List.length (List.take ((32 : Nat) - (0 : Nat)) (List.drop (0 : Nat) (Go.Num.hmF salt drawn)))) ≤ (1000000 : Nat)), ((List.length info) ≤ (10000 : Nat)), ((decide ((Go.Num.exF (List.take ((32 : Nat) - (0 : Nat)) (List.drop (0 : Nat) (Go.Num.hmF salt drawn))) info (Go.Abs.bitsOf Go.BinOp.and Go.IntKind.i64 n (255 : Int))) = (Go.Num.exF (List.take ((32 : Nat) - (0 : Nat)) (List.drop (0 : Nat) (Go.Num.hmF salt drawn))) info (Go.Abs.bitsOf Go.BinOp.and Go.IntKind.i64 n (255 : Int))))) = Bool.true), ((List.length (Go.Num.exF (List.take ((32 : Nat) - (0 : Nat)) (List.drop (0 : Nat) (Go.Num.hmF salt drawn))) info (Go.Abs.bitsOf Go.BinOp.and Go.IntKind.i64 n (255 : Int)))) ≤ (9223372036854775807 : Nat)), ((List.length (Go.Num.exF (List.take ((32 : Nat) - (0 : Nat)) (List.drop (0 : Nat) (Go.Num.hmF salt drawn))) info (Go.Abs.bitsOf Go.BinOp.and Go.IntKind.i64 n (255 : Int)))) ≤ (9223372036854775807 : Nat)), SumOK Tryd.prog DS (bodyN Tryd.f8 0) (loopL DS (hkSn2 x x x m (0 : Nat)) (.exit 0) (hkEnd x x)), ((((List.length (Go.Num.exF (List.take ((32 : Nat) - (0 : Nat)) (List.drop (0 : Nat) (Go.Num.hmF salt drawn))) info (Go.Abs.bitsOf Go.BinOp.and Go.IntKind.i64 n (255 : Int)))) : Nat) : Int) = m), ((0 : Int) = (((0 : Nat) : Nat) : Int)), ((Go.Num.exF (List.take ((32 : Nat) - (0 : Nat)) (List.drop (0 : Nat) (Go.Num.hmF salt drawn))) info (Go.Abs.bitsOf Go.BinOp.and Go.IntKind.i64 n (255 : Int))) = x), ((Go.Num.exF (List.take ((32 : Nat) - (0 : Nat)) (List.drop (0 : Nat) (Go.Num.hmF salt drawn))) info (Go.Abs.bitsOf Go.BinOp.and Go.IntKind.i64 n (255 : Int))) = x), ((Go.Num.exF (List.take ((32 : Nat) - (0 : Nat)) (List.drop (0 : Nat) (Go.Num.hmF salt drawn))) info (Go.Abs.bitsOf Go.BinOp.and Go.IntKind.i64 n (255 : Int))) = x), ((decide (x = x)) = Bool.true), ((List.length x) ≤ (9223372036854775807 : Nat)), ((List.length x) ≤ (9223372036854775807 : Nat))]) := by kernel_rfl
theorem hk_c (salt drawn info x : List Int) (n m : Int)
    (h1 : (Go.Abs.InI64 ((((List.length salt) : Nat) : Int) + (((List.length drawn) : Nat) : Int))))
    (h2 : (Go.Abs.InI64 (((((List.length salt) : Nat) : Int) + (((List.length drawn) : Nat) : Int)) + (((List.length info) : Nat) : Int))))
    (h3 : ((decide ((((((List.length salt) : Nat) : Int) + (((List.length drawn) : Nat) : Int)) + (((List.length info) : Nat) : Int)) > (4096 : Int))) = Bool.false))
    (h4 : ((List.length salt) ≤ (281474976710656 : Nat)))
    (h5 : ((List.length drawn) ≤ (281474976710656 : Nat)))
    (h6 : (Go.Num.InB salt))
    (h7 : (Go.Num.InB drawn))
    (h8 : ((List.length salt) ≤ (1000000 : Nat)))
    (h9 : ((List.length drawn) ≤ (1000000 : Nat)))
    (h10 : ((decide ((List.take ((32 : Nat) - (0 : Nat)) (List.drop (0 : Nat) (Go.Num.hmF salt drawn))) = (Go.Num.hmF salt drawn))) = Bool.true))
    (h11 : ((List.length (List.take ((32 : Nat) - (0 : Nat)) (List.drop (0 : Nat) (Go.Num.hmF salt drawn)))) ≤ (9223372036854775807 : Nat)))
    (h12 : ((List.length (Go.Num.hmF salt drawn)) ≤ (9223372036854775807 : Nat)))
    (h13 : ((decide (n > (400 : Int))) = Bool.true))
    (h14 : ((decide (n ≤ (8160 : Int))) = Bool.true))
    (h15 : ((List.length (List.take ((32 : Nat) - (0 : Nat)) (List.drop (0 : Nat) (Go.Num.hmF salt drawn)))) ≤ (281474976710656 : Nat)))
    (h16 : ((List.length info) ≤ (281474976710656 : Nat)))
    (h17 : (Go.Num.InB (List.take ((32 : Nat) - (0 : Nat)) (List.drop (0 : Nat) (Go.Num.hmF salt drawn)))))
    (h18 : (Go.Num.InB info))
    (h19 : ((List.length (List.take ((32 : Nat) - (0 : Nat)) (List.drop (0 : Nat) (Go.Num.hmF salt drawn)))) ≤ (1000000 : Nat)))
    (h20 : ((List.length info) ≤ (10000 : Nat)))
    (h21 : ((decide ((Go.Num.exF (List.take ((32 : Nat) - (0 : Nat)) (List.drop (0 : Nat) (Go.Num.hmF salt drawn))) info (Go.Abs.bitsOf Go.BinOp.and Go.IntKind.i64 n (255 : Int))) = (Go.Num.exF (List.take ((32 : Nat) - (0 : Nat)) (List.drop (0 : Nat) (Go.Num.hmF salt drawn))) info (Go.Abs.bitsOf Go.BinOp.and Go.IntKind.i64 n (255 : Int))))) = Bool.true))
    (h22 : ((List.length (Go.Num.exF (List.take ((32 : Nat) - (0 : Nat)) (List.drop (0 : Nat) (Go.Num.hmF salt drawn))) info (Go.Abs.bitsOf Go.BinOp.and Go.IntKind.i64 n (255 : Int)))) ≤ (9223372036854775807 : Nat)))
    (h23 : SumOK Tryd.prog DS (bodyN Tryd.f8 0) (loopL DS (hkSn2 x x x m (0 : Nat)) (.exit 0) (hkEnd x x)))
    (h24 : ((((List.length (Go.Num.exF (List.take ((32 : Nat) - (0 : Nat)) (List.drop (0 : Nat) (Go.Num.hmF salt drawn))) info (Go.Abs.bitsOf Go.BinOp.and Go.IntKind.i64 n (255 : Int)))) : Nat) : Int) = m))
    (h25 : ((Go.Num.exF (List.take ((32 : Nat) - (0 : Nat)) (List.drop (0 : Nat) (Go.Num.hmF salt drawn))) info (Go.Abs.bitsOf Go.BinOp.and Go.IntKind.i64 n (255 : Int))) = x))
    (h26 : ((decide (x = x)) = Bool.true))
    (h27 : ((List.length x) ≤ (9223372036854775807 : Nat))) :
    ∃ ps, runF Tryd.prog DS gamL 200 Tryd.f8 [.one (.words .u8 salt), .one (.words .u8 drawn), .one (.words .u8 info), .one (.int .i64 false n)] [.is false, .is true, .is true, .is true, .is true, .loop (loopL DS (hkSn2 x x x m (0 : Nat)) (.exit 0) (hkEnd x x)), .is true] = some ((Go.Abs.AV.v (Go.Abs.A0.one (Go.Abs.Part.bool Bool.true Bool.true))), ps) ∧ AllQ ps := ⟨_, hk_c_r salt drawn info x n m, AllP.all ⟨h1, h2, h3, h4, h5, h6, h7, h8, h9, (show ((0 : Int) ≤ (0 : Int)) from by decide), (show ((0 : Int) ≤ (((32 : Nat) : Nat) : Int)) from by decide), (show ((((32 : Nat) : Nat) : Int) ≤ (((32 : Nat) : Nat) : Int)) from by decide), (show ((0 : Int) < (((32 : Nat) : Nat) : Int)) from by decide), h8, h9, h10, h11, h12, h13, h14, (show ((0 : Int) ≤ (0 : Int)) from by decide), (show ((0 : Int) ≤ (((32 : Nat) : Nat) : Int)) from by decide), (show ((((32 : Nat) : Nat) : Int) ≤ (((32 : Nat) : Nat) : Int)) from by decide), (show ((0 : Int) < (((32 : Nat) : Nat) : Int)) from by decide), h15, h16, h17, h18, h19, h20, (show ((0 : Int) ≤ (0 : Int)) from by decide), (show ((0 : Int) ≤ (((32 : Nat) : Nat) : Int)) from by decide), (show ((((32 : Nat) : Nat) : Int) ≤ (((32 : Nat) : Nat) : Int)) from by decide), (show ((0 : Int) < (((32 : Nat) : Nat) : Int)) from by decide), h15, h16, h17, h18, h19, h20, (show ((0 : Int) ≤ (0 : Int)) from by decide), (show ((0 : Int) ≤ (((32 : Nat) : Nat) : Int)) from by decide), (show ((((32 : Nat) : Nat) : Int) ≤ (((32 : Nat) : Nat) : Int)) from by decide), (show ((0 : Int) < (((32 : Nat) : Nat) : Int)) from by decide), h17, h18, h19, h20, h21, h22, h22, h23, h24, (show ((0 : Int) = (((0 : Nat) : Nat) : Int)) from by decide), h25, h25, h25, h26, h27, h27⟩⟩

end Go.Num
