/- HKDF: Extract, Expand: the runs. -/
import Derived.Test.YtjglidfemgodiaaDoorK2
namespace Go.Num
open Go.Abs Go.Proofs Go.Shelf

noncomputable def gamX : Gam DS := [(freezeId, .fn (freezeD DS [31, 34])), (22, .fn macD)]
theorem gamX_ok : GamOK Tryd.prog DS gamX := gam_freeze (gam_cons mac_ok gam_nil)

theorem ext_run_r (a b : List Int) : runF Tryd.prog DS gamX 100 Tryd.f25 [.one (.words .u8 a), .one (.words .u8 b)] [] =
    some ((Go.Abs.AV.v (Go.Abs.A0.agg ((Go.Abs.Part.arr Go.IntKind.u8 (32 : Nat) (Go.Num.hmF a (List.append b ([] : List (Int))))) :: ([] : List (Part DS.τ))))), [(Go.Num.InB a), (Go.Num.InB (List.append b ([] : List (Int)))), ((List.length a) ≤ (1000000 : Nat)), ((List.length (List.append b ([] : List (Int)))) ≤ (1000000 : Nat)), ((1 : Nat) ≤ (2000000 : Nat))]) := by kernel_rfl
theorem ext_run (a b : List Int)
    (h1 : (Go.Num.InB a))
    (h2 : (Go.Num.InB (List.append b ([] : List (Int)))))
    (h3 : ((List.length a) ≤ (1000000 : Nat)))
    (h4 : ((List.length (List.append b ([] : List (Int)))) ≤ (1000000 : Nat)))
    (h5 : ((1 : Nat) ≤ (2000000 : Nat))) :
    ∃ ps, runF Tryd.prog DS gamX 100 Tryd.f25 [.one (.words .u8 a), .one (.words .u8 b)] [] = some ((Go.Abs.AV.v (Go.Abs.A0.agg ((Go.Abs.Part.arr Go.IntKind.u8 (32 : Nat) (Go.Num.hmF a (List.append b ([] : List (Int))))) :: ([] : List (Part DS.τ))))), ps) ∧ AllQ ps := ⟨_, ext_run_r a b, AllP.all ⟨h1, h2, h3, h4, h5⟩⟩

def exSn (key info : List Int) (n : Int) (t o : List Int) (i : Int) : Sn DS.τ where
  slots := [(0, .v (.one (.words .u8 key))), (1, .v (.one (.words .u8 info))), slI 2 n, (7, .v (.one (.words .u8 t))), (8, .v (.one (.own 0))), slI 9 i]
  boxes := [(0, .dyn 5 (.ints .u8 o))]
  nt := 42
def exEnd (n : Int) (o : List Int) : Sn DS.τ where
  slots := [slI 2 n, (8, .v (.one (.own 0)))]
  boxes := [(0, .dyn 5 (.ints .u8 o))]
  nt := 42

theorem ex_round_r (key info : List Int) (n : Int) (t o t' o' : List Int) (i : Nat) : stepPs Tryd.prog DS gamX 100 (bodyN Tryd.f24 0) 100 (exSn key info n t o i).st [.is true] .normal (exSn key info n t' o' ((i : Int) + 1)) =
    some [((decide ((((List.length o) : Nat) : Int) < n)) = Bool.true), (Go.Num.InB key), (Go.Num.InB (List.append t (List.append info (List.append ((Go.IntKind.wrap Go.IntKind.u8 ((i : Nat) : Int)) :: ([] : List (Int))) ([] : List (Int)))))), ((List.length key) ≤ (1000000 : Nat)), ((List.length (List.append t (List.append info (List.append ((Go.IntKind.wrap Go.IntKind.u8 ((i : Nat) : Int)) :: ([] : List (Int))) ([] : List (Int)))))) ≤ (1000000 : Nat)), ((3 : Nat) ≤ (2000000 : Nat)), (((List.length o) + (List.length (Go.Num.hmF key (List.append t (List.append info (List.append ((Go.IntKind.wrap Go.IntKind.u8 ((i : Nat) : Int)) :: ([] : List (Int))) ([] : List (Int)))))))) ≤ (9223372036854775807 : Nat)), ((((List.length o) + (List.length (Go.Num.hmF key (List.append t (List.append info (List.append ((Go.IntKind.wrap Go.IntKind.u8 ((i : Nat) : Int)) :: ([] : List (Int))) ([] : List (Int)))))))) * (1 : Nat)) ≤ (140737488355328 : Nat)), (Go.Abs.InI64 (((i : Nat) : Int) + (1 : Int))), (key = key), (info = info), (n = n), ((Go.Num.hmF key (List.append t (List.append info (List.append ((Go.IntKind.wrap Go.IntKind.u8 ((i : Nat) : Int)) :: ([] : List (Int))) ([] : List (Int)))))) = t'), ((((i : Nat) : Int) + (1 : Int)) = (((i : Nat) : Int) + (1 : Int))), ((o ++ (Go.Num.hmF key (List.append t (List.append info (List.append ((Go.IntKind.wrap Go.IntKind.u8 ((i : Nat) : Int)) :: ([] : List (Int))) ([] : List (Int))))))) = o')] := by kernel_rfl
theorem ex_round (key info : List Int) (n : Int) (t o t' o' : List Int) (i : Nat)
    (h1 : ((decide ((((List.length o) : Nat) : Int) < n)) = Bool.true))
    (h2 : (Go.Num.InB key))
    (h3 : (Go.Num.InB (List.append t (List.append info (List.append ((Go.IntKind.wrap Go.IntKind.u8 ((i : Nat) : Int)) :: ([] : List (Int))) ([] : List (Int)))))))
    (h4 : ((List.length key) ≤ (1000000 : Nat)))
    (h5 : ((List.length (List.append t (List.append info (List.append ((Go.IntKind.wrap Go.IntKind.u8 ((i : Nat) : Int)) :: ([] : List (Int))) ([] : List (Int)))))) ≤ (1000000 : Nat)))
    (h6 : ((3 : Nat) ≤ (2000000 : Nat)))
    (h7 : (((List.length o) + (List.length (Go.Num.hmF key (List.append t (List.append info (List.append ((Go.IntKind.wrap Go.IntKind.u8 ((i : Nat) : Int)) :: ([] : List (Int))) ([] : List (Int)))))))) ≤ (9223372036854775807 : Nat)))
    (h8 : ((((List.length o) + (List.length (Go.Num.hmF key (List.append t (List.append info (List.append ((Go.IntKind.wrap Go.IntKind.u8 ((i : Nat) : Int)) :: ([] : List (Int))) ([] : List (Int)))))))) * (1 : Nat)) ≤ (140737488355328 : Nat)))
    (h9 : (Go.Abs.InI64 (((i : Nat) : Int) + (1 : Int))))
    (h10 : ((Go.Num.hmF key (List.append t (List.append info (List.append ((Go.IntKind.wrap Go.IntKind.u8 ((i : Nat) : Int)) :: ([] : List (Int))) ([] : List (Int)))))) = t'))
    (h11 : ((o ++ (Go.Num.hmF key (List.append t (List.append info (List.append ((Go.IntKind.wrap Go.IntKind.u8 ((i : Nat) : Int)) :: ([] : List (Int))) ([] : List (Int))))))) = o')) :
    ∃ ps, stepPs Tryd.prog DS gamX 100 (bodyN Tryd.f24 0) 100 (exSn key info n t o i).st [.is true] .normal (exSn key info n t' o' ((i : Int) + 1)) = some ps ∧ AllQ ps := ⟨_, ex_round_r key info n t o t' o' i, AllP.all ⟨h1, h2, h3, h4, h5, h6, h7, h8, h9, rfl, rfl, rfl, h10, rfl, h11⟩⟩

theorem ex_exit_r (key info : List Int) (n : Int) (t o : List Int) (i : Nat) : stepPs Tryd.prog DS gamX 100 (bodyN Tryd.f24 0) 100 (exSn key info n t o i).st [.is false] (.exit 0) (exEnd n o) =
    some [((decide ((((List.length o) : Nat) : Int) < n)) = Bool.false), (n = n), (o = o)] := by kernel_rfl
theorem ex_exit (key info : List Int) (n : Int) (t o : List Int) (i : Nat)
    (h1 : ((decide ((((List.length o) : Nat) : Int) < n)) = Bool.false)) :
    ∃ ps, stepPs Tryd.prog DS gamX 100 (bodyN Tryd.f24 0) 100 (exSn key info n t o i).st [.is false] (.exit 0) (exEnd n o) = some ps ∧ AllQ ps := ⟨_, ex_exit_r key info n t o i, AllP.all ⟨h1, rfl, rfl⟩⟩

theorem ex_neg_r (key info : List Int) (n : Int) : runF Tryd.prog DS gamX 200 Tryd.f24 [.one (.words .u8 key), .one (.words .u8 info), .one (.int .i64 false n)] [.is true] =
    some ((Go.Abs.AV.v (Go.Abs.A0.one (Go.Abs.Part.nil))), [((decide (n < (0 : Int))) = Bool.true)]) := by kernel_rfl
theorem ex_neg (key info : List Int) (n : Int)
    (h1 : ((decide (n < (0 : Int))) = Bool.true)) :
    ∃ ps, runF Tryd.prog DS gamX 200 Tryd.f24 [.one (.words .u8 key), .one (.words .u8 info), .one (.int .i64 false n)] [.is true] = some ((Go.Abs.AV.v (Go.Abs.A0.one (Go.Abs.Part.nil))), ps) ∧ AllQ ps := ⟨_, ex_neg_r key info n, AllP.all h1⟩

theorem ex_big_r (key info : List Int) (n : Int) : runF Tryd.prog DS gamX 200 Tryd.f24 [.one (.words .u8 key), .one (.words .u8 info), .one (.int .i64 false n)] [.is false, .is true] =
    some ((Go.Abs.AV.v (Go.Abs.A0.one (Go.Abs.Part.nil))), [((decide (n < (0 : Int))) = Bool.false), ((decide (n > (8160 : Int))) = Bool.true)]) := by kernel_rfl
theorem ex_big (key info : List Int) (n : Int)
    (h1 : ((decide (n < (0 : Int))) = Bool.false))
    (h2 : ((decide (n > (8160 : Int))) = Bool.true)) :
    ∃ ps, runF Tryd.prog DS gamX 200 Tryd.f24 [.one (.words .u8 key), .one (.words .u8 info), .one (.int .i64 false n)] [.is false, .is true] = some ((Go.Abs.AV.v (Go.Abs.A0.one (Go.Abs.Part.nil))), ps) ∧ AllQ ps := ⟨_, ex_big_r key info n, AllP.all ⟨h1, h2⟩⟩

theorem ex_run_r (key info : List Int) (n : Int) (o0 o : List Int) : runF Tryd.prog DS gamX 200 Tryd.f24 [.one (.words .u8 key), .one (.words .u8 info), .one (.int .i64 false n)] [.is false, .is false, .loop (loopL DS (exSn key info n [] o0 (1 : Nat)) (.exit 0) (exEnd n o))] =
    some ((Go.Abs.AV.v (Go.Abs.A0.one (Go.Abs.Part.fresh (0 : Nat) (5 : TypeId) Go.IntKind.u8 (List.take (Int.toNat n) o)))), [((decide (n < (0 : Int))) = Bool.false), ((decide (n > (8160 : Int))) = Bool.false), (Go.Abs.InI64 (n + (32 : Int))), ((0 : Int) ≤ (0 : Int)), ((0 : Int) ≤ (n + (32 : Int))), ((n + (32 : Int)) ≤ (9223372036854775807 : Int)), (((((1 : Nat) : Nat) : Int) * (n + (32 : Int))) ≤ (281474976710656 : Int)), SumOK Tryd.prog DS (bodyN Tryd.f24 0) (loopL DS (exSn key info n [] o0 (1 : Nat)) (.exit 0) (exEnd n o)), (key = key), (info = info), (n = n), (([] : List (Int)) = ([] : List (Int))), ((1 : Int) = (((1 : Nat) : Nat) : Int)), ((List.replicate (0 : Nat) (0 : Int)) = o0), ((0 : Int) ≤ n), (n ≤ n), (n ≤ (((List.length o) : Nat) : Int))]) := by kernel_rfl
theorem ex_run (key info : List Int) (n : Int) (o0 o : List Int)
    (h1 : ((decide (n < (0 : Int))) = Bool.false))
    (h2 : ((decide (n > (8160 : Int))) = Bool.false))
    (h3 : (Go.Abs.InI64 (n + (32 : Int))))
    (h4 : ((0 : Int) ≤ (n + (32 : Int))))
    (h5 : ((n + (32 : Int)) ≤ (9223372036854775807 : Int)))
    (h6 : (((((1 : Nat) : Nat) : Int) * (n + (32 : Int))) ≤ (281474976710656 : Int)))
    (h7 : SumOK Tryd.prog DS (bodyN Tryd.f24 0) (loopL DS (exSn key info n [] o0 (1 : Nat)) (.exit 0) (exEnd n o)))
    (h8 : ((List.replicate (0 : Nat) (0 : Int)) = o0))
    (h9 : ((0 : Int) ≤ n))
    (h10 : (n ≤ n))
    (h11 : (n ≤ (((List.length o) : Nat) : Int))) :
    ∃ ps, runF Tryd.prog DS gamX 200 Tryd.f24 [.one (.words .u8 key), .one (.words .u8 info), .one (.int .i64 false n)] [.is false, .is false, .loop (loopL DS (exSn key info n [] o0 (1 : Nat)) (.exit 0) (exEnd n o))] = some ((Go.Abs.AV.v (Go.Abs.A0.one (Go.Abs.Part.fresh (0 : Nat) (5 : TypeId) Go.IntKind.u8 (List.take (Int.toNat n) o)))), ps) ∧ AllQ ps := ⟨_, ex_run_r key info n o0 o, AllP.all ⟨h1, h2, h3, (show ((0 : Int) ≤ (0 : Int)) from by decide), h4, h5, h6, h7, rfl, rfl, rfl, rfl, (show ((1 : Int) = (((1 : Nat) : Nat) : Int)) from by decide), h8, h9, h10, h11⟩⟩

noncomputable def gamY : Gam DS := [(10, .fn (copyD DS)), (23, .fn rmacD)]
theorem gamY_ok : GamOK Tryd.prog DS gamY := gam_cons (copy_ok DS) (gam_cons rmac_ok gam_nil)

def reSn (key info : List Int) (n : Int) (t o : List Int) (i : Int) : Sn DS.τ where
  slots := [(0, .v (.one (.words .u8 key))), (1, .v (.one (.words .u8 info))), slI 2 n, (7, .v (.one (.own 0))), (8, .v (.one (.own 1))), slI 9 i]
  boxes := [(0, .dyn 5 (.ints .u8 o)), (1, .dyn 5 (.ints .u8 t))]
  nt := 42
def reEnd (n : Int) (o : List Int) : Sn DS.τ where
  slots := [slI 2 n, (7, .v (.one (.own 0)))]
  boxes := [(0, .dyn 5 (.ints .u8 o))]
  nt := 42

theorem re_round_r (key info : List Int) (n : Int) (t o t' o' : List Int) (i : Nat) : stepPs Tryd.prog DS gamY 100 (bodyN Tryd.f26 0) 100 (reSn key info n t o i).st [.is true] .normal (reSn key info n t' o' ((i : Int) + 1)) =
    some [((decide ((((List.length o) : Nat) : Int) < n)) = Bool.true), ((List.length t) ≤ (281474976710656 : Nat)), (((List.length t) + (List.length info)) ≤ (9223372036854775807 : Nat)), ((((List.length t) + (List.length info)) * (1 : Nat)) ≤ (140737488355328 : Nat)), (((List.length (t ++ info)) + (1 : Nat)) ≤ (9223372036854775807 : Nat)), ((((List.length (t ++ info)) + (1 : Nat)) * (1 : Nat)) ≤ (140737488355328 : Nat)), ((List.length key) ≤ (1000000 : Nat)), ((List.length ((t ++ info) ++ ((Go.IntKind.wrap Go.IntKind.u8 ((i : Nat) : Int)) :: ([] : List (Int))))) ≤ (1000000 : Nat)), (((List.length o) + (List.length (Go.Num.hmF key ((t ++ info) ++ ((Go.IntKind.wrap Go.IntKind.u8 ((i : Nat) : Int)) :: ([] : List (Int))))))) ≤ (9223372036854775807 : Nat)), ((((List.length o) + (List.length (Go.Num.hmF key ((t ++ info) ++ ((Go.IntKind.wrap Go.IntKind.u8 ((i : Nat) : Int)) :: ([] : List (Int))))))) * (1 : Nat)) ≤ (140737488355328 : Nat)), (Go.Abs.InI64 (((i : Nat) : Int) + (1 : Int))), (key = key), (info = info), (n = n), ((((i : Nat) : Int) + (1 : Int)) = (((i : Nat) : Int) + (1 : Int))), ((o ++ (Go.Num.hmF key ((t ++ info) ++ ((Go.IntKind.wrap Go.IntKind.u8 ((i : Nat) : Int)) :: ([] : List (Int)))))) = o'), ((Go.Num.hmF key ((t ++ info) ++ ((Go.IntKind.wrap Go.IntKind.u8 ((i : Nat) : Int)) :: ([] : List (Int))))) = t')] := by kernel_rfl
theorem re_round (key info : List Int) (n : Int) (t o t' o' : List Int) (i : Nat)
    (h1 : ((decide ((((List.length o) : Nat) : Int) < n)) = Bool.true))
    (h2 : ((List.length t) ≤ (281474976710656 : Nat)))
    (h3 : (((List.length t) + (List.length info)) ≤ (9223372036854775807 : Nat)))
    (h4 : ((((List.length t) + (List.length info)) * (1 : Nat)) ≤ (140737488355328 : Nat)))
    (h5 : (((List.length (t ++ info)) + (1 : Nat)) ≤ (9223372036854775807 : Nat)))
    (h6 : ((((List.length (t ++ info)) + (1 : Nat)) * (1 : Nat)) ≤ (140737488355328 : Nat)))
    (h7 : ((List.length key) ≤ (1000000 : Nat)))
    (h8 : ((List.length ((t ++ info) ++ ((Go.IntKind.wrap Go.IntKind.u8 ((i : Nat) : Int)) :: ([] : List (Int))))) ≤ (1000000 : Nat)))
    (h9 : (((List.length o) + (List.length (Go.Num.hmF key ((t ++ info) ++ ((Go.IntKind.wrap Go.IntKind.u8 ((i : Nat) : Int)) :: ([] : List (Int))))))) ≤ (9223372036854775807 : Nat)))
    (h10 : ((((List.length o) + (List.length (Go.Num.hmF key ((t ++ info) ++ ((Go.IntKind.wrap Go.IntKind.u8 ((i : Nat) : Int)) :: ([] : List (Int))))))) * (1 : Nat)) ≤ (140737488355328 : Nat)))
    (h11 : (Go.Abs.InI64 (((i : Nat) : Int) + (1 : Int))))
    (h12 : ((o ++ (Go.Num.hmF key ((t ++ info) ++ ((Go.IntKind.wrap Go.IntKind.u8 ((i : Nat) : Int)) :: ([] : List (Int)))))) = o'))
    (h13 : ((Go.Num.hmF key ((t ++ info) ++ ((Go.IntKind.wrap Go.IntKind.u8 ((i : Nat) : Int)) :: ([] : List (Int))))) = t')) :
    ∃ ps, stepPs Tryd.prog DS gamY 100 (bodyN Tryd.f26 0) 100 (reSn key info n t o i).st [.is true] .normal (reSn key info n t' o' ((i : Int) + 1)) = some ps ∧ AllQ ps := ⟨_, re_round_r key info n t o t' o' i, AllP.all ⟨h1, h2, h3, h4, h5, h6, h7, h8, h9, h10, h11, rfl, rfl, rfl, rfl, h12, h13⟩⟩

theorem re_exit_r (key info : List Int) (n : Int) (t o : List Int) (i : Nat) : stepPs Tryd.prog DS gamY 100 (bodyN Tryd.f26 0) 100 (reSn key info n t o i).st [.is false] (.exit 0) (reEnd n o) =
    some [((decide ((((List.length o) : Nat) : Int) < n)) = Bool.false), (n = n), (o = o)] := by kernel_rfl
theorem re_exit (key info : List Int) (n : Int) (t o : List Int) (i : Nat)
    (h1 : ((decide ((((List.length o) : Nat) : Int) < n)) = Bool.false)) :
    ∃ ps, stepPs Tryd.prog DS gamY 100 (bodyN Tryd.f26 0) 100 (reSn key info n t o i).st [.is false] (.exit 0) (reEnd n o) = some ps ∧ AllQ ps := ⟨_, re_exit_r key info n t o i, AllP.all ⟨h1, rfl, rfl⟩⟩

theorem re_neg_r (key info : List Int) (n : Int) : runF Tryd.prog DS gamY 200 Tryd.f26 [.one (.words .u8 key), .one (.words .u8 info), .one (.int .i64 false n)] [.is true] =
    some ((Go.Abs.AV.v (Go.Abs.A0.one (Go.Abs.Part.nil))), [((decide (n < (0 : Int))) = Bool.true)]) := by kernel_rfl
theorem re_neg (key info : List Int) (n : Int)
    (h1 : ((decide (n < (0 : Int))) = Bool.true)) :
    ∃ ps, runF Tryd.prog DS gamY 200 Tryd.f26 [.one (.words .u8 key), .one (.words .u8 info), .one (.int .i64 false n)] [.is true] = some ((Go.Abs.AV.v (Go.Abs.A0.one (Go.Abs.Part.nil))), ps) ∧ AllQ ps := ⟨_, re_neg_r key info n, AllP.all h1⟩

theorem re_big_r (key info : List Int) (n : Int) : runF Tryd.prog DS gamY 200 Tryd.f26 [.one (.words .u8 key), .one (.words .u8 info), .one (.int .i64 false n)] [.is false, .is true] =
    some ((Go.Abs.AV.v (Go.Abs.A0.one (Go.Abs.Part.nil))), [((decide (n < (0 : Int))) = Bool.false), ((decide (n > (8160 : Int))) = Bool.true)]) := by kernel_rfl
theorem re_big (key info : List Int) (n : Int)
    (h1 : ((decide (n < (0 : Int))) = Bool.false))
    (h2 : ((decide (n > (8160 : Int))) = Bool.true)) :
    ∃ ps, runF Tryd.prog DS gamY 200 Tryd.f26 [.one (.words .u8 key), .one (.words .u8 info), .one (.int .i64 false n)] [.is false, .is true] = some ((Go.Abs.AV.v (Go.Abs.A0.one (Go.Abs.Part.nil))), ps) ∧ AllQ ps := ⟨_, re_big_r key info n, AllP.all ⟨h1, h2⟩⟩

theorem re_run_r (key info : List Int) (n : Int) (o : List Int) : runF Tryd.prog DS gamY 200 Tryd.f26 [.one (.words .u8 key), .one (.words .u8 info), .one (.int .i64 false n)] [.is false, .is false, .loop (loopL DS (reSn key info n [] [] (1 : Nat)) (.exit 0) (reEnd n o))] =
    some ((Go.Abs.AV.v (Go.Abs.A0.one (Go.Abs.Part.fresh (0 : Nat) (5 : TypeId) Go.IntKind.u8 (List.take (Int.toNat n) o)))), [((decide (n < (0 : Int))) = Bool.false), ((decide (n > (8160 : Int))) = Bool.false), SumOK Tryd.prog DS (bodyN Tryd.f26 0) (loopL DS (reSn key info n [] [] (1 : Nat)) (.exit 0) (reEnd n o)), (key = key), (info = info), (n = n), ((1 : Int) = (((1 : Nat) : Nat) : Int)), (([] : List (Int)) = ([] : List (Int))), (([] : List (Int)) = ([] : List (Int))), ((0 : Int) ≤ n), (n ≤ (((List.length o) : Nat) : Int))]) := by kernel_rfl
theorem re_run (key info : List Int) (n : Int) (o : List Int)
    (h1 : ((decide (n < (0 : Int))) = Bool.false))
    (h2 : ((decide (n > (8160 : Int))) = Bool.false))
    (h3 : SumOK Tryd.prog DS (bodyN Tryd.f26 0) (loopL DS (reSn key info n [] [] (1 : Nat)) (.exit 0) (reEnd n o)))
    (h4 : ((0 : Int) ≤ n))
    (h5 : (n ≤ (((List.length o) : Nat) : Int))) :
    ∃ ps, runF Tryd.prog DS gamY 200 Tryd.f26 [.one (.words .u8 key), .one (.words .u8 info), .one (.int .i64 false n)] [.is false, .is false, .loop (loopL DS (reSn key info n [] [] (1 : Nat)) (.exit 0) (reEnd n o))] = some ((Go.Abs.AV.v (Go.Abs.A0.one (Go.Abs.Part.fresh (0 : Nat) (5 : TypeId) Go.IntKind.u8 (List.take (Int.toNat n) o)))), ps) ∧ AllQ ps := ⟨_, re_run_r key info n o, AllP.all ⟨h1, h2, h3, rfl, rfl, rfl, (show ((1 : Int) = (((1 : Nat) : Nat) : Int)) from by decide), rfl, rfl, h4, h5⟩⟩

noncomputable def gamZ : Gam DS := [(22, .fn macD)]
theorem hd2_run_r  : runF Tryd.prog DS gamZ 100 Tryd.f21 [] [.is true, .is true, .is true] =
    some ((Go.Abs.AV.v (Go.Abs.A0.one (Go.Abs.Part.bool Bool.true Bool.true))), [((0 : Nat) < (4 : Nat)), ((0 : Nat) < (16 : Nat)), ((0 : Nat) < (12 : Nat)), (Go.Num.InB ((74 : Int) :: ((101 : Int) :: ((102 : Int) :: ((101 : Int) :: ([] : List (Int))))))), (Go.Num.InB (List.append ((119 : Int) :: ((104 : Int) :: ((97 : Int) :: ((116 : Int) :: ((32 : Int) :: ((100 : Int) :: ((111 : Int) :: ((32 : Int) :: ((121 : Int) :: ((97 : Int) :: ((32 : Int) :: ((119 : Int) :: ((97 : Int) :: ((110 : Int) :: ((116 : Int) :: ((32 : Int) :: ([] : List (Int)))))))))))))))))) (List.append ((102 : Int) :: ((111 : Int) :: ((114 : Int) :: ((32 : Int) :: ((110 : Int) :: ((111 : Int) :: ((116 : Int) :: ((104 : Int) :: ((105 : Int) :: ((110 : Int) :: ((103 : Int) :: ((63 : Int) :: ([] : List (Int)))))))))))))) ([] : List (Int))))), ((4 : Nat) ≤ (1000000 : Nat)), ((List.length (List.append ((119 : Int) :: ((104 : Int) :: ((97 : Int) :: ((116 : Int) :: ((32 : Int) :: ((100 : Int) :: ((111 : Int) :: ((32 : Int) :: ((121 : Int) :: ((97 : Int) :: ((32 : Int) :: ((119 : Int) :: ((97 : Int) :: ((110 : Int) :: ((116 : Int) :: ((32 : Int) :: ([] : List (Int)))))))))))))))))) (List.append ((102 : Int) :: ((111 : Int) :: ((114 : Int) :: ((32 : Int) :: ((110 : Int) :: ((111 : Int) :: ((116 : Int) :: ((104 : Int) :: ((105 : Int) :: ((110 : Int) :: ((103 : Int) :: ((63 : Int) :: ([] : List (Int)))))))))))))) ([] : List (Int))))) ≤ (1000000 : Nat)), ((2 : Nat) ≤ (2000000 : Nat)), (((List.getD (Go.Num.hmF ((74 : Int) :: ((101 : Int) :: ((102 : Int) :: ((101 : Int) :: ([] : List (Int)))))) (List.append ((119 : Int) :: ((104 : Int) :: ((97 : Int) :: ((116 : Int) :: ((32 : Int) :: ((100 : Int) :: ((111 : Int) :: ((32 : Int) :: ((121 : Int) :: ((97 : Int) :: ((32 : Int) :: ((119 : Int) :: ((97 : Int) :: ((110 : Int) :: ((116 : Int) :: ((32 : Int) :: ([] : List (Int)))))))))))))))))) (List.append ((102 : Int) :: ((111 : Int) :: ((114 : Int) :: ((32 : Int) :: ((110 : Int) :: ((111 : Int) :: ((116 : Int) :: ((104 : Int) :: ((105 : Int) :: ((110 : Int) :: ((103 : Int) :: ((63 : Int) :: ([] : List (Int)))))))))))))) ([] : List (Int))))) (0 : Nat) (0 : Int)) == (91 : Int)) = Bool.true), (((List.getD (Go.Num.hmF ((74 : Int) :: ((101 : Int) :: ((102 : Int) :: ((101 : Int) :: ([] : List (Int)))))) (List.append ((119 : Int) :: ((104 : Int) :: ((97 : Int) :: ((116 : Int) :: ((32 : Int) :: ((100 : Int) :: ((111 : Int) :: ((32 : Int) :: ((121 : Int) :: ((97 : Int) :: ((32 : Int) :: ((119 : Int) :: ((97 : Int) :: ((110 : Int) :: ((116 : Int) :: ((32 : Int) :: ([] : List (Int)))))))))))))))))) (List.append ((102 : Int) :: ((111 : Int) :: ((114 : Int) :: ((32 : Int) :: ((110 : Int) :: ((111 : Int) :: ((116 : Int) :: ((104 : Int) :: ((105 : Int) :: ((110 : Int) :: ((103 : Int) :: ((63 : Int) :: ([] : List (Int)))))))))))))) ([] : List (Int))))) (1 : Nat) (0 : Int)) == (220 : Int)) = Bool.true), (((List.getD (Go.Num.hmF ((74 : Int) :: ((101 : Int) :: ((102 : Int) :: ((101 : Int) :: ([] : List (Int)))))) (List.append ((119 : Int) :: ((104 : Int) :: ((97 : Int) :: ((116 : Int) :: ((32 : Int) :: ((100 : Int) :: ((111 : Int) :: ((32 : Int) :: ((121 : Int) :: ((97 : Int) :: ((32 : Int) :: ((119 : Int) :: ((97 : Int) :: ((110 : Int) :: ((116 : Int) :: ((32 : Int) :: ([] : List (Int)))))))))))))))))) (List.append ((102 : Int) :: ((111 : Int) :: ((114 : Int) :: ((32 : Int) :: ((110 : Int) :: ((111 : Int) :: ((116 : Int) :: ((104 : Int) :: ((105 : Int) :: ((110 : Int) :: ((103 : Int) :: ((63 : Int) :: ([] : List (Int)))))))))))))) ([] : List (Int))))) (31 : Nat) (0 : Int)) == (67 : Int)) = Bool.true)]) := by kernel_rfl
theorem hd2_run 
    (h1 : (Go.Num.InB ((74 : Int) :: ((101 : Int) :: ((102 : Int) :: ((101 : Int) :: ([] : List (Int))))))))
    (h2 : (Go.Num.InB (List.append ((119 : Int) :: ((104 : Int) :: ((97 : Int) :: ((116 : Int) :: ((32 : Int) :: ((100 : Int) :: ((111 : Int) :: ((32 : Int) :: ((121 : Int) :: ((97 : Int) :: ((32 : Int) :: ((119 : Int) :: ((97 : Int) :: ((110 : Int) :: ((116 : Int) :: ((32 : Int) :: ([] : List (Int)))))))))))))))))) (List.append ((102 : Int) :: ((111 : Int) :: ((114 : Int) :: ((32 : Int) :: ((110 : Int) :: ((111 : Int) :: ((116 : Int) :: ((104 : Int) :: ((105 : Int) :: ((110 : Int) :: ((103 : Int) :: ((63 : Int) :: ([] : List (Int)))))))))))))) ([] : List (Int))))))
    (h3 : (((List.getD (Go.Num.hmF ((74 : Int) :: ((101 : Int) :: ((102 : Int) :: ((101 : Int) :: ([] : List (Int)))))) (List.append ((119 : Int) :: ((104 : Int) :: ((97 : Int) :: ((116 : Int) :: ((32 : Int) :: ((100 : Int) :: ((111 : Int) :: ((32 : Int) :: ((121 : Int) :: ((97 : Int) :: ((32 : Int) :: ((119 : Int) :: ((97 : Int) :: ((110 : Int) :: ((116 : Int) :: ((32 : Int) :: ([] : List (Int)))))))))))))))))) (List.append ((102 : Int) :: ((111 : Int) :: ((114 : Int) :: ((32 : Int) :: ((110 : Int) :: ((111 : Int) :: ((116 : Int) :: ((104 : Int) :: ((105 : Int) :: ((110 : Int) :: ((103 : Int) :: ((63 : Int) :: ([] : List (Int)))))))))))))) ([] : List (Int))))) (0 : Nat) (0 : Int)) == (91 : Int)) = Bool.true))
    (h4 : (((List.getD (Go.Num.hmF ((74 : Int) :: ((101 : Int) :: ((102 : Int) :: ((101 : Int) :: ([] : List (Int)))))) (List.append ((119 : Int) :: ((104 : Int) :: ((97 : Int) :: ((116 : Int) :: ((32 : Int) :: ((100 : Int) :: ((111 : Int) :: ((32 : Int) :: ((121 : Int) :: ((97 : Int) :: ((32 : Int) :: ((119 : Int) :: ((97 : Int) :: ((110 : Int) :: ((116 : Int) :: ((32 : Int) :: ([] : List (Int)))))))))))))))))) (List.append ((102 : Int) :: ((111 : Int) :: ((114 : Int) :: ((32 : Int) :: ((110 : Int) :: ((111 : Int) :: ((116 : Int) :: ((104 : Int) :: ((105 : Int) :: ((110 : Int) :: ((103 : Int) :: ((63 : Int) :: ([] : List (Int)))))))))))))) ([] : List (Int))))) (1 : Nat) (0 : Int)) == (220 : Int)) = Bool.true))
    (h5 : (((List.getD (Go.Num.hmF ((74 : Int) :: ((101 : Int) :: ((102 : Int) :: ((101 : Int) :: ([] : List (Int)))))) (List.append ((119 : Int) :: ((104 : Int) :: ((97 : Int) :: ((116 : Int) :: ((32 : Int) :: ((100 : Int) :: ((111 : Int) :: ((32 : Int) :: ((121 : Int) :: ((97 : Int) :: ((32 : Int) :: ((119 : Int) :: ((97 : Int) :: ((110 : Int) :: ((116 : Int) :: ((32 : Int) :: ([] : List (Int)))))))))))))))))) (List.append ((102 : Int) :: ((111 : Int) :: ((114 : Int) :: ((32 : Int) :: ((110 : Int) :: ((111 : Int) :: ((116 : Int) :: ((104 : Int) :: ((105 : Int) :: ((110 : Int) :: ((103 : Int) :: ((63 : Int) :: ([] : List (Int)))))))))))))) ([] : List (Int))))) (31 : Nat) (0 : Int)) == (67 : Int)) = Bool.true)) :
    ∃ ps, runF Tryd.prog DS gamZ 100 Tryd.f21 [] [.is true, .is true, .is true] = some ((Go.Abs.AV.v (Go.Abs.A0.one (Go.Abs.Part.bool Bool.true Bool.true))), ps) ∧ AllQ ps := ⟨_, hd2_run_r , AllP.all ⟨(show ((0 : Nat) < (4 : Nat)) from by decide), (show ((0 : Nat) < (16 : Nat)) from by decide), (show ((0 : Nat) < (12 : Nat)) from by decide), h1, h2, (show ((4 : Nat) ≤ (1000000 : Nat)) from by decide), (show ((List.length (List.append ((119 : Int) :: ((104 : Int) :: ((97 : Int) :: ((116 : Int) :: ((32 : Int) :: ((100 : Int) :: ((111 : Int) :: ((32 : Int) :: ((121 : Int) :: ((97 : Int) :: ((32 : Int) :: ((119 : Int) :: ((97 : Int) :: ((110 : Int) :: ((116 : Int) :: ((32 : Int) :: ([] : List (Int)))))))))))))))))) (List.append ((102 : Int) :: ((111 : Int) :: ((114 : Int) :: ((32 : Int) :: ((110 : Int) :: ((111 : Int) :: ((116 : Int) :: ((104 : Int) :: ((105 : Int) :: ((110 : Int) :: ((103 : Int) :: ((63 : Int) :: ([] : List (Int)))))))))))))) ([] : List (Int))))) ≤ (1000000 : Nat)) from by decide), (show ((2 : Nat) ≤ (2000000 : Nat)) from by decide), h3, h4, h5⟩⟩

end Go.Num
