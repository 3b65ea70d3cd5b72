/- SHA-256: what Sum and the others do. -/
import Derived.Test.YtjglidfemgodiaaDoorS3
namespace Go.Num
open Go.Abs Go.Proofs Go.Shelf

noncomputable def gamS : Gam DS := [(17, .op [true, false] wrD)]

theorem gamS_ok : GamOK Tryd.prog DS gamS := gam_op write_ok gam_nil

def smSn (s r z t : List Int) (n m : Int) (sl : List (Nat × AV DS.τ)) : Sn DS.τ where
  slots := [(0, .v (.one (.ref 0 0))), (2, .v (.one (.ref 1 0))), (3, .v (.one (.ref 2 0))), (4, .v (.one (.ref 3 0))), (5, .v (.one (.int .i64 false m)))] ++ sl
  boxes := [(0, .fixed 50 (hashP s r n)), (1, .fixed 27 [.arr .u8 32 z]), (2, .fixed 27 [.arr .u8 32 z]), (3, .fixed 59 [.arr .u8 72 t])]
  nt := 66
  np := 1

def sm2Sn (s r z s2 r2 o : List Int) (n n2 : Int) (sl : List (Nat × AV DS.τ)) : Sn DS.τ where
  slots := [(0, .v (.one (.ref 0 0))), (2, .v (.one (.ref 1 0))), (3, .v (.one (.ref 2 0))), (7, .v (.one (.ref 3 0)))] ++ sl
  boxes := [(0, .fixed 50 (hashP s r n)), (1, .fixed 27 [.arr .u8 32 z]), (2, .fixed 27 [.arr .u8 32 o]), (3, .fixed 50 (hashP s2 r2 n2))]
  nt := 66
  np := 1

theorem sm_round_r (s r z t t' : List Int) (n m : Int) (i : Nat) : stepPs Tryd.prog DS gamS 100 (bodyN Tryd.f18 0) 100 (smSn s r z t n m [slI 20 i]).st [.is true] .normal (smSn s r z t' n m [slI 20 ((i : Int) + 1)]) =
    some [((decide (((i : Nat) : Int) < (8 : Int))) = Bool.true), (Go.Abs.InI64 ((1 : Int) + m)), (Go.Abs.InI64 (((1 : Int) + m) + ((i : Nat) : Int))), (Go.Abs.InI64 ((8 : Int) * ((i : Nat) : Int))), (Go.Abs.InI64 ((56 : Int) - ((8 : Int) * ((i : Nat) : Int)))), ((0 : Int) ≤ ((56 : Int) - ((8 : Int) * ((i : Nat) : Int)))), ((0 : Int) ≤ (((1 : Int) + m) + ((i : Nat) : Int))), ((((1 : Int) + m) + ((i : Nat) : Int)) < (((72 : Nat) : Nat) : Int)), (Go.Abs.InI64 (((i : Nat) : Int) + (1 : Int))), (m = m), ((((i : Nat) : Int) + (1 : Int)) = (((i : Nat) : Int) + (1 : Int))), (s = s), (r = r), (n = n), (z = z), (z = z), ((List.set t (Int.toNat (((1 : Int) + m) + ((i : Nat) : Int))) (Go.IntKind.wrap Go.IntKind.u8 (Int.fdiv (Go.IntKind.wrap Go.IntKind.u64 ((Go.IntKind.wrap Go.IntKind.u64 n) * (8 : Int))) ((2 : Int) ^ (min (Int.toNat ((56 : Int) - ((8 : Int) * ((i : Nat) : Int)))) (64 : Nat)))))) = t')] := by kernel_rfl
theorem sm_round (s r z t t' : List Int) (n m : Int) (i : Nat)
    (h1 : ((decide (((i : Nat) : Int) < (8 : Int))) = Bool.true))
    (h2 : (Go.Abs.InI64 ((1 : Int) + m)))
    (h3 : (Go.Abs.InI64 (((1 : Int) + m) + ((i : Nat) : Int))))
    (h4 : (Go.Abs.InI64 ((8 : Int) * ((i : Nat) : Int))))
    (h5 : (Go.Abs.InI64 ((56 : Int) - ((8 : Int) * ((i : Nat) : Int)))))
    (h6 : ((0 : Int) ≤ ((56 : Int) - ((8 : Int) * ((i : Nat) : Int)))))
    (h7 : ((0 : Int) ≤ (((1 : Int) + m) + ((i : Nat) : Int))))
    (h8 : ((((1 : Int) + m) + ((i : Nat) : Int)) < (((72 : Nat) : Nat) : Int)))
    (h9 : (Go.Abs.InI64 (((i : Nat) : Int) + (1 : Int))))
    (h10 : ((List.set t (Int.toNat (((1 : Int) + m) + ((i : Nat) : Int))) (Go.IntKind.wrap Go.IntKind.u8 (Int.fdiv (Go.IntKind.wrap Go.IntKind.u64 ((Go.IntKind.wrap Go.IntKind.u64 n) * (8 : Int))) ((2 : Int) ^ (min (Int.toNat ((56 : Int) - ((8 : Int) * ((i : Nat) : Int)))) (64 : Nat)))))) = t')) :
    ∃ ps, stepPs Tryd.prog DS gamS 100 (bodyN Tryd.f18 0) 100 (smSn s r z t n m [slI 20 i]).st [.is true] .normal (smSn s r z t' n m [slI 20 ((i : Int) + 1)]) = some ps ∧ AllQ ps := ⟨_, sm_round_r s r z t t' n m i, AllP.all ⟨h1, h2, h3, h4, h5, h6, h7, h8, h9, rfl, rfl, rfl, rfl, rfl, rfl, rfl, h10⟩⟩

theorem sm_exit_r (s r z t : List Int) (n m : Int) (i : Nat) : stepPs Tryd.prog DS gamS 100 (bodyN Tryd.f18 0) 100 (smSn s r z t n m [slI 20 i]).st [.is false] (.exit 0) (smSn s r z t n m []) =
    some [((decide (((i : Nat) : Int) < (8 : Int))) = Bool.false), (m = m), (s = s), (r = r), (n = n), (z = z), (z = z), (t = t)] := by kernel_rfl
theorem sm_exit (s r z t : List Int) (n m : Int) (i : Nat)
    (h1 : ((decide (((i : Nat) : Int) < (8 : Int))) = Bool.false)) :
    ∃ ps, stepPs Tryd.prog DS gamS 100 (bodyN Tryd.f18 0) 100 (smSn s r z t n m [slI 20 i]).st [.is false] (.exit 0) (smSn s r z t n m []) = some ps ∧ AllQ ps := ⟨_, sm_exit_r s r z t n m i, AllP.all ⟨h1, rfl, rfl, rfl, rfl, rfl, rfl, rfl⟩⟩

theorem sm2_round_r (s r z s2 r2 o o' : List Int) (n n2 : Int) (i : Nat) : stepPs Tryd.prog DS gamS 100 (bodyN Tryd.f18 1) 100 (sm2Sn s r z s2 r2 o n n2 [slI 48 i]).st [.is true] .normal (sm2Sn s r z s2 r2 o' n n2 [slI 48 ((i : Int) + 1)]) =
    some [((decide (((i : Nat) : Int) < (32 : Int))) = Bool.true), ((4 : Int) ≠ (0 : Int)), ((0 : Int) ≤ (Go.IntKind.wrap Go.IntKind.i64 (Int.tdiv ((i : Nat) : Int) (4 : Int)))), ((Go.IntKind.wrap Go.IntKind.i64 (Int.tdiv ((i : Nat) : Int) (4 : Int))) < (((8 : Nat) : Nat) : Int)), (Go.Abs.InI64 ((8 : Int) * (Int.tmod ((i : Nat) : Int) (4 : Int)))), (Go.Abs.InI64 ((24 : Int) - ((8 : Int) * (Int.tmod ((i : Nat) : Int) (4 : Int))))), ((0 : Int) ≤ ((24 : Int) - ((8 : Int) * (Int.tmod ((i : Nat) : Int) (4 : Int))))), ((0 : Int) ≤ ((i : Nat) : Int)), (((i : Nat) : Int) < (((32 : Nat) : Nat) : Int)), (Go.Abs.InI64 (((i : Nat) : Int) + (1 : Int))), ((((i : Nat) : Int) + (1 : Int)) = (((i : Nat) : Int) + (1 : Int))), (s = s), (r = r), (n = n), (z = z), ((List.set o (Int.toNat ((i : Nat) : Int)) (Go.IntKind.wrap Go.IntKind.u8 (Int.fdiv (List.getD s2 (Int.toNat (Go.IntKind.wrap Go.IntKind.i64 (Int.tdiv ((i : Nat) : Int) (4 : Int)))) (0 : Int)) ((2 : Int) ^ (min (Int.toNat ((24 : Int) - ((8 : Int) * (Int.tmod ((i : Nat) : Int) (4 : Int))))) (32 : Nat)))))) = o'), (s2 = s2), (r2 = r2), (n2 = n2)] := by kernel_rfl
theorem sm2_round (s r z s2 r2 o o' : List Int) (n n2 : Int) (i : Nat)
    (h1 : ((decide (((i : Nat) : Int) < (32 : Int))) = Bool.true))
    (h2 : ((0 : Int) ≤ (Go.IntKind.wrap Go.IntKind.i64 (Int.tdiv ((i : Nat) : Int) (4 : Int)))))
    (h3 : ((Go.IntKind.wrap Go.IntKind.i64 (Int.tdiv ((i : Nat) : Int) (4 : Int))) < (((8 : Nat) : Nat) : Int)))
    (h4 : (Go.Abs.InI64 ((8 : Int) * (Int.tmod ((i : Nat) : Int) (4 : Int)))))
    (h5 : (Go.Abs.InI64 ((24 : Int) - ((8 : Int) * (Int.tmod ((i : Nat) : Int) (4 : Int))))))
    (h6 : ((0 : Int) ≤ ((24 : Int) - ((8 : Int) * (Int.tmod ((i : Nat) : Int) (4 : Int))))))
    (h7 : ((0 : Int) ≤ ((i : Nat) : Int)))
    (h8 : (((i : Nat) : Int) < (((32 : Nat) : Nat) : Int)))
    (h9 : (Go.Abs.InI64 (((i : Nat) : Int) + (1 : Int))))
    (h10 : ((List.set o (Int.toNat ((i : Nat) : Int)) (Go.IntKind.wrap Go.IntKind.u8 (Int.fdiv (List.getD s2 (Int.toNat (Go.IntKind.wrap Go.IntKind.i64 (Int.tdiv ((i : Nat) : Int) (4 : Int)))) (0 : Int)) ((2 : Int) ^ (min (Int.toNat ((24 : Int) - ((8 : Int) * (Int.tmod ((i : Nat) : Int) (4 : Int))))) (32 : Nat)))))) = o')) :
    ∃ ps, stepPs Tryd.prog DS gamS 100 (bodyN Tryd.f18 1) 100 (sm2Sn s r z s2 r2 o n n2 [slI 48 i]).st [.is true] .normal (sm2Sn s r z s2 r2 o' n n2 [slI 48 ((i : Int) + 1)]) = some ps ∧ AllQ ps := ⟨_, sm2_round_r s r z s2 r2 o o' n n2 i, AllP.all ⟨h1, (show ((4 : Int) ≠ (0 : Int)) from by decide), h2, h3, h4, h5, h6, h7, h8, h9, rfl, rfl, rfl, rfl, rfl, h10, rfl, rfl, rfl⟩⟩

theorem sm2_exit_r (s r z s2 r2 o : List Int) (n n2 : Int) (i : Nat) : stepPs Tryd.prog DS gamS 100 (bodyN Tryd.f18 1) 100 (sm2Sn s r z s2 r2 o n n2 [slI 48 i]).st [.is false] (.exit 2) (sm2Sn s r z s2 r2 o n n2 []) =
    some [((decide (((i : Nat) : Int) < (32 : Int))) = Bool.false), (s = s), (r = r), (n = n), (z = z), (o = o), (s2 = s2), (r2 = r2), (n2 = n2)] := by kernel_rfl
theorem sm2_exit (s r z s2 r2 o : List Int) (n n2 : Int) (i : Nat)
    (h1 : ((decide (((i : Nat) : Int) < (32 : Int))) = Bool.false)) :
    ∃ ps, stepPs Tryd.prog DS gamS 100 (bodyN Tryd.f18 1) 100 (sm2Sn s r z s2 r2 o n n2 [slI 48 i]).st [.is false] (.exit 2) (sm2Sn s r z s2 r2 o n n2 []) = some ps ∧ AllQ ps := ⟨_, sm2_exit_r s r z s2 r2 o n n2 i, AllP.all ⟨h1, rfl, rfl, rfl, rfl, rfl, rfl, rfl, rfl⟩⟩

theorem sm_run_r (s r z t t' s2 r2 o : List Int) (n n2 m : Int) : runO Tryd.prog DS gamS 100 Tryd.f18 ([.fixed 50 (hashP s r n)], [.one (.ref 0 0)]) [.loop (loopL DS (smSn s r z t n m [slI 20 (0 : Nat)]) (.exit 0) (smSn s r z t' n m [])), .loop (loopL DS (sm2Sn s r z s2 r2 z n n2 [slI 48 (0 : Nat)]) (.exit 2) (sm2Sn s r z s2 r2 o n n2 []))] (.v (.agg [.arr .u8 32 o])) [.fixed 50 (hashP s r n)] =
    some [(Go.Abs.InI64 ((119 : Int) - (Int.tmod n (64 : Int)))), SumOK Tryd.prog DS (bodyN Tryd.f18 0) (loopL DS (smSn s r z t n m [slI 20 (0 : Nat)]) (.exit 0) (smSn s r z t' n m [])), ((Int.tmod ((119 : Int) - (Int.tmod n (64 : Int))) (64 : Int)) = m), ((0 : Int) = (((0 : Nat) : Nat) : Int)), (s = s), (r = r), (n = n), (((0 : Int) :: ((0 : Int) :: ((0 : Int) :: ((0 : Int) :: ((0 : Int) :: ((0 : Int) :: ((0 : Int) :: ((0 : Int) :: ((0 : Int) :: ((0 : Int) :: ((0 : Int) :: ((0 : Int) :: ((0 : Int) :: ((0 : Int) :: ((0 : Int) :: ((0 : Int) :: ((0 : Int) :: ((0 : Int) :: ((0 : Int) :: ((0 : Int) :: ((0 : Int) :: ((0 : Int) :: ((0 : Int) :: ((0 : Int) :: ((0 : Int) :: ((0 : Int) :: ((0 : Int) :: ((0 : Int) :: ((0 : Int) :: ((0 : Int) :: ((0 : Int) :: ((0 : Int) :: ([] : List (Int)))))))))))))))))))))))))))))))))) = z), (((0 : Int) :: ((0 : Int) :: ((0 : Int) :: ((0 : Int) :: ((0 : Int) :: ((0 : Int) :: ((0 : Int) :: ((0 : Int) :: ((0 : Int) :: ((0 : Int) :: ((0 : Int) :: ((0 : Int) :: ((0 : Int) :: ((0 : Int) :: ((0 : Int) :: ((0 : Int) :: ((0 : Int) :: ((0 : Int) :: ((0 : Int) :: ((0 : Int) :: ((0 : Int) :: ((0 : Int) :: ((0 : Int) :: ((0 : Int) :: ((0 : Int) :: ((0 : Int) :: ((0 : Int) :: ((0 : Int) :: ((0 : Int) :: ((0 : Int) :: ((0 : Int) :: ((0 : Int) :: ([] : List (Int)))))))))))))))))))))))))))))))))) = z), (((128 : Int) :: ((0 : Int) :: ((0 : Int) :: ((0 : Int) :: ((0 : Int) :: ((0 : Int) :: ((0 : Int) :: ((0 : Int) :: ((0 : Int) :: ((0 : Int) :: ((0 : Int) :: ((0 : Int) :: ((0 : Int) :: ((0 : Int) :: ((0 : Int) :: ((0 : Int) :: ((0 : Int) :: ((0 : Int) :: ((0 : Int) :: ((0 : Int) :: ((0 : Int) :: ((0 : Int) :: ((0 : Int) :: ((0 : Int) :: ((0 : Int) :: ((0 : Int) :: ((0 : Int) :: ((0 : Int) :: ((0 : Int) :: ((0 : Int) :: ((0 : Int) :: ((0 : Int) :: ((0 : Int) :: ((0 : Int) :: ((0 : Int) :: ((0 : Int) :: ((0 : Int) :: ((0 : Int) :: ((0 : Int) :: ((0 : Int) :: ((0 : Int) :: ((0 : Int) :: ((0 : Int) :: ((0 : Int) :: ((0 : Int) :: ((0 : Int) :: ((0 : Int) :: ((0 : Int) :: ((0 : Int) :: ((0 : Int) :: ((0 : Int) :: ((0 : Int) :: ((0 : Int) :: ((0 : Int) :: ((0 : Int) :: ((0 : Int) :: ((0 : Int) :: ((0 : Int) :: ((0 : Int) :: ((0 : Int) :: ((0 : Int) :: ((0 : Int) :: ((0 : Int) :: ((0 : Int) :: ((0 : Int) :: ((0 : Int) :: ((0 : Int) :: ((0 : Int) :: ((0 : Int) :: ((0 : Int) :: ((0 : Int) :: ((0 : Int) :: ([] : List (Int)))))))))))))))))))))))))))))))))))))))))))))))))))))))))))))))))))))))))) = t), (Go.Abs.InI64 ((1 : Int) + m)), (Go.Abs.InI64 (((1 : Int) + m) + (8 : Int))), ((0 : Int) ≤ (0 : Int)), ((0 : Int) ≤ (((1 : Int) + m) + (8 : Int))), ((((1 : Int) + m) + (8 : Int)) ≤ (((72 : Nat) : Nat) : Int)), ((0 : Int) < (((72 : Nat) : Nat) : Int)), ((List.take ((Int.toNat (((1 : Int) + m) + (8 : Int))) - (0 : Nat)) (List.drop (0 : Nat) t')) = (List.take ((Int.toNat (((1 : Int) + m) + (8 : Int))) - (0 : Nat)) (List.drop (0 : Nat) t'))), (s = s), (r = r), (n = n), ((0 : Int) ≤ n), ((n + (((List.length (List.take ((Int.toNat (((1 : Int) + m) + (8 : Int))) - (0 : Nat)) (List.drop (0 : Nat) t'))) : Nat) : Int)) ≤ (9223372036854775807 : Int)), SumOK Tryd.prog DS (bodyN Tryd.f18 1) (loopL DS (sm2Sn s r z s2 r2 z n n2 [slI 48 (0 : Nat)]) (.exit 2) (sm2Sn s r z s2 r2 o n n2 [])), ((0 : Int) = (((0 : Nat) : Nat) : Int)), (s = s), (r = r), (n = n), (z = z), (z = z), ((Go.Num.writeS s r (Int.toNat n) (List.take ((Int.toNat (((1 : Int) + m) + (8 : Int))) - (0 : Nat)) (List.drop (0 : Nat) t'))) = s2), ((Go.Num.writeR s r (Int.toNat n) (List.take ((Int.toNat (((1 : Int) + m) + (8 : Int))) - (0 : Nat)) (List.drop (0 : Nat) t'))) = r2), ((n + (((List.length (List.take ((Int.toNat (((1 : Int) + m) + (8 : Int))) - (0 : Nat)) (List.drop (0 : Nat) t'))) : Nat) : Int)) = n2), (o = o), (s = s), (r = r), (n = n)] := by kernel_rfl
theorem sm_run (s r z t t' s2 r2 o : List Int) (n n2 m : Int)
    (h1 : (Go.Abs.InI64 ((119 : Int) - (Int.tmod n (64 : Int)))))
    (h2 : SumOK Tryd.prog DS (bodyN Tryd.f18 0) (loopL DS (smSn s r z t n m [slI 20 (0 : Nat)]) (.exit 0) (smSn s r z t' n m [])))
    (h3 : ((Int.tmod ((119 : Int) - (Int.tmod n (64 : Int))) (64 : Int)) = m))
    (h4 : (((0 : Int) :: ((0 : Int) :: ((0 : Int) :: ((0 : Int) :: ((0 : Int) :: ((0 : Int) :: ((0 : Int) :: ((0 : Int) :: ((0 : Int) :: ((0 : Int) :: ((0 : Int) :: ((0 : Int) :: ((0 : Int) :: ((0 : Int) :: ((0 : Int) :: ((0 : Int) :: ((0 : Int) :: ((0 : Int) :: ((0 : Int) :: ((0 : Int) :: ((0 : Int) :: ((0 : Int) :: ((0 : Int) :: ((0 : Int) :: ((0 : Int) :: ((0 : Int) :: ((0 : Int) :: ((0 : Int) :: ((0 : Int) :: ((0 : Int) :: ((0 : Int) :: ((0 : Int) :: ([] : List (Int)))))))))))))))))))))))))))))))))) = z))
    (h5 : (((128 : Int) :: ((0 : Int) :: ((0 : Int) :: ((0 : Int) :: ((0 : Int) :: ((0 : Int) :: ((0 : Int) :: ((0 : Int) :: ((0 : Int) :: ((0 : Int) :: ((0 : Int) :: ((0 : Int) :: ((0 : Int) :: ((0 : Int) :: ((0 : Int) :: ((0 : Int) :: ((0 : Int) :: ((0 : Int) :: ((0 : Int) :: ((0 : Int) :: ((0 : Int) :: ((0 : Int) :: ((0 : Int) :: ((0 : Int) :: ((0 : Int) :: ((0 : Int) :: ((0 : Int) :: ((0 : Int) :: ((0 : Int) :: ((0 : Int) :: ((0 : Int) :: ((0 : Int) :: ((0 : Int) :: ((0 : Int) :: ((0 : Int) :: ((0 : Int) :: ((0 : Int) :: ((0 : Int) :: ((0 : Int) :: ((0 : Int) :: ((0 : Int) :: ((0 : Int) :: ((0 : Int) :: ((0 : Int) :: ((0 : Int) :: ((0 : Int) :: ((0 : Int) :: ((0 : Int) :: ((0 : Int) :: ((0 : Int) :: ((0 : Int) :: ((0 : Int) :: ((0 : Int) :: ((0 : Int) :: ((0 : Int) :: ((0 : Int) :: ((0 : Int) :: ((0 : Int) :: ((0 : Int) :: ((0 : Int) :: ((0 : Int) :: ((0 : Int) :: ((0 : Int) :: ((0 : Int) :: ((0 : Int) :: ((0 : Int) :: ((0 : Int) :: ((0 : Int) :: ((0 : Int) :: ((0 : Int) :: ((0 : Int) :: ((0 : Int) :: ([] : List (Int)))))))))))))))))))))))))))))))))))))))))))))))))))))))))))))))))))))))))) = t))
    (h6 : (Go.Abs.InI64 ((1 : Int) + m)))
    (h7 : (Go.Abs.InI64 (((1 : Int) + m) + (8 : Int))))
    (h8 : ((0 : Int) ≤ (((1 : Int) + m) + (8 : Int))))
    (h9 : ((((1 : Int) + m) + (8 : Int)) ≤ (((72 : Nat) : Nat) : Int)))
    (h10 : ((0 : Int) ≤ n))
    (h11 : ((n + (((List.length (List.take ((Int.toNat (((1 : Int) + m) + (8 : Int))) - (0 : Nat)) (List.drop (0 : Nat) t'))) : Nat) : Int)) ≤ (9223372036854775807 : Int)))
    (h12 : SumOK Tryd.prog DS (bodyN Tryd.f18 1) (loopL DS (sm2Sn s r z s2 r2 z n n2 [slI 48 (0 : Nat)]) (.exit 2) (sm2Sn s r z s2 r2 o n n2 [])))
    (h13 : ((Go.Num.writeS s r (Int.toNat n) (List.take ((Int.toNat (((1 : Int) + m) + (8 : Int))) - (0 : Nat)) (List.drop (0 : Nat) t'))) = s2))
    (h14 : ((Go.Num.writeR s r (Int.toNat n) (List.take ((Int.toNat (((1 : Int) + m) + (8 : Int))) - (0 : Nat)) (List.drop (0 : Nat) t'))) = r2))
    (h15 : ((n + (((List.length (List.take ((Int.toNat (((1 : Int) + m) + (8 : Int))) - (0 : Nat)) (List.drop (0 : Nat) t'))) : Nat) : Int)) = n2)) :
    ∃ ps, runO Tryd.prog DS gamS 100 Tryd.f18 ([.fixed 50 (hashP s r n)], [.one (.ref 0 0)]) [.loop (loopL DS (smSn s r z t n m [slI 20 (0 : Nat)]) (.exit 0) (smSn s r z t' n m [])), .loop (loopL DS (sm2Sn s r z s2 r2 z n n2 [slI 48 (0 : Nat)]) (.exit 2) (sm2Sn s r z s2 r2 o n n2 []))] (.v (.agg [.arr .u8 32 o])) [.fixed 50 (hashP s r n)] = some ps ∧ AllQ ps := ⟨_, sm_run_r s r z t t' s2 r2 o n n2 m, AllP.all ⟨h1, h2, h3, (show ((0 : Int) = (((0 : Nat) : Nat) : Int)) from by decide), rfl, rfl, rfl, h4, h4, h5, h6, h7, (show ((0 : Int) ≤ (0 : Int)) from by decide), h8, h9, (show ((0 : Int) < (((72 : Nat) : Nat) : Int)) from by decide), rfl, rfl, rfl, rfl, h10, h11, h12, (show ((0 : Int) = (((0 : Nat) : Nat) : Int)) from by decide), rfl, rfl, rfl, rfl, rfl, h13, h14, h15, rfl, rfl, rfl, rfl⟩⟩

theorem sm_nil_r (o : List Int) : runO Tryd.prog DS gamS 100 Tryd.f18 ([], [.one .nilp]) [] (.v (.agg [.arr .u8 32 o])) [] =
    some [(((0 : Int) :: ((0 : Int) :: ((0 : Int) :: ((0 : Int) :: ((0 : Int) :: ((0 : Int) :: ((0 : Int) :: ((0 : Int) :: ((0 : Int) :: ((0 : Int) :: ((0 : Int) :: ((0 : Int) :: ((0 : Int) :: ((0 : Int) :: ((0 : Int) :: ((0 : Int) :: ((0 : Int) :: ((0 : Int) :: ((0 : Int) :: ((0 : Int) :: ((0 : Int) :: ((0 : Int) :: ((0 : Int) :: ((0 : Int) :: ((0 : Int) :: ((0 : Int) :: ((0 : Int) :: ((0 : Int) :: ((0 : Int) :: ((0 : Int) :: ((0 : Int) :: ((0 : Int) :: ([] : List (Int)))))))))))))))))))))))))))))))))) = o)] := by kernel_rfl
theorem sm_nil (o : List Int)
    (h1 : (((0 : Int) :: ((0 : Int) :: ((0 : Int) :: ((0 : Int) :: ((0 : Int) :: ((0 : Int) :: ((0 : Int) :: ((0 : Int) :: ((0 : Int) :: ((0 : Int) :: ((0 : Int) :: ((0 : Int) :: ((0 : Int) :: ((0 : Int) :: ((0 : Int) :: ((0 : Int) :: ((0 : Int) :: ((0 : Int) :: ((0 : Int) :: ((0 : Int) :: ((0 : Int) :: ((0 : Int) :: ((0 : Int) :: ((0 : Int) :: ((0 : Int) :: ((0 : Int) :: ((0 : Int) :: ((0 : Int) :: ((0 : Int) :: ((0 : Int) :: ((0 : Int) :: ((0 : Int) :: ([] : List (Int)))))))))))))))))))))))))))))))))) = o)) :
    ∃ ps, runO Tryd.prog DS gamS 100 Tryd.f18 ([], [.one .nilp]) [] (.v (.agg [.arr .u8 32 o])) [] = some ps ∧ AllQ ps := ⟨_, sm_nil_r o, AllP.all h1⟩

theorem len_run_r (s r : List Int) (n : Int) : runO Tryd.prog DS [] 100 Tryd.f19 ([.fixed 50 (hashP s r n)], [.one (.ref 0 0)]) [] (.v (.one (.int .i64 false n))) [.fixed 50 (hashP s r n)] =
    some [(n = n), (s = s), (r = r), (n = n)] := by kernel_rfl
theorem len_run (s r : List Int) (n : Int) :
    ∃ ps, runO Tryd.prog DS [] 100 Tryd.f19 ([.fixed 50 (hashP s r n)], [.one (.ref 0 0)]) [] (.v (.one (.int .i64 false n))) [.fixed 50 (hashP s r n)] = some ps ∧ AllQ ps := ⟨_, len_run_r s r n, AllP.all ⟨rfl, rfl, rfl, rfl⟩⟩

theorem len_nil_r (n : Int) : runO Tryd.prog DS [] 100 Tryd.f19 ([], [.one .nilp]) [] (.v (.one (.int .i64 false n))) [] =
    some [((0 : Int) = n)] := by kernel_rfl
theorem len_nil (n : Int)
    (h1 : ((0 : Int) = n)) :
    ∃ ps, runO Tryd.prog DS [] 100 Tryd.f19 ([], [.one .nilp]) [] (.v (.one (.int .i64 false n))) [] = some ps ∧ AllQ ps := ⟨_, len_nil_r n, AllP.all h1⟩

theorem rst_run_r (s r z8 z64 : List Int) (n n0 : Int) : runO Tryd.prog DS [] 100 Tryd.f20 ([.fixed 50 (hashP s r n)], [.one (.ref 0 0)]) [] (.tup []) [.fixed 50 (hashP z8 z64 n0)] =
    some [(((0 : Int) :: ((0 : Int) :: ((0 : Int) :: ((0 : Int) :: ((0 : Int) :: ((0 : Int) :: ((0 : Int) :: ((0 : Int) :: ([] : List (Int)))))))))) = z8), (((0 : Int) :: ((0 : Int) :: ((0 : Int) :: ((0 : Int) :: ((0 : Int) :: ((0 : Int) :: ((0 : Int) :: ((0 : Int) :: ((0 : Int) :: ((0 : Int) :: ((0 : Int) :: ((0 : Int) :: ((0 : Int) :: ((0 : Int) :: ((0 : Int) :: ((0 : Int) :: ((0 : Int) :: ((0 : Int) :: ((0 : Int) :: ((0 : Int) :: ((0 : Int) :: ((0 : Int) :: ((0 : Int) :: ((0 : Int) :: ((0 : Int) :: ((0 : Int) :: ((0 : Int) :: ((0 : Int) :: ((0 : Int) :: ((0 : Int) :: ((0 : Int) :: ((0 : Int) :: ((0 : Int) :: ((0 : Int) :: ((0 : Int) :: ((0 : Int) :: ((0 : Int) :: ((0 : Int) :: ((0 : Int) :: ((0 : Int) :: ((0 : Int) :: ((0 : Int) :: ((0 : Int) :: ((0 : Int) :: ((0 : Int) :: ((0 : Int) :: ((0 : Int) :: ((0 : Int) :: ((0 : Int) :: ((0 : Int) :: ((0 : Int) :: ((0 : Int) :: ((0 : Int) :: ((0 : Int) :: ((0 : Int) :: ((0 : Int) :: ((0 : Int) :: ((0 : Int) :: ((0 : Int) :: ((0 : Int) :: ((0 : Int) :: ((0 : Int) :: ((0 : Int) :: ((0 : Int) :: ([] : List (Int)))))))))))))))))))))))))))))))))))))))))))))))))))))))))))))))))) = z64), ((0 : Int) = n0)] := by kernel_rfl
theorem rst_run (s r z8 z64 : List Int) (n n0 : Int)
    (h1 : (((0 : Int) :: ((0 : Int) :: ((0 : Int) :: ((0 : Int) :: ((0 : Int) :: ((0 : Int) :: ((0 : Int) :: ((0 : Int) :: ([] : List (Int)))))))))) = z8))
    (h2 : (((0 : Int) :: ((0 : Int) :: ((0 : Int) :: ((0 : Int) :: ((0 : Int) :: ((0 : Int) :: ((0 : Int) :: ((0 : Int) :: ((0 : Int) :: ((0 : Int) :: ((0 : Int) :: ((0 : Int) :: ((0 : Int) :: ((0 : Int) :: ((0 : Int) :: ((0 : Int) :: ((0 : Int) :: ((0 : Int) :: ((0 : Int) :: ((0 : Int) :: ((0 : Int) :: ((0 : Int) :: ((0 : Int) :: ((0 : Int) :: ((0 : Int) :: ((0 : Int) :: ((0 : Int) :: ((0 : Int) :: ((0 : Int) :: ((0 : Int) :: ((0 : Int) :: ((0 : Int) :: ((0 : Int) :: ((0 : Int) :: ((0 : Int) :: ((0 : Int) :: ((0 : Int) :: ((0 : Int) :: ((0 : Int) :: ((0 : Int) :: ((0 : Int) :: ((0 : Int) :: ((0 : Int) :: ((0 : Int) :: ((0 : Int) :: ((0 : Int) :: ((0 : Int) :: ((0 : Int) :: ((0 : Int) :: ((0 : Int) :: ((0 : Int) :: ((0 : Int) :: ((0 : Int) :: ((0 : Int) :: ((0 : Int) :: ((0 : Int) :: ((0 : Int) :: ((0 : Int) :: ((0 : Int) :: ((0 : Int) :: ((0 : Int) :: ((0 : Int) :: ((0 : Int) :: ((0 : Int) :: ([] : List (Int)))))))))))))))))))))))))))))))))))))))))))))))))))))))))))))))))) = z64))
    (h3 : ((0 : Int) = n0)) :
    ∃ ps, runO Tryd.prog DS [] 100 Tryd.f20 ([.fixed 50 (hashP s r n)], [.one (.ref 0 0)]) [] (.tup []) [.fixed 50 (hashP z8 z64 n0)] = some ps ∧ AllQ ps := ⟨_, rst_run_r s r z8 z64 n n0, AllP.all ⟨h1, h2, h3⟩⟩

theorem rst_nil_r  : runO Tryd.prog DS [] 100 Tryd.f20 ([], [.one .nilp]) [] (.tup []) [] =
    some [] := by kernel_rfl
theorem rst_nil  :
    ∃ ps, runO Tryd.prog DS [] 100 Tryd.f20 ([], [.one .nilp]) [] (.tup []) [] = some ps ∧ AllQ ps := ⟨_, rst_nil_r , allQ_nil⟩

theorem new_run_r (z8 z64 : List Int) (n0 : Int) : runO Tryd.prog DS [] 100 Tryd.f16 ([], []) [] (.v (.one (.ref 0 0))) [.fixed 50 (hashP z8 z64 n0)] =
    some [(((0 : Int) :: ((0 : Int) :: ((0 : Int) :: ((0 : Int) :: ((0 : Int) :: ((0 : Int) :: ((0 : Int) :: ((0 : Int) :: ([] : List (Int)))))))))) = z8), (((0 : Int) :: ((0 : Int) :: ((0 : Int) :: ((0 : Int) :: ((0 : Int) :: ((0 : Int) :: ((0 : Int) :: ((0 : Int) :: ((0 : Int) :: ((0 : Int) :: ((0 : Int) :: ((0 : Int) :: ((0 : Int) :: ((0 : Int) :: ((0 : Int) :: ((0 : Int) :: ((0 : Int) :: ((0 : Int) :: ((0 : Int) :: ((0 : Int) :: ((0 : Int) :: ((0 : Int) :: ((0 : Int) :: ((0 : Int) :: ((0 : Int) :: ((0 : Int) :: ((0 : Int) :: ((0 : Int) :: ((0 : Int) :: ((0 : Int) :: ((0 : Int) :: ((0 : Int) :: ((0 : Int) :: ((0 : Int) :: ((0 : Int) :: ((0 : Int) :: ((0 : Int) :: ((0 : Int) :: ((0 : Int) :: ((0 : Int) :: ((0 : Int) :: ((0 : Int) :: ((0 : Int) :: ((0 : Int) :: ((0 : Int) :: ((0 : Int) :: ((0 : Int) :: ((0 : Int) :: ((0 : Int) :: ((0 : Int) :: ((0 : Int) :: ((0 : Int) :: ((0 : Int) :: ((0 : Int) :: ((0 : Int) :: ((0 : Int) :: ((0 : Int) :: ((0 : Int) :: ((0 : Int) :: ((0 : Int) :: ((0 : Int) :: ((0 : Int) :: ((0 : Int) :: ((0 : Int) :: ([] : List (Int)))))))))))))))))))))))))))))))))))))))))))))))))))))))))))))))))) = z64), ((0 : Int) = n0)] := by kernel_rfl
theorem new_run (z8 z64 : List Int) (n0 : Int)
    (h1 : (((0 : Int) :: ((0 : Int) :: ((0 : Int) :: ((0 : Int) :: ((0 : Int) :: ((0 : Int) :: ((0 : Int) :: ((0 : Int) :: ([] : List (Int)))))))))) = z8))
    (h2 : (((0 : Int) :: ((0 : Int) :: ((0 : Int) :: ((0 : Int) :: ((0 : Int) :: ((0 : Int) :: ((0 : Int) :: ((0 : Int) :: ((0 : Int) :: ((0 : Int) :: ((0 : Int) :: ((0 : Int) :: ((0 : Int) :: ((0 : Int) :: ((0 : Int) :: ((0 : Int) :: ((0 : Int) :: ((0 : Int) :: ((0 : Int) :: ((0 : Int) :: ((0 : Int) :: ((0 : Int) :: ((0 : Int) :: ((0 : Int) :: ((0 : Int) :: ((0 : Int) :: ((0 : Int) :: ((0 : Int) :: ((0 : Int) :: ((0 : Int) :: ((0 : Int) :: ((0 : Int) :: ((0 : Int) :: ((0 : Int) :: ((0 : Int) :: ((0 : Int) :: ((0 : Int) :: ((0 : Int) :: ((0 : Int) :: ((0 : Int) :: ((0 : Int) :: ((0 : Int) :: ((0 : Int) :: ((0 : Int) :: ((0 : Int) :: ((0 : Int) :: ((0 : Int) :: ((0 : Int) :: ((0 : Int) :: ((0 : Int) :: ((0 : Int) :: ((0 : Int) :: ((0 : Int) :: ((0 : Int) :: ((0 : Int) :: ((0 : Int) :: ((0 : Int) :: ((0 : Int) :: ((0 : Int) :: ((0 : Int) :: ((0 : Int) :: ((0 : Int) :: ((0 : Int) :: ((0 : Int) :: ([] : List (Int)))))))))))))))))))))))))))))))))))))))))))))))))))))))))))))))))) = z64))
    (h3 : ((0 : Int) = n0)) :
    ∃ ps, runO Tryd.prog DS [] 100 Tryd.f16 ([], []) [] (.v (.one (.ref 0 0))) [.fixed 50 (hashP z8 z64 n0)] = some ps ∧ AllQ ps := ⟨_, new_run_r z8 z64 n0, AllP.all ⟨h1, h2, h3⟩⟩

/-- What is laid behind a text of N bytes: how many noughts, the bytes. -/
def padN (N : Nat) : Nat := (119 - N % 64) % 64

def tail0 : List Int := 128 :: List.replicate 71 0

def tailS (N : Nat) : Nat → List Int
  | 0 => tail0
  | i + 1 => (tailS N i).set ((1 + (padN N : Int)) + (i : Int)).toNat (IntKind.u8.wrap (Int.fdiv (IntKind.u64.wrap (IntKind.u64.wrap (N : Int) * 8)) (2 ^ min (56 - 8 * (i : Int)).toNat 64)))

def tailF (N : Nat) : List Int := (tailS N 8).take (padN N + 9)

def outS (s : List Int) : Nat → List Int
  | 0 => List.replicate 32 0
  | i + 1 => (outS s i).set (i : Int).toNat (IntKind.u8.wrap (Int.fdiv (s.getD (IntKind.i64.wrap (Int.tdiv (i : Int) 4)).toNat 0) (2 ^ min (24 - 8 * Int.tmod (i : Int) 4).toNat 32)))

/-- The digest of a hash. -/
def sumF (s r : List Int) (N : Nat) : List Int := outS (writeS s r N (tailF N)) 32

theorem tailS_len (N : Nat) : ∀ i, (tailS N i).length = 72
  | 0 => rfl
  | i + 1 => by simp [tailS, tailS_len N i]

theorem tailF_len (N : Nat) : (tailF N).length = padN N + 9 := by
  unfold tailF
  rw [List.length_take, tailS_len]
  unfold padN
  omega

theorem sm_loop1 (s r z : List Int) (N : Nat) : SumOK Tryd.prog DS (bodyN Tryd.f18 0) (loopL DS (smSn s r z tail0 N (padN N) [slI 20 (0 : Nat)]) (.exit 0) (smSn s r z (tailS N 8) N (padN N) [])) := by
  have hp : padN N < 64 := by unfold padN; omega
  refine sum_loop gamS_ok mixed (fun i => smSn s r z (tailS N i) N (padN N) [slI 20 i]) 8 rfl (fun i hi => ?_) ?_
  · exact ⟨_, _, _, sm_round s r z (tailS N i) (tailS N (i + 1)) N (padN N) i (decide_eq_true (by omega)) (inI64_small (by omega) (by omega)) (inI64_small (by omega) (by omega)) (inI64_small (by omega) (by omega)) (inI64_small (by omega) (by omega)) (by omega) (by omega) (by omega) (inI64_small (by omega) (by omega)) rfl⟩
  · exact ⟨_, _, _, sm_exit s r z (tailS N 8) N (padN N) 8 (decide_eq_false (by omega))⟩

theorem tdiv_small (i : Nat) : IntKind.i64.wrap (Int.tdiv (i : Int) 4) = ((i / 4 : Nat) : Int) ∨ 9223372036854775807 < i := by
  by_cases h : i ≤ 9223372036854775807
  · left
    rw [Int.tdiv_eq_ediv_of_nonneg (by omega)]
    have : ((i : Int) / 4) = ((i / 4 : Nat) : Int) := by omega
    rw [this, IntKind.wrap_i64]
    omega
  · right; omega

theorem tmod_nat (i k : Nat) : Int.tmod (i : Int) (k : Int) = ((i % k : Nat) : Int) := by
  rw [Int.tmod_eq_emod_of_nonneg (by omega)]; omega

theorem sm_loop2 (s r z s2 r2 : List Int) (n n2 : Int) : SumOK Tryd.prog DS (bodyN Tryd.f18 1) (loopL DS (sm2Sn s r z s2 r2 (outS s2 0) n n2 [slI 48 (0 : Nat)]) (.exit 2) (sm2Sn s r z s2 r2 (outS s2 32) n n2 [])) := by
  refine sum_loop gamS_ok mixed (fun i => sm2Sn s r z s2 r2 (outS s2 i) n n2 [slI 48 i]) 32 rfl (fun i hi => ?_) ?_
  · have hm : Int.tmod (i : Int) 4 = ((i % 4 : Nat) : Int) := tmod_nat i 4
    have hd : IntKind.i64.wrap (Int.tdiv (i : Int) 4) = ((i / 4 : Nat) : Int) := by
      rcases tdiv_small i with h | h
      · exact h
      · omega
    refine ⟨_, _, _, sm2_round s r z s2 r2 (outS s2 i) (outS s2 (i + 1)) n n2 i (decide_eq_true (by omega)) (by rw [hd]; omega) (by rw [hd]; omega) (by rw [hm]; exact inI64_small (by omega) (by omega)) (by rw [hm]; exact inI64_small (by omega) (by omega)) (by rw [hm]; omega) (by omega) (by omega) (inI64_small (by omega) (by omega)) rfl⟩
  · exact ⟨_, _, _, sm2_exit s r z s2 r2 (outS s2 32) n n2 32 (decide_eq_false (by omega))⟩

/-- A hash, or none. -/
inductive HsT where
  | nil
  | one (s r : List Int) (n : Int)

def hsRd : List (BoxSt DS.τ) → List (A0 DS.τ) → Option HsT
  | [], [.one .nilp] => some .nil
  | [.fixed _ ps], [.one (.ref 0 0)] => match hashOf ps with
    | some (s, r, n) => some (.one s r n)
    | none => none
  | _, _ => none

def hsPre : HsT → List (BoxSt DS.τ) × List (A0 DS.τ)
  | .nil => ([], [.one .nilp])
  | .one s r n => ([.fixed 50 (hashP s r n)], [.one (.ref 0 0)])

def smPost : HsT → Option (AV DS.τ × List (BoxSt DS.τ) × List Prop)
  | .nil => some (.v (.agg [.arr .u8 32 (List.replicate 32 0)]), [], [])
  | .one s r n => some (.v (.agg [.arr .u8 32 (sumF s r n.toNat)]), [.fixed 50 (hashP s r n)], [0 ≤ n, n ≤ 4611686018427387904])

noncomputable def smD := mkF DS Tryd.f18.ntmps hsRd hsPre smPost

theorem sum_ok : OpOK Tryd.prog DS 18 smD := by
  refine opOK_mk gamS_ok mixed Tryd.func18 (enters_of Tryd.func18 (by kernel_rfl) rfl) ?_
  rintro (_ | ⟨s, r, n⟩) r' bs' ps h hps
  · simp only [smPost, Option.some.injEq, Prod.mk.injEq] at h
    obtain ⟨rfl, rfl, rfl⟩ := h
    exact ⟨_, _, sm_nil _ rfl⟩
  · simp only [smPost, Option.some.injEq, Prod.mk.injEq] at h
    obtain ⟨rfl, rfl, rfl⟩ := h
    have h0 : 0 ≤ n := hps _ (by simp)
    have h1 : n ≤ 4611686018427387904 := hps _ (by simp)
    obtain ⟨N, rfl⟩ : ∃ N : Nat, n = N := ⟨n.toNat, by omega⟩
    simp only [Int.toNat_natCast]
    have hm : Int.tmod (N : Int) 64 = ((N % 64 : Nat) : Int) := tmod_nat N 64
    have hp : padN N < 64 := by unfold padN; omega
    have hq : Int.tmod (119 - Int.tmod (N : Int) 64) 64 = (padN N : Int) := by
      rw [hm, show (119 - ((N % 64 : Nat) : Int)) = ((119 - N % 64 : Nat) : Int) from by omega]
      exact tmod_nat _ 64
    have ht : List.take ((Int.toNat ((1 + (padN N : Int)) + 8)) - Int.toNat 0) (List.drop (Int.toNat 0) (tailS N 8)) = tailF N := by
      unfold tailF
      rw [show (Int.toNat ((1 + (padN N : Int)) + 8)) - Int.toNat 0 = padN N + 9 from by omega]
      rfl
    refine ⟨_, _, sm_run s r (List.replicate 32 0) tail0 (tailS N 8) (writeS s r N (tailF N)) (writeR s r N (tailF N)) (sumF s r N) N ((N : Int) + (tailF N).length) (padN N) ?_ (sm_loop1 _ _ _ N) hq rfl rfl ?_ ?_ (by omega) (by omega) (by omega) ?_ (sm_loop2 _ _ _ _ _ _ _) ?_ ?_ ?_⟩
    · rw [hm]; exact inI64_small (by omega) (by omega)
    · exact inI64_small (by omega) (by omega)
    · exact inI64_small (by omega) (by omega)
    · erw [ht]; rw [tailF_len]; omega
    · erw [ht]; rfl
    · erw [ht]; rfl
    · erw [ht]

def lnPost : HsT → Option (AV DS.τ × List (BoxSt DS.τ) × List Prop)
  | .nil => some (.v (.one (.int .i64 false 0)), [], [])
  | .one s r n => some (.v (.one (.int .i64 false n)), [.fixed 50 (hashP s r n)], [])

noncomputable def lnD := mkF DS Tryd.f19.ntmps hsRd hsPre lnPost

theorem len_ok : OpOK Tryd.prog DS 19 lnD := by
  refine opOK_mk gam_nil mixed Tryd.func19 (enters_of Tryd.func19 (by kernel_rfl) rfl) ?_
  rintro (_ | ⟨s, r, n⟩) r' bs' ps h hps
  · simp only [lnPost, Option.some.injEq, Prod.mk.injEq] at h
    obtain ⟨rfl, rfl, rfl⟩ := h
    exact ⟨_, _, len_nil _ rfl⟩
  · simp only [lnPost, Option.some.injEq, Prod.mk.injEq] at h
    obtain ⟨rfl, rfl, rfl⟩ := h
    exact ⟨_, _, len_run s r n⟩

def zero8 : List Int := List.replicate 8 0
def zero64 : List Int := List.replicate 64 0

def rsPost : HsT → Option (AV DS.τ × List (BoxSt DS.τ) × List Prop)
  | .nil => some (.tup [], [], [])
  | .one _ _ _ => some (.tup [], [.fixed 50 (hashP zero8 zero64 0)], [])

noncomputable def rsD := mkF DS Tryd.f20.ntmps hsRd hsPre rsPost

theorem reset_ok : OpOK Tryd.prog DS 20 rsD := by
  refine opOK_mk gam_nil mixed Tryd.func20 (enters_of Tryd.func20 (by kernel_rfl) rfl) ?_
  rintro (_ | ⟨s, r, n⟩) r' bs' ps h hps
  · simp only [rsPost, Option.some.injEq, Prod.mk.injEq] at h
    obtain ⟨rfl, rfl, rfl⟩ := h
    exact ⟨_, _, rst_nil⟩
  · simp only [rsPost, Option.some.injEq, Prod.mk.injEq] at h
    obtain ⟨rfl, rfl, rfl⟩ := h
    exact ⟨_, _, rst_run s r zero8 zero64 n 0 rfl rfl rfl⟩

def nwRd : List (BoxSt DS.τ) → List (A0 DS.τ) → Option Unit
  | [], [] => some ()
  | _, _ => none

noncomputable def nwD := mkF DS Tryd.f16.ntmps nwRd (fun _ => ([], [])) (fun _ => some (.v (.one (.ref 0 0)), [.fixed 50 (hashP zero8 zero64 0)], []))

theorem new_ok : OpOK Tryd.prog DS 16 nwD := by
  refine opOK_mk gam_nil mixed Tryd.func16 (enters_of Tryd.func16 (by kernel_rfl) rfl) ?_
  rintro ⟨⟩ r' bs' ps h hps
  simp only [Option.some.injEq, Prod.mk.injEq] at h
  obtain ⟨rfl, rfl, rfl⟩ := h
  exact ⟨_, _, new_run zero8 zero64 0 rfl rfl rfl⟩

end Go.Num
