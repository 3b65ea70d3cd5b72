/- SHA-256: the reference's Sum, its runs. -/
import Derived.Test.YtjglidfemgodiaaDoorS5
namespace Go.Num
open Go.Abs Go.Proofs Go.Shelf

noncomputable def gamR : Gam DS := [(27, .fn primesD), (28, .fn cubeD), (29, .fn squareD), (30, .fn turnD), (10, .fn (copyD DS))]

theorem gamR_ok : GamOK Tryd.prog DS gamR := gam_cons primes_ok (gam_cons cube_ok (gam_cons square_ok (gam_cons turn_ok (gam_cons (copy_ok DS) gam_nil))))

def rf0Sn (l p k h : List Int) (i : Int) : Sn DS.τ where
  slots := [(0, .v (.one (.words .u8 l))), (3, .v (.one (.own 0))), (4, .v (.one (.own 1))), (5, .v (.one (.own 2))), slI 6 i]
  boxes := [(0, .dyn 55 (.ints .u64 p)), (1, .dyn 46 (.ints .u32 k)), (2, .dyn 46 (.ints .u32 h))]
  nt := 349

def rf1Sn (l k h m : List Int) (sl : List (Nat × AV DS.τ)) : Sn DS.τ where
  slots := [(0, .v (.one (.words .u8 l))), (4, .v (.one (.own 1))), (5, .v (.one (.own 2))), (7, .v (.one (.own 3)))] ++ sl
  boxes := [(1, .dyn 46 (.ints .u32 k)), (2, .dyn 46 (.ints .u32 h)), (3, .dyn 5 (.ints .u8 m))]
  nt := 349

def rf3Sn (k h m : List Int) (sl : List (Nat × AV DS.τ)) : Sn DS.τ where
  slots := [(4, .v (.one (.own 1))), (5, .v (.one (.own 2))), (7, .v (.one (.own 3)))] ++ sl
  boxes := [(1, .dyn 46 (.ints .u32 k)), (2, .dyn 46 (.ints .u32 h)), (3, .dyn 5 (.ints .u8 m))]
  nt := 349

def rf4Sn (k h m w : List Int) (at' : Int) (sl : List (Nat × AV DS.τ)) : Sn DS.τ where
  slots := [(4, .v (.one (.own 1))), (5, .v (.one (.own 2))), (7, .v (.one (.own 3))), slI 10 at', (11, .v (.one (.own 4)))] ++ sl
  boxes := [(1, .dyn 46 (.ints .u32 k)), (2, .dyn 46 (.ints .u32 h)), (3, .dyn 5 (.ints .u8 m)), (4, .dyn 46 (.ints .u32 w))]
  nt := 349

def rf6Sn (k h m w v : List Int) (at' : Int) (sl : List (Nat × AV DS.τ)) : Sn DS.τ where
  slots := [(4, .v (.one (.own 1))), (5, .v (.one (.own 2))), (7, .v (.one (.own 3))), slI 10 at', (11, .v (.one (.own 4))), (17, .v (.one (.own 5)))] ++ sl
  boxes := [(1, .dyn 46 (.ints .u32 k)), (2, .dyn 46 (.ints .u32 h)), (3, .dyn 5 (.ints .u8 m)), (4, .dyn 46 (.ints .u32 w)), (5, .dyn 46 (.ints .u32 v))]
  nt := 349

def rf8Sn (h o : List Int) (i : Int) : Sn DS.τ where
  slots := [(5, .v (.one (.own 2))), (22, .v (.one (.own 6))), slI 23 i]
  boxes := [(2, .dyn 46 (.ints .u32 h)), (6, .dyn 5 (.ints .u8 o))]
  nt := 349

def rfEnd (o : List Int) : Sn DS.τ where
  slots := [(22, .v (.one (.own 6)))]
  boxes := [(6, .dyn 5 (.ints .u8 o))]
  nt := 349

theorem rf0_a_r (l p k h k' h' : List Int) (i : Nat) : stepPs Tryd.prog DS gamR 100 (bodyN Tryd.f13 0) 100 (rf0Sn l p k h i).st [.is true, .is true] .normal (rf0Sn l p k' h' ((i : Int) + 1)) =
    some [((decide (((i : Nat) : Int) < (64 : Int))) = Bool.true), ((0 : Int) ≤ ((i : Nat) : Int)), (((i : Nat) : Int) < (((List.length p) : Nat) : Int)), ((Int.toNat ((i : Nat) : Int)) < (List.length p)), (((List.length k) + (1 : Nat)) ≤ (9223372036854775807 : Nat)), ((((List.length k) + (1 : Nat)) * (4 : Nat)) ≤ (140737488355328 : Nat)), ((decide (((i : Nat) : Int) < (8 : Int))) = Bool.true), ((0 : Int) ≤ ((i : Nat) : Int)), (((i : Nat) : Int) < (((List.length p) : Nat) : Int)), ((Int.toNat ((i : Nat) : Int)) < (List.length p)), (((List.length h) + (1 : Nat)) ≤ (9223372036854775807 : Nat)), ((((List.length h) + (1 : Nat)) * (4 : Nat)) ≤ (140737488355328 : Nat)), (Go.Abs.InI64 (((i : Nat) : Int) + (1 : Int))), (l = l), ((((i : Nat) : Int) + (1 : Int)) = (((i : Nat) : Int) + (1 : Int))), (p = p), ((k ++ ((Go.Num.cubeF (List.getD p (Int.toNat ((i : Nat) : Int)) (0 : Int))) :: ([] : List (Int)))) = k'), ((h ++ ((Go.Num.squareF (List.getD p (Int.toNat ((i : Nat) : Int)) (0 : Int))) :: ([] : List (Int)))) = h')] := by kernel_rfl
theorem rf0_a (l p k h k' h' : List Int) (i : Nat)
    (h1 : ((decide (((i : Nat) : Int) < (64 : Int))) = Bool.true))
    (h2 : ((0 : Int) ≤ ((i : Nat) : Int)))
    (h3 : (((i : Nat) : Int) < (((List.length p) : Nat) : Int)))
    (h4 : ((Int.toNat ((i : Nat) : Int)) < (List.length p)))
    (h5 : (((List.length k) + (1 : Nat)) ≤ (9223372036854775807 : Nat)))
    (h6 : ((((List.length k) + (1 : Nat)) * (4 : Nat)) ≤ (140737488355328 : Nat)))
    (h7 : ((decide (((i : Nat) : Int) < (8 : Int))) = Bool.true))
    (h8 : (((List.length h) + (1 : Nat)) ≤ (9223372036854775807 : Nat)))
    (h9 : ((((List.length h) + (1 : Nat)) * (4 : Nat)) ≤ (140737488355328 : Nat)))
    (h10 : (Go.Abs.InI64 (((i : Nat) : Int) + (1 : Int))))
    (h11 : ((k ++ ((Go.Num.cubeF (List.getD p (Int.toNat ((i : Nat) : Int)) (0 : Int))) :: ([] : List (Int)))) = k'))
    (h12 : ((h ++ ((Go.Num.squareF (List.getD p (Int.toNat ((i : Nat) : Int)) (0 : Int))) :: ([] : List (Int)))) = h')) :
    ∃ ps, stepPs Tryd.prog DS gamR 100 (bodyN Tryd.f13 0) 100 (rf0Sn l p k h i).st [.is true, .is true] .normal (rf0Sn l p k' h' ((i : Int) + 1)) = some ps ∧ AllQ ps := ⟨_, rf0_a_r l p k h k' h' i, AllP.all ⟨h1, h2, h3, h4, h5, h6, h7, h2, h3, h4, h8, h9, h10, rfl, rfl, rfl, h11, h12⟩⟩

theorem rf0_b_r (l p k h k' h' : List Int) (i : Nat) : stepPs Tryd.prog DS gamR 100 (bodyN Tryd.f13 0) 100 (rf0Sn l p k h i).st [.is true, .is false] .normal (rf0Sn l p k' h' ((i : Int) + 1)) =
    some [((decide (((i : Nat) : Int) < (64 : Int))) = Bool.true), ((0 : Int) ≤ ((i : Nat) : Int)), (((i : Nat) : Int) < (((List.length p) : Nat) : Int)), ((Int.toNat ((i : Nat) : Int)) < (List.length p)), (((List.length k) + (1 : Nat)) ≤ (9223372036854775807 : Nat)), ((((List.length k) + (1 : Nat)) * (4 : Nat)) ≤ (140737488355328 : Nat)), ((decide (((i : Nat) : Int) < (8 : Int))) = Bool.false), (Go.Abs.InI64 (((i : Nat) : Int) + (1 : Int))), (l = l), ((((i : Nat) : Int) + (1 : Int)) = (((i : Nat) : Int) + (1 : Int))), (p = p), ((k ++ ((Go.Num.cubeF (List.getD p (Int.toNat ((i : Nat) : Int)) (0 : Int))) :: ([] : List (Int)))) = k'), (h = h')] := by kernel_rfl
theorem rf0_b (l p k h k' h' : List Int) (i : Nat)
    (h1 : ((decide (((i : Nat) : Int) < (64 : Int))) = Bool.true))
    (h2 : ((0 : Int) ≤ ((i : Nat) : Int)))
    (h3 : (((i : Nat) : Int) < (((List.length p) : Nat) : Int)))
    (h4 : ((Int.toNat ((i : Nat) : Int)) < (List.length p)))
    (h5 : (((List.length k) + (1 : Nat)) ≤ (9223372036854775807 : Nat)))
    (h6 : ((((List.length k) + (1 : Nat)) * (4 : Nat)) ≤ (140737488355328 : Nat)))
    (h7 : ((decide (((i : Nat) : Int) < (8 : Int))) = Bool.false))
    (h8 : (Go.Abs.InI64 (((i : Nat) : Int) + (1 : Int))))
    (h9 : ((k ++ ((Go.Num.cubeF (List.getD p (Int.toNat ((i : Nat) : Int)) (0 : Int))) :: ([] : List (Int)))) = k'))
    (h10 : (h = h')) :
    ∃ ps, stepPs Tryd.prog DS gamR 100 (bodyN Tryd.f13 0) 100 (rf0Sn l p k h i).st [.is true, .is false] .normal (rf0Sn l p k' h' ((i : Int) + 1)) = some ps ∧ AllQ ps := ⟨_, rf0_b_r l p k h k' h' i, AllP.all ⟨h1, h2, h3, h4, h5, h6, h7, h8, rfl, rfl, rfl, h9, h10⟩⟩

theorem rf0_x_r (l p k h : List Int) (i : Nat) : stepPs Tryd.prog DS gamR 100 (bodyN Tryd.f13 0) 100 (rf0Sn l p k h i).st [.is false] (.exit 0) (rf0Sn l p k h i) =
    some [((decide (((i : Nat) : Int) < (64 : Int))) = Bool.false), (l = l), (((i : Nat) : Int) = ((i : Nat) : Int)), (p = p), (k = k), (h = h)] := by kernel_rfl
theorem rf0_x (l p k h : List Int) (i : Nat)
    (h1 : ((decide (((i : Nat) : Int) < (64 : Int))) = Bool.false)) :
    ∃ ps, stepPs Tryd.prog DS gamR 100 (bodyN Tryd.f13 0) 100 (rf0Sn l p k h i).st [.is false] (.exit 0) (rf0Sn l p k h i) = some ps ∧ AllQ ps := ⟨_, rf0_x_r l p k h i, AllP.all ⟨h1, rfl, rfl, rfl, rfl, rfl⟩⟩

theorem rf1_r_r (l k h m m' : List Int) : stepPs Tryd.prog DS gamR 100 (bodyN Tryd.f13 1) 100 (rf1Sn l k h m []).st [.is true] .normal (rf1Sn l k h m' []) =
    some [(((Int.tmod (((List.length m) : Nat) : Int) (64 : Int)) != (56 : Int)) = Bool.true), (((List.length m) + (1 : Nat)) ≤ (9223372036854775807 : Nat)), ((((List.length m) + (1 : Nat)) * (1 : Nat)) ≤ (140737488355328 : Nat)), (l = l), (k = k), (h = h), ((m ++ ((0 : Int) :: ([] : List (Int)))) = m')] := by kernel_rfl
theorem rf1_r (l k h m m' : List Int)
    (h1 : (((Int.tmod (((List.length m) : Nat) : Int) (64 : Int)) != (56 : Int)) = Bool.true))
    (h2 : (((List.length m) + (1 : Nat)) ≤ (9223372036854775807 : Nat)))
    (h3 : ((((List.length m) + (1 : Nat)) * (1 : Nat)) ≤ (140737488355328 : Nat)))
    (h4 : ((m ++ ((0 : Int) :: ([] : List (Int)))) = m')) :
    ∃ ps, stepPs Tryd.prog DS gamR 100 (bodyN Tryd.f13 1) 100 (rf1Sn l k h m []).st [.is true] .normal (rf1Sn l k h m' []) = some ps ∧ AllQ ps := ⟨_, rf1_r_r l k h m m', AllP.all ⟨h1, h2, h3, rfl, rfl, rfl, h4⟩⟩

theorem rf1_x_r (l k h m : List Int) : stepPs Tryd.prog DS gamR 100 (bodyN Tryd.f13 1) 100 (rf1Sn l k h m []).st [.is false] (.exit 2) (rf1Sn l k h m []) =
    some [(((Int.tmod (((List.length m) : Nat) : Int) (64 : Int)) != (56 : Int)) = Bool.false), (l = l), (k = k), (h = h), (m = m)] := by kernel_rfl
theorem rf1_x (l k h m : List Int)
    (h1 : (((Int.tmod (((List.length m) : Nat) : Int) (64 : Int)) != (56 : Int)) = Bool.false)) :
    ∃ ps, stepPs Tryd.prog DS gamR 100 (bodyN Tryd.f13 1) 100 (rf1Sn l k h m []).st [.is false] (.exit 2) (rf1Sn l k h m []) = some ps ∧ AllQ ps := ⟨_, rf1_x_r l k h m, AllP.all ⟨h1, rfl, rfl, rfl, rfl⟩⟩

theorem rf2_r_r (l k h m m' : List Int) (z i : Int) : stepPs Tryd.prog DS gamR 100 (bodyN Tryd.f13 2) 100 (rf1Sn l k h m [(8, .v (.one (.int .u64 false z))), slI 9 i]).st [.is true] .normal (rf1Sn l k h m' [(8, .v (.one (.int .u64 false z))), slI 9 (i - 1)]) =
    some [((decide (i ≥ (0 : Int))) = Bool.true), (Go.Abs.InI64 ((8 : Int) * i)), ((0 : Int) ≤ (Go.IntKind.wrap Go.IntKind.u64 ((8 : Int) * i))), (((List.length m) + (1 : Nat)) ≤ (9223372036854775807 : Nat)), ((((List.length m) + (1 : Nat)) * (1 : Nat)) ≤ (140737488355328 : Nat)), (Go.Abs.InI64 (i - (1 : Int))), (l = l), (z = z), ((i - (1 : Int)) = (i - (1 : Int))), (k = k), (h = h), ((m ++ ((Go.IntKind.wrap Go.IntKind.u8 (Int.fdiv z ((2 : Int) ^ (min (Int.toNat (Go.IntKind.wrap Go.IntKind.u64 ((8 : Int) * i))) (64 : Nat))))) :: ([] : List (Int)))) = m')] := by kernel_rfl
theorem rf2_r (l k h m m' : List Int) (z i : Int)
    (h1 : ((decide (i ≥ (0 : Int))) = Bool.true))
    (h2 : (Go.Abs.InI64 ((8 : Int) * i)))
    (h3 : ((0 : Int) ≤ (Go.IntKind.wrap Go.IntKind.u64 ((8 : Int) * i))))
    (h4 : (((List.length m) + (1 : Nat)) ≤ (9223372036854775807 : Nat)))
    (h5 : ((((List.length m) + (1 : Nat)) * (1 : Nat)) ≤ (140737488355328 : Nat)))
    (h6 : (Go.Abs.InI64 (i - (1 : Int))))
    (h7 : ((m ++ ((Go.IntKind.wrap Go.IntKind.u8 (Int.fdiv z ((2 : Int) ^ (min (Int.toNat (Go.IntKind.wrap Go.IntKind.u64 ((8 : Int) * i))) (64 : Nat))))) :: ([] : List (Int)))) = m')) :
    ∃ ps, stepPs Tryd.prog DS gamR 100 (bodyN Tryd.f13 2) 100 (rf1Sn l k h m [(8, .v (.one (.int .u64 false z))), slI 9 i]).st [.is true] .normal (rf1Sn l k h m' [(8, .v (.one (.int .u64 false z))), slI 9 (i - 1)]) = some ps ∧ AllQ ps := ⟨_, rf2_r_r l k h m m' z i, AllP.all ⟨h1, h2, h3, h4, h5, h6, rfl, rfl, rfl, rfl, rfl, h7⟩⟩

theorem rf2_x_r (l k h m : List Int) (z i : Int) : stepPs Tryd.prog DS gamR 100 (bodyN Tryd.f13 2) 100 (rf1Sn l k h m [(8, .v (.one (.int .u64 false z))), slI 9 i]).st [.is false] (.exit 4) (rf3Sn k h m []) =
    some [((decide (i ≥ (0 : Int))) = Bool.false), (k = k), (h = h), (m = m)] := by kernel_rfl
theorem rf2_x (l k h m : List Int) (z i : Int)
    (h1 : ((decide (i ≥ (0 : Int))) = Bool.false)) :
    ∃ ps, stepPs Tryd.prog DS gamR 100 (bodyN Tryd.f13 2) 100 (rf1Sn l k h m [(8, .v (.one (.int .u64 false z))), slI 9 i]).st [.is false] (.exit 4) (rf3Sn k h m []) = some ps ∧ AllQ ps := ⟨_, rf2_x_r l k h m z i, AllP.all ⟨h1, rfl, rfl, rfl⟩⟩

theorem rf4_r_r (k h m w w' : List Int) (at' : Int) (i : Nat) : stepPs Tryd.prog DS gamR 100 (bodyN Tryd.f13 4) 100 (rf4Sn k h m w at' [slI 12 i]).st [.is true] .normal (rf4Sn k h m w' at' [slI 12 ((i : Int) + 1)]) =
    some [((decide (((i : Nat) : Int) < (16 : Int))) = Bool.true), (Go.Abs.InI64 ((4 : Int) * ((i : Nat) : Int))), (Go.Abs.InI64 (at' + ((4 : Int) * ((i : Nat) : Int)))), ((0 : Int) ≤ (at' + ((4 : Int) * ((i : Nat) : Int)))), ((at' + ((4 : Int) * ((i : Nat) : Int))) < (((List.length m) : Nat) : Int)), ((Int.toNat (at' + ((4 : Int) * ((i : Nat) : Int)))) < (List.length m)), (Go.Abs.InI64 ((at' + ((4 : Int) * ((i : Nat) : Int))) + (1 : Int))), ((0 : Int) ≤ ((at' + ((4 : Int) * ((i : Nat) : Int))) + (1 : Int))), (((at' + ((4 : Int) * ((i : Nat) : Int))) + (1 : Int)) < (((List.length m) : Nat) : Int)), ((Int.toNat ((at' + ((4 : Int) * ((i : Nat) : Int))) + (1 : Int))) < (List.length m)), (Go.Abs.InI64 ((at' + ((4 : Int) * ((i : Nat) : Int))) + (2 : Int))), ((0 : Int) ≤ ((at' + ((4 : Int) * ((i : Nat) : Int))) + (2 : Int))), (((at' + ((4 : Int) * ((i : Nat) : Int))) + (2 : Int)) < (((List.length m) : Nat) : Int)), ((Int.toNat ((at' + ((4 : Int) * ((i : Nat) : Int))) + (2 : Int))) < (List.length m)), (Go.Abs.InI64 ((at' + ((4 : Int) * ((i : Nat) : Int))) + (3 : Int))), ((0 : Int) ≤ ((at' + ((4 : Int) * ((i : Nat) : Int))) + (3 : Int))), (((at' + ((4 : Int) * ((i : Nat) : Int))) + (3 : Int)) < (((List.length m) : Nat) : Int)), ((Int.toNat ((at' + ((4 : Int) * ((i : Nat) : Int))) + (3 : Int))) < (List.length m)), (((List.length w) + (1 : Nat)) ≤ (9223372036854775807 : Nat)), ((((List.length w) + (1 : Nat)) * (4 : Nat)) ≤ (140737488355328 : Nat)), (Go.Abs.InI64 (((i : Nat) : Int) + (1 : Int))), (at' = at'), ((((i : Nat) : Int) + (1 : Int)) = (((i : Nat) : Int) + (1 : Int))), (k = k), (h = h), (m = m), ((w ++ ((Go.Abs.bitsOf Go.BinOp.or Go.IntKind.u32 (Go.Abs.bitsOf Go.BinOp.or Go.IntKind.u32 (Go.Abs.bitsOf Go.BinOp.or Go.IntKind.u32 (Go.IntKind.wrap Go.IntKind.u32 ((Go.IntKind.wrap Go.IntKind.u32 (List.getD m (Int.toNat (at' + ((4 : Int) * ((i : Nat) : Int)))) (0 : Int))) * ((2 : Int) ^ (min (24 : Nat) (32 : Nat))))) (Go.IntKind.wrap Go.IntKind.u32 ((Go.IntKind.wrap Go.IntKind.u32 (List.getD m (Int.toNat ((at' + ((4 : Int) * ((i : Nat) : Int))) + (1 : Int))) (0 : Int))) * ((2 : Int) ^ (min (16 : Nat) (32 : Nat)))))) (Go.IntKind.wrap Go.IntKind.u32 ((Go.IntKind.wrap Go.IntKind.u32 (List.getD m (Int.toNat ((at' + ((4 : Int) * ((i : Nat) : Int))) + (2 : Int))) (0 : Int))) * ((2 : Int) ^ (min (8 : Nat) (32 : Nat)))))) (Go.IntKind.wrap Go.IntKind.u32 (List.getD m (Int.toNat ((at' + ((4 : Int) * ((i : Nat) : Int))) + (3 : Int))) (0 : Int)))) :: ([] : List (Int)))) = w')] := by kernel_rfl
theorem rf4_r (k h m w w' : List Int) (at' : Int) (i : Nat)
    (h1 : ((decide (((i : Nat) : Int) < (16 : Int))) = Bool.true))
    (h2 : (Go.Abs.InI64 ((4 : Int) * ((i : Nat) : Int))))
    (h3 : (Go.Abs.InI64 (at' + ((4 : Int) * ((i : Nat) : Int)))))
    (h4 : ((0 : Int) ≤ (at' + ((4 : Int) * ((i : Nat) : Int)))))
    (h5 : ((at' + ((4 : Int) * ((i : Nat) : Int))) < (((List.length m) : Nat) : Int)))
    (h6 : ((Int.toNat (at' + ((4 : Int) * ((i : Nat) : Int)))) < (List.length m)))
    (h7 : (Go.Abs.InI64 ((at' + ((4 : Int) * ((i : Nat) : Int))) + (1 : Int))))
    (h8 : ((0 : Int) ≤ ((at' + ((4 : Int) * ((i : Nat) : Int))) + (1 : Int))))
    (h9 : (((at' + ((4 : Int) * ((i : Nat) : Int))) + (1 : Int)) < (((List.length m) : Nat) : Int)))
    (h10 : ((Int.toNat ((at' + ((4 : Int) * ((i : Nat) : Int))) + (1 : Int))) < (List.length m)))
    (h11 : (Go.Abs.InI64 ((at' + ((4 : Int) * ((i : Nat) : Int))) + (2 : Int))))
    (h12 : ((0 : Int) ≤ ((at' + ((4 : Int) * ((i : Nat) : Int))) + (2 : Int))))
    (h13 : (((at' + ((4 : Int) * ((i : Nat) : Int))) + (2 : Int)) < (((List.length m) : Nat) : Int)))
    (h14 : ((Int.toNat ((at' + ((4 : Int) * ((i : Nat) : Int))) + (2 : Int))) < (List.length m)))
    (h15 : (Go.Abs.InI64 ((at' + ((4 : Int) * ((i : Nat) : Int))) + (3 : Int))))
    (h16 : ((0 : Int) ≤ ((at' + ((4 : Int) * ((i : Nat) : Int))) + (3 : Int))))
    (h17 : (((at' + ((4 : Int) * ((i : Nat) : Int))) + (3 : Int)) < (((List.length m) : Nat) : Int)))
    (h18 : ((Int.toNat ((at' + ((4 : Int) * ((i : Nat) : Int))) + (3 : Int))) < (List.length m)))
    (h19 : (((List.length w) + (1 : Nat)) ≤ (9223372036854775807 : Nat)))
    (h20 : ((((List.length w) + (1 : Nat)) * (4 : Nat)) ≤ (140737488355328 : Nat)))
    (h21 : (Go.Abs.InI64 (((i : Nat) : Int) + (1 : Int))))
    (h22 : ((w ++ ((Go.Abs.bitsOf Go.BinOp.or Go.IntKind.u32 (Go.Abs.bitsOf Go.BinOp.or Go.IntKind.u32 (Go.Abs.bitsOf Go.BinOp.or Go.IntKind.u32 (Go.IntKind.wrap Go.IntKind.u32 ((Go.IntKind.wrap Go.IntKind.u32 (List.getD m (Int.toNat (at' + ((4 : Int) * ((i : Nat) : Int)))) (0 : Int))) * ((2 : Int) ^ (min (24 : Nat) (32 : Nat))))) (Go.IntKind.wrap Go.IntKind.u32 ((Go.IntKind.wrap Go.IntKind.u32 (List.getD m (Int.toNat ((at' + ((4 : Int) * ((i : Nat) : Int))) + (1 : Int))) (0 : Int))) * ((2 : Int) ^ (min (16 : Nat) (32 : Nat)))))) (Go.IntKind.wrap Go.IntKind.u32 ((Go.IntKind.wrap Go.IntKind.u32 (List.getD m (Int.toNat ((at' + ((4 : Int) * ((i : Nat) : Int))) + (2 : Int))) (0 : Int))) * ((2 : Int) ^ (min (8 : Nat) (32 : Nat)))))) (Go.IntKind.wrap Go.IntKind.u32 (List.getD m (Int.toNat ((at' + ((4 : Int) * ((i : Nat) : Int))) + (3 : Int))) (0 : Int)))) :: ([] : List (Int)))) = w')) :
    ∃ ps, stepPs Tryd.prog DS gamR 100 (bodyN Tryd.f13 4) 100 (rf4Sn k h m w at' [slI 12 i]).st [.is true] .normal (rf4Sn k h m w' at' [slI 12 ((i : Int) + 1)]) = some ps ∧ AllQ ps := ⟨_, rf4_r_r k h m w w' at' i, AllP.all ⟨h1, h2, h3, h4, h5, h6, h7, h8, h9, h10, h11, h12, h13, h14, h15, h16, h17, h18, h19, h20, h21, rfl, rfl, rfl, rfl, rfl, h22⟩⟩

theorem rf4_x_r (k h m w : List Int) (at' : Int) (i : Nat) : stepPs Tryd.prog DS gamR 100 (bodyN Tryd.f13 4) 100 (rf4Sn k h m w at' [slI 12 i]).st [.is false] (.exit 8) (rf4Sn k h m w at' []) =
    some [((decide (((i : Nat) : Int) < (16 : Int))) = Bool.false), (at' = at'), (k = k), (h = h), (m = m), (w = w)] := by kernel_rfl
theorem rf4_x (k h m w : List Int) (at' : Int) (i : Nat)
    (h1 : ((decide (((i : Nat) : Int) < (16 : Int))) = Bool.false)) :
    ∃ ps, stepPs Tryd.prog DS gamR 100 (bodyN Tryd.f13 4) 100 (rf4Sn k h m w at' [slI 12 i]).st [.is false] (.exit 8) (rf4Sn k h m w at' []) = some ps ∧ AllQ ps := ⟨_, rf4_x_r k h m w at' i, AllP.all ⟨h1, rfl, rfl, rfl, rfl, rfl⟩⟩

theorem rf5_r_r (k h m w w' : List Int) (at' i : Int) : stepPs Tryd.prog DS gamR 100 (bodyN Tryd.f13 5) 100 (rf4Sn k h m w at' [slI 14 i]).st [.is true] .normal (rf4Sn k h m w' at' [slI 14 (i + 1)]) =
    some [((decide (i < (64 : Int))) = Bool.true), (Go.Abs.InI64 (i - (15 : Int))), ((0 : Int) ≤ (i - (15 : Int))), ((i - (15 : Int)) < (((List.length w) : Nat) : Int)), ((Int.toNat (i - (15 : Int))) < (List.length w)), ((0 : Int) ≤ (7 : Int)), ((0 : Int) ≤ (Go.IntKind.wrap Go.IntKind.u64 ((32 : Int) - (7 : Int)))), (Go.Abs.InI64 (i - (15 : Int))), ((0 : Int) ≤ (i - (15 : Int))), ((i - (15 : Int)) < (((List.length w) : Nat) : Int)), ((Int.toNat (i - (15 : Int))) < (List.length w)), ((0 : Int) ≤ (18 : Int)), ((0 : Int) ≤ (Go.IntKind.wrap Go.IntKind.u64 ((32 : Int) - (18 : Int)))), (Go.Abs.InI64 (i - (15 : Int))), ((0 : Int) ≤ (i - (15 : Int))), ((i - (15 : Int)) < (((List.length w) : Nat) : Int)), ((Int.toNat (i - (15 : Int))) < (List.length w)), (Go.Abs.InI64 (i - (2 : Int))), ((0 : Int) ≤ (i - (2 : Int))), ((i - (2 : Int)) < (((List.length w) : Nat) : Int)), ((Int.toNat (i - (2 : Int))) < (List.length w)), ((0 : Int) ≤ (17 : Int)), ((0 : Int) ≤ (Go.IntKind.wrap Go.IntKind.u64 ((32 : Int) - (17 : Int)))), (Go.Abs.InI64 (i - (2 : Int))), ((0 : Int) ≤ (i - (2 : Int))), ((i - (2 : Int)) < (((List.length w) : Nat) : Int)), ((Int.toNat (i - (2 : Int))) < (List.length w)), ((0 : Int) ≤ (19 : Int)), ((0 : Int) ≤ (Go.IntKind.wrap Go.IntKind.u64 ((32 : Int) - (19 : Int)))), (Go.Abs.InI64 (i - (2 : Int))), ((0 : Int) ≤ (i - (2 : Int))), ((i - (2 : Int)) < (((List.length w) : Nat) : Int)), ((Int.toNat (i - (2 : Int))) < (List.length w)), (Go.Abs.InI64 (i - (16 : Int))), ((0 : Int) ≤ (i - (16 : Int))), ((i - (16 : Int)) < (((List.length w) : Nat) : Int)), ((Int.toNat (i - (16 : Int))) < (List.length w)), (Go.Abs.InI64 (i - (7 : Int))), ((0 : Int) ≤ (i - (7 : Int))), ((i - (7 : Int)) < (((List.length w) : Nat) : Int)), ((Int.toNat (i - (7 : Int))) < (List.length w)), (((List.length w) + (1 : Nat)) ≤ (9223372036854775807 : Nat)), ((((List.length w) + (1 : Nat)) * (4 : Nat)) ≤ (140737488355328 : Nat)), (Go.Abs.InI64 (i + (1 : Int))), (at' = at'), ((i + (1 : Int)) = (i + (1 : Int))), (k = k), (h = h), (m = m), ((w ++ ((Go.IntKind.wrap Go.IntKind.u32 ((Go.IntKind.wrap Go.IntKind.u32 ((Go.IntKind.wrap Go.IntKind.u32 ((List.getD w (Int.toNat (i - (16 : Int))) (0 : Int)) + (Go.Abs.bitsOf Go.BinOp.xor Go.IntKind.u32 (Go.Abs.bitsOf Go.BinOp.xor Go.IntKind.u32 (Go.Num.turnF (List.getD w (Int.toNat (i - (15 : Int))) (0 : Int)) (7 : Int)) (Go.Num.turnF (List.getD w (Int.toNat (i - (15 : Int))) (0 : Int)) (18 : Int))) (Int.fdiv (List.getD w (Int.toNat (i - (15 : Int))) (0 : Int)) ((2 : Int) ^ (min (3 : Nat) (32 : Nat))))))) + (List.getD w (Int.toNat (i - (7 : Int))) (0 : Int)))) + (Go.Abs.bitsOf Go.BinOp.xor Go.IntKind.u32 (Go.Abs.bitsOf Go.BinOp.xor Go.IntKind.u32 (Go.Num.turnF (List.getD w (Int.toNat (i - (2 : Int))) (0 : Int)) (17 : Int)) (Go.Num.turnF (List.getD w (Int.toNat (i - (2 : Int))) (0 : Int)) (19 : Int))) (Int.fdiv (List.getD w (Int.toNat (i - (2 : Int))) (0 : Int)) ((2 : Int) ^ (min (10 : Nat) (32 : Nat))))))) :: ([] : List (Int)))) = w')] := by kernel_rfl
theorem rf5_r (k h m w w' : List Int) (at' i : Int)
    (h1 : ((decide (i < (64 : Int))) = Bool.true))
    (h2 : (Go.Abs.InI64 (i - (15 : Int))))
    (h3 : ((0 : Int) ≤ (i - (15 : Int))))
    (h4 : ((i - (15 : Int)) < (((List.length w) : Nat) : Int)))
    (h5 : ((Int.toNat (i - (15 : Int))) < (List.length w)))
    (h6 : (Go.Abs.InI64 (i - (2 : Int))))
    (h7 : ((0 : Int) ≤ (i - (2 : Int))))
    (h8 : ((i - (2 : Int)) < (((List.length w) : Nat) : Int)))
    (h9 : ((Int.toNat (i - (2 : Int))) < (List.length w)))
    (h10 : (Go.Abs.InI64 (i - (16 : Int))))
    (h11 : ((0 : Int) ≤ (i - (16 : Int))))
    (h12 : ((i - (16 : Int)) < (((List.length w) : Nat) : Int)))
    (h13 : ((Int.toNat (i - (16 : Int))) < (List.length w)))
    (h14 : (Go.Abs.InI64 (i - (7 : Int))))
    (h15 : ((0 : Int) ≤ (i - (7 : Int))))
    (h16 : ((i - (7 : Int)) < (((List.length w) : Nat) : Int)))
    (h17 : ((Int.toNat (i - (7 : Int))) < (List.length w)))
    (h18 : (((List.length w) + (1 : Nat)) ≤ (9223372036854775807 : Nat)))
    (h19 : ((((List.length w) + (1 : Nat)) * (4 : Nat)) ≤ (140737488355328 : Nat)))
    (h20 : (Go.Abs.InI64 (i + (1 : Int))))
    (h21 : ((w ++ ((Go.IntKind.wrap Go.IntKind.u32 ((Go.IntKind.wrap Go.IntKind.u32 ((Go.IntKind.wrap Go.IntKind.u32 ((List.getD w (Int.toNat (i - (16 : Int))) (0 : Int)) + (Go.Abs.bitsOf Go.BinOp.xor Go.IntKind.u32 (Go.Abs.bitsOf Go.BinOp.xor Go.IntKind.u32 (Go.Num.turnF (List.getD w (Int.toNat (i - (15 : Int))) (0 : Int)) (7 : Int)) (Go.Num.turnF (List.getD w (Int.toNat (i - (15 : Int))) (0 : Int)) (18 : Int))) (Int.fdiv (List.getD w (Int.toNat (i - (15 : Int))) (0 : Int)) ((2 : Int) ^ (min (3 : Nat) (32 : Nat))))))) + (List.getD w (Int.toNat (i - (7 : Int))) (0 : Int)))) + (Go.Abs.bitsOf Go.BinOp.xor Go.IntKind.u32 (Go.Abs.bitsOf Go.BinOp.xor Go.IntKind.u32 (Go.Num.turnF (List.getD w (Int.toNat (i - (2 : Int))) (0 : Int)) (17 : Int)) (Go.Num.turnF (List.getD w (Int.toNat (i - (2 : Int))) (0 : Int)) (19 : Int))) (Int.fdiv (List.getD w (Int.toNat (i - (2 : Int))) (0 : Int)) ((2 : Int) ^ (min (10 : Nat) (32 : Nat))))))) :: ([] : List (Int)))) = w')) :
    ∃ ps, stepPs Tryd.prog DS gamR 100 (bodyN Tryd.f13 5) 100 (rf4Sn k h m w at' [slI 14 i]).st [.is true] .normal (rf4Sn k h m w' at' [slI 14 (i + 1)]) = some ps ∧ AllQ ps := ⟨_, rf5_r_r k h m w w' at' i, AllP.all ⟨h1, h2, h3, h4, h5, (show ((0 : Int) ≤ (7 : Int)) from by decide), (show ((0 : Int) ≤ (Go.IntKind.wrap Go.IntKind.u64 ((32 : Int) - (7 : Int)))) from by decide), h2, h3, h4, h5, (show ((0 : Int) ≤ (18 : Int)) from by decide), (show ((0 : Int) ≤ (Go.IntKind.wrap Go.IntKind.u64 ((32 : Int) - (18 : Int)))) from by decide), h2, h3, h4, h5, h6, h7, h8, h9, (show ((0 : Int) ≤ (17 : Int)) from by decide), (show ((0 : Int) ≤ (Go.IntKind.wrap Go.IntKind.u64 ((32 : Int) - (17 : Int)))) from by decide), h6, h7, h8, h9, (show ((0 : Int) ≤ (19 : Int)) from by decide), (show ((0 : Int) ≤ (Go.IntKind.wrap Go.IntKind.u64 ((32 : Int) - (19 : Int)))) from by decide), h6, h7, h8, h9, h10, h11, h12, h13, h14, h15, h16, h17, h18, h19, h20, rfl, rfl, rfl, rfl, rfl, h21⟩⟩

theorem rf5_x_r (k h m w : List Int) (at' i : Int) : stepPs Tryd.prog DS gamR 100 (bodyN Tryd.f13 5) 100 (rf4Sn k h m w at' [slI 14 i]).st [.is false] (.exit 10) (rf4Sn k h m w at' []) =
    some [((decide (i < (64 : Int))) = Bool.false), (at' = at'), (k = k), (h = h), (m = m), (w = w)] := by kernel_rfl
theorem rf5_x (k h m w : List Int) (at' i : Int)
    (h1 : ((decide (i < (64 : Int))) = Bool.false)) :
    ∃ ps, stepPs Tryd.prog DS gamR 100 (bodyN Tryd.f13 5) 100 (rf4Sn k h m w at' [slI 14 i]).st [.is false] (.exit 10) (rf4Sn k h m w at' []) = some ps ∧ AllQ ps := ⟨_, rf5_x_r k h m w at' i, AllP.all ⟨h1, rfl, rfl, rfl, rfl, rfl⟩⟩

theorem rf6_r_r (k h m w v v' : List Int) (at' : Int) (i : Nat) : stepPs Tryd.prog DS gamR 100 (bodyN Tryd.f13 6) 100 (rf6Sn k h m w v at' [slI 18 i]).st [.is true] .normal (rf6Sn k h m w v' at' [slI 18 ((i : Int) + 1)]) =
    some [((decide (((i : Nat) : Int) < (64 : Int))) = Bool.true), ((0 : Int) ≤ (7 : Int)), ((7 : Int) < (((List.length v) : Nat) : Int)), ((7 : Nat) < (List.length v)), ((0 : Int) ≤ (4 : Int)), ((4 : Int) < (((List.length v) : Nat) : Int)), ((4 : Nat) < (List.length v)), ((0 : Int) ≤ (6 : Int)), ((0 : Int) ≤ (Go.IntKind.wrap Go.IntKind.u64 ((32 : Int) - (6 : Int)))), ((0 : Int) ≤ (4 : Int)), ((4 : Int) < (((List.length v) : Nat) : Int)), ((4 : Nat) < (List.length v)), ((0 : Int) ≤ (11 : Int)), ((0 : Int) ≤ (Go.IntKind.wrap Go.IntKind.u64 ((32 : Int) - (11 : Int)))), ((0 : Int) ≤ (4 : Int)), ((4 : Int) < (((List.length v) : Nat) : Int)), ((4 : Nat) < (List.length v)), ((0 : Int) ≤ (25 : Int)), ((0 : Int) ≤ (Go.IntKind.wrap Go.IntKind.u64 ((32 : Int) - (25 : Int)))), ((0 : Int) ≤ (4 : Int)), ((4 : Int) < (((List.length v) : Nat) : Int)), ((4 : Nat) < (List.length v)), ((0 : Int) ≤ (5 : Int)), ((5 : Int) < (((List.length v) : Nat) : Int)), ((5 : Nat) < (List.length v)), ((0 : Int) ≤ (4 : Int)), ((4 : Int) < (((List.length v) : Nat) : Int)), ((4 : Nat) < (List.length v)), ((0 : Int) ≤ (6 : Int)), ((6 : Int) < (((List.length v) : Nat) : Int)), ((6 : Nat) < (List.length v)), ((0 : Int) ≤ ((i : Nat) : Int)), (((i : Nat) : Int) < (((List.length k) : Nat) : Int)), ((Int.toNat ((i : Nat) : Int)) < (List.length k)), ((0 : Int) ≤ ((i : Nat) : Int)), (((i : Nat) : Int) < (((List.length w) : Nat) : Int)), ((Int.toNat ((i : Nat) : Int)) < (List.length w)), ((0 : Int) ≤ (0 : Int)), ((0 : Int) < (((List.length v) : Nat) : Int)), ((0 : Nat) < (List.length v)), ((0 : Int) ≤ (2 : Int)), ((0 : Int) ≤ (Go.IntKind.wrap Go.IntKind.u64 ((32 : Int) - (2 : Int)))), ((0 : Int) ≤ (0 : Int)), ((0 : Int) < (((List.length v) : Nat) : Int)), ((0 : Nat) < (List.length v)), ((0 : Int) ≤ (13 : Int)), ((0 : Int) ≤ (Go.IntKind.wrap Go.IntKind.u64 ((32 : Int) - (13 : Int)))), ((0 : Int) ≤ (0 : Int)), ((0 : Int) < (((List.length v) : Nat) : Int)), ((0 : Nat) < (List.length v)), ((0 : Int) ≤ (22 : Int)), ((0 : Int) ≤ (Go.IntKind.wrap Go.IntKind.u64 ((32 : Int) - (22 : Int)))), ((0 : Int) ≤ (0 : Int)), ((0 : Int) < (((List.length v) : Nat) : Int)), ((0 : Nat) < (List.length v)), ((0 : Int) ≤ (1 : Int)), ((1 : Int) < (((List.length v) : Nat) : Int)), ((1 : Nat) < (List.length v)), ((0 : Int) ≤ (0 : Int)), ((0 : Int) < (((List.length v) : Nat) : Int)), ((0 : Nat) < (List.length v)), ((0 : Int) ≤ (2 : Int)), ((2 : Int) < (((List.length v) : Nat) : Int)), ((2 : Nat) < (List.length v)), ((0 : Int) ≤ (1 : Int)), ((1 : Int) < (((List.length v) : Nat) : Int)), ((1 : Nat) < (List.length v)), ((0 : Int) ≤ (2 : Int)), ((2 : Int) < (((List.length v) : Nat) : Int)), ((2 : Nat) < (List.length v)), ((0 : Int) ≤ (0 : Int)), ((0 : Int) < (((List.length v) : Nat) : Int)), ((0 : Nat) < (List.length v)), ((0 : Int) ≤ (1 : Int)), ((1 : Int) < (((List.length v) : Nat) : Int)), ((1 : Nat) < (List.length v)), ((0 : Int) ≤ (2 : Int)), ((2 : Int) < (((List.length v) : Nat) : Int)), ((2 : Nat) < (List.length v)), ((0 : Int) ≤ (3 : Int)), ((3 : Int) < (((List.length v) : Nat) : Int)), ((3 : Nat) < (List.length v)), ((0 : Int) ≤ (4 : Int)), ((4 : Int) < (((List.length v) : Nat) : Int)), ((4 : Nat) < (List.length v)), ((0 : Int) ≤ (5 : Int)), ((5 : Int) < (((List.length v) : Nat) : Int)), ((5 : Nat) < (List.length v)), ((0 : Int) ≤ (6 : Int)), ((6 : Int) < (((List.length v) : Nat) : Int)), ((6 : Nat) < (List.length v)), (Go.Abs.InI64 (((i : Nat) : Int) + (1 : Int))), (at' = at'), ((((i : Nat) : Int) + (1 : Int)) = (((i : Nat) : Int) + (1 : Int))), (k = k), (h = h), (m = m), (w = w), (((Go.IntKind.wrap Go.IntKind.u32 ((Go.IntKind.wrap Go.IntKind.u32 ((Go.IntKind.wrap Go.IntKind.u32 ((Go.IntKind.wrap Go.IntKind.u32 ((Go.IntKind.wrap Go.IntKind.u32 ((List.getD v (7 : Nat) (0 : Int)) + (Go.Abs.bitsOf Go.BinOp.xor Go.IntKind.u32 (Go.Abs.bitsOf Go.BinOp.xor Go.IntKind.u32 (Go.Num.turnF (List.getD v (4 : Nat) (0 : Int)) (6 : Int)) (Go.Num.turnF (List.getD v (4 : Nat) (0 : Int)) (11 : Int))) (Go.Num.turnF (List.getD v (4 : Nat) (0 : Int)) (25 : Int))))) + (Go.Abs.bitsOf Go.BinOp.xor Go.IntKind.u32 (Go.Abs.bitsOf Go.BinOp.and Go.IntKind.u32 (List.getD v (4 : Nat) (0 : Int)) (List.getD v (5 : Nat) (0 : Int))) (Go.Abs.bitsOf Go.BinOp.and Go.IntKind.u32 (Go.Abs.bitsOf Go.BinOp.xor Go.IntKind.u32 (if (Bool.false = Bool.true) then (-(1 : Int)) else (if (Bool.false = Bool.true) then (((2 : Int) ^ ((32 : Nat) - (1 : Nat))) - (1 : Int)) else (((2 : Int) ^ (32 : Nat)) - (1 : Int)))) (List.getD v (4 : Nat) (0 : Int))) (List.getD v (6 : Nat) (0 : Int)))))) + (List.getD k (Int.toNat ((i : Nat) : Int)) (0 : Int)))) + (List.getD w (Int.toNat ((i : Nat) : Int)) (0 : Int)))) + (Go.IntKind.wrap Go.IntKind.u32 ((Go.Abs.bitsOf Go.BinOp.xor Go.IntKind.u32 (Go.Abs.bitsOf Go.BinOp.xor Go.IntKind.u32 (Go.Num.turnF (List.getD v (0 : Nat) (0 : Int)) (2 : Int)) (Go.Num.turnF (List.getD v (0 : Nat) (0 : Int)) (13 : Int))) (Go.Num.turnF (List.getD v (0 : Nat) (0 : Int)) (22 : Int))) + (Go.Abs.bitsOf Go.BinOp.xor Go.IntKind.u32 (Go.Abs.bitsOf Go.BinOp.xor Go.IntKind.u32 (Go.Abs.bitsOf Go.BinOp.and Go.IntKind.u32 (List.getD v (0 : Nat) (0 : Int)) (List.getD v (1 : Nat) (0 : Int))) (Go.Abs.bitsOf Go.BinOp.and Go.IntKind.u32 (List.getD v (0 : Nat) (0 : Int)) (List.getD v (2 : Nat) (0 : Int)))) (Go.Abs.bitsOf Go.BinOp.and Go.IntKind.u32 (List.getD v (1 : Nat) (0 : Int)) (List.getD v (2 : Nat) (0 : Int)))))))) :: ((List.getD v (0 : Nat) (0 : Int)) :: ((List.getD v (1 : Nat) (0 : Int)) :: ((List.getD v (2 : Nat) (0 : Int)) :: ((Go.IntKind.wrap Go.IntKind.u32 ((List.getD v (3 : Nat) (0 : Int)) + (Go.IntKind.wrap Go.IntKind.u32 ((Go.IntKind.wrap Go.IntKind.u32 ((Go.IntKind.wrap Go.IntKind.u32 ((Go.IntKind.wrap Go.IntKind.u32 ((List.getD v (7 : Nat) (0 : Int)) + (Go.Abs.bitsOf Go.BinOp.xor Go.IntKind.u32 (Go.Abs.bitsOf Go.BinOp.xor Go.IntKind.u32 (Go.Num.turnF (List.getD v (4 : Nat) (0 : Int)) (6 : Int)) (Go.Num.turnF (List.getD v (4 : Nat) (0 : Int)) (11 : Int))) (Go.Num.turnF (List.getD v (4 : Nat) (0 : Int)) (25 : Int))))) + (Go.Abs.bitsOf Go.BinOp.xor Go.IntKind.u32 (Go.Abs.bitsOf Go.BinOp.and Go.IntKind.u32 (List.getD v (4 : Nat) (0 : Int)) (List.getD v (5 : Nat) (0 : Int))) (Go.Abs.bitsOf Go.BinOp.and Go.IntKind.u32 (Go.Abs.bitsOf Go.BinOp.xor Go.IntKind.u32 (if (Bool.false = Bool.true) then (-(1 : Int)) else (if (Bool.false = Bool.true) then (((2 : Int) ^ ((32 : Nat) - (1 : Nat))) - (1 : Int)) else (((2 : Int) ^ (32 : Nat)) - (1 : Int)))) (List.getD v (4 : Nat) (0 : Int))) (List.getD v (6 : Nat) (0 : Int)))))) + (List.getD k (Int.toNat ((i : Nat) : Int)) (0 : Int)))) + (List.getD w (Int.toNat ((i : Nat) : Int)) (0 : Int)))))) :: ((List.getD v (4 : Nat) (0 : Int)) :: ((List.getD v (5 : Nat) (0 : Int)) :: ((List.getD v (6 : Nat) (0 : Int)) :: ([] : List (Int)))))))))) = v')] := by kernel_rfl
theorem rf6_r (k h m w v v' : List Int) (at' : Int) (i : Nat)
    (h1 : ((decide (((i : Nat) : Int) < (64 : Int))) = Bool.true))
    (h2 : ((7 : Int) < (((List.length v) : Nat) : Int)))
    (h3 : ((7 : Nat) < (List.length v)))
    (h4 : ((4 : Int) < (((List.length v) : Nat) : Int)))
    (h5 : ((4 : Nat) < (List.length v)))
    (h6 : ((5 : Int) < (((List.length v) : Nat) : Int)))
    (h7 : ((5 : Nat) < (List.length v)))
    (h8 : ((6 : Int) < (((List.length v) : Nat) : Int)))
    (h9 : ((6 : Nat) < (List.length v)))
    (h10 : ((0 : Int) ≤ ((i : Nat) : Int)))
    (h11 : (((i : Nat) : Int) < (((List.length k) : Nat) : Int)))
    (h12 : ((Int.toNat ((i : Nat) : Int)) < (List.length k)))
    (h13 : (((i : Nat) : Int) < (((List.length w) : Nat) : Int)))
    (h14 : ((Int.toNat ((i : Nat) : Int)) < (List.length w)))
    (h15 : ((0 : Int) < (((List.length v) : Nat) : Int)))
    (h16 : ((0 : Nat) < (List.length v)))
    (h17 : ((1 : Int) < (((List.length v) : Nat) : Int)))
    (h18 : ((1 : Nat) < (List.length v)))
    (h19 : ((2 : Int) < (((List.length v) : Nat) : Int)))
    (h20 : ((2 : Nat) < (List.length v)))
    (h21 : ((3 : Int) < (((List.length v) : Nat) : Int)))
    (h22 : ((3 : Nat) < (List.length v)))
    (h23 : (Go.Abs.InI64 (((i : Nat) : Int) + (1 : Int))))
    (h24 : (((Go.IntKind.wrap Go.IntKind.u32 ((Go.IntKind.wrap Go.IntKind.u32 ((Go.IntKind.wrap Go.IntKind.u32 ((Go.IntKind.wrap Go.IntKind.u32 ((Go.IntKind.wrap Go.IntKind.u32 ((List.getD v (7 : Nat) (0 : Int)) + (Go.Abs.bitsOf Go.BinOp.xor Go.IntKind.u32 (Go.Abs.bitsOf Go.BinOp.xor Go.IntKind.u32 (Go.Num.turnF (List.getD v (4 : Nat) (0 : Int)) (6 : Int)) (Go.Num.turnF (List.getD v (4 : Nat) (0 : Int)) (11 : Int))) (Go.Num.turnF (List.getD v (4 : Nat) (0 : Int)) (25 : Int))))) + (Go.Abs.bitsOf Go.BinOp.xor Go.IntKind.u32 (Go.Abs.bitsOf Go.BinOp.and Go.IntKind.u32 (List.getD v (4 : Nat) (0 : Int)) (List.getD v (5 : Nat) (0 : Int))) (Go.Abs.bitsOf Go.BinOp.and Go.IntKind.u32 (Go.Abs.bitsOf Go.BinOp.xor Go.IntKind.u32 (if (Bool.false = Bool.true) then (-(1 : Int)) else (if (Bool.false = Bool.true) then (((2 : Int) ^ ((32 : Nat) - (1 : Nat))) - (1 : Int)) else (((2 : Int) ^ (32 : Nat)) - (1 : Int)))) (List.getD v (4 : Nat) (0 : Int))) (List.getD v (6 : Nat) (0 : Int)))))) + (List.getD k (Int.toNat ((i : Nat) : Int)) (0 : Int)))) + (List.getD w (Int.toNat ((i : Nat) : Int)) (0 : Int)))) + (Go.IntKind.wrap Go.IntKind.u32 ((Go.Abs.bitsOf Go.BinOp.xor Go.IntKind.u32 (Go.Abs.bitsOf Go.BinOp.xor Go.IntKind.u32 (Go.Num.turnF (List.getD v (0 : Nat) (0 : Int)) (2 : Int)) (Go.Num.turnF (List.getD v (0 : Nat) (0 : Int)) (13 : Int))) (Go.Num.turnF (List.getD v (0 : Nat) (0 : Int)) (22 : Int))) + (Go.Abs.bitsOf Go.BinOp.xor Go.IntKind.u32 (Go.Abs.bitsOf Go.BinOp.xor Go.IntKind.u32 (Go.Abs.bitsOf Go.BinOp.and Go.IntKind.u32 (List.getD v (0 : Nat) (0 : Int)) (List.getD v (1 : Nat) (0 : Int))) (Go.Abs.bitsOf Go.BinOp.and Go.IntKind.u32 (List.getD v (0 : Nat) (0 : Int)) (List.getD v (2 : Nat) (0 : Int)))) (Go.Abs.bitsOf Go.BinOp.and Go.IntKind.u32 (List.getD v (1 : Nat) (0 : Int)) (List.getD v (2 : Nat) (0 : Int)))))))) :: ((List.getD v (0 : Nat) (0 : Int)) :: ((List.getD v (1 : Nat) (0 : Int)) :: ((List.getD v (2 : Nat) (0 : Int)) :: ((Go.IntKind.wrap Go.IntKind.u32 ((List.getD v (3 : Nat) (0 : Int)) + (Go.IntKind.wrap Go.IntKind.u32 ((Go.IntKind.wrap Go.IntKind.u32 ((Go.IntKind.wrap Go.IntKind.u32 ((Go.IntKind.wrap Go.IntKind.u32 ((List.getD v (7 : Nat) (0 : Int)) + (Go.Abs.bitsOf Go.BinOp.xor Go.IntKind.u32 (Go.Abs.bitsOf Go.BinOp.xor Go.IntKind.u32 (Go.Num.turnF (List.getD v (4 : Nat) (0 : Int)) (6 : Int)) (Go.Num.turnF (List.getD v (4 : Nat) (0 : Int)) (11 : Int))) (Go.Num.turnF (List.getD v (4 : Nat) (0 : Int)) (25 : Int))))) + (Go.Abs.bitsOf Go.BinOp.xor Go.IntKind.u32 (Go.Abs.bitsOf Go.BinOp.and Go.IntKind.u32 (List.getD v (4 : Nat) (0 : Int)) (List.getD v (5 : Nat) (0 : Int))) (Go.Abs.bitsOf Go.BinOp.and Go.IntKind.u32 (Go.Abs.bitsOf Go.BinOp.xor Go.IntKind.u32 (if (Bool.false = Bool.true) then (-(1 : Int)) else (if (Bool.false = Bool.true) then (((2 : Int) ^ ((32 : Nat) - (1 : Nat))) - (1 : Int)) else (((2 : Int) ^ (32 : Nat)) - (1 : Int)))) (List.getD v (4 : Nat) (0 : Int))) (List.getD v (6 : Nat) (0 : Int)))))) + (List.getD k (Int.toNat ((i : Nat) : Int)) (0 : Int)))) + (List.getD w (Int.toNat ((i : Nat) : Int)) (0 : Int)))))) :: ((List.getD v (4 : Nat) (0 : Int)) :: ((List.getD v (5 : Nat) (0 : Int)) :: ((List.getD v (6 : Nat) (0 : Int)) :: ([] : List (Int)))))))))) = v')) :
    ∃ ps, stepPs Tryd.prog DS gamR 100 (bodyN Tryd.f13 6) 100 (rf6Sn k h m w v at' [slI 18 i]).st [.is true] .normal (rf6Sn k h m w v' at' [slI 18 ((i : Int) + 1)]) = some ps ∧ AllQ ps := ⟨_, rf6_r_r k h m w v v' at' i, AllP.all ⟨h1, (show ((0 : Int) ≤ (7 : Int)) from by decide), h2, h3, (show ((0 : Int) ≤ (4 : Int)) from by decide), h4, h5, (show ((0 : Int) ≤ (6 : Int)) from by decide), (show ((0 : Int) ≤ (Go.IntKind.wrap Go.IntKind.u64 ((32 : Int) - (6 : Int)))) from by decide), (show ((0 : Int) ≤ (4 : Int)) from by decide), h4, h5, (show ((0 : Int) ≤ (11 : Int)) from by decide), (show ((0 : Int) ≤ (Go.IntKind.wrap Go.IntKind.u64 ((32 : Int) - (11 : Int)))) from by decide), (show ((0 : Int) ≤ (4 : Int)) from by decide), h4, h5, (show ((0 : Int) ≤ (25 : Int)) from by decide), (show ((0 : Int) ≤ (Go.IntKind.wrap Go.IntKind.u64 ((32 : Int) - (25 : Int)))) from by decide), (show ((0 : Int) ≤ (4 : Int)) from by decide), h4, h5, (show ((0 : Int) ≤ (5 : Int)) from by decide), h6, h7, (show ((0 : Int) ≤ (4 : Int)) from by decide), h4, h5, (show ((0 : Int) ≤ (6 : Int)) from by decide), h8, h9, h10, h11, h12, h10, h13, h14, (show ((0 : Int) ≤ (0 : Int)) from by decide), h15, h16, (show ((0 : Int) ≤ (2 : Int)) from by decide), (show ((0 : Int) ≤ (Go.IntKind.wrap Go.IntKind.u64 ((32 : Int) - (2 : Int)))) from by decide), (show ((0 : Int) ≤ (0 : Int)) from by decide), h15, h16, (show ((0 : Int) ≤ (13 : Int)) from by decide), (show ((0 : Int) ≤ (Go.IntKind.wrap Go.IntKind.u64 ((32 : Int) - (13 : Int)))) from by decide), (show ((0 : Int) ≤ (0 : Int)) from by decide), h15, h16, (show ((0 : Int) ≤ (22 : Int)) from by decide), (show ((0 : Int) ≤ (Go.IntKind.wrap Go.IntKind.u64 ((32 : Int) - (22 : Int)))) from by decide), (show ((0 : Int) ≤ (0 : Int)) from by decide), h15, h16, (show ((0 : Int) ≤ (1 : Int)) from by decide), h17, h18, (show ((0 : Int) ≤ (0 : Int)) from by decide), h15, h16, (show ((0 : Int) ≤ (2 : Int)) from by decide), h19, h20, (show ((0 : Int) ≤ (1 : Int)) from by decide), h17, h18, (show ((0 : Int) ≤ (2 : Int)) from by decide), h19, h20, (show ((0 : Int) ≤ (0 : Int)) from by decide), h15, h16, (show ((0 : Int) ≤ (1 : Int)) from by decide), h17, h18, (show ((0 : Int) ≤ (2 : Int)) from by decide), h19, h20, (show ((0 : Int) ≤ (3 : Int)) from by decide), h21, h22, (show ((0 : Int) ≤ (4 : Int)) from by decide), h4, h5, (show ((0 : Int) ≤ (5 : Int)) from by decide), h6, h7, (show ((0 : Int) ≤ (6 : Int)) from by decide), h8, h9, h23, rfl, rfl, rfl, rfl, rfl, rfl, h24⟩⟩

theorem rf6_x_r (k h m w v : List Int) (at' : Int) (i : Nat) : stepPs Tryd.prog DS gamR 100 (bodyN Tryd.f13 6) 100 (rf6Sn k h m w v at' [slI 18 i]).st [.is false] (.exit 12) (rf6Sn k h m w v at' []) =
    some [((decide (((i : Nat) : Int) < (64 : Int))) = Bool.false), (at' = at'), (k = k), (h = h), (m = m), (w = w), (v = v)] := by kernel_rfl
theorem rf6_x (k h m w v : List Int) (at' : Int) (i : Nat)
    (h1 : ((decide (((i : Nat) : Int) < (64 : Int))) = Bool.false)) :
    ∃ ps, stepPs Tryd.prog DS gamR 100 (bodyN Tryd.f13 6) 100 (rf6Sn k h m w v at' [slI 18 i]).st [.is false] (.exit 12) (rf6Sn k h m w v at' []) = some ps ∧ AllQ ps := ⟨_, rf6_x_r k h m w v at' i, AllP.all ⟨h1, rfl, rfl, rfl, rfl, rfl, rfl⟩⟩

theorem rf7_r_r (k h m w v h' : List Int) (at' : Int) (i : Nat) : stepPs Tryd.prog DS gamR 100 (bodyN Tryd.f13 7) 100 (rf6Sn k h m w v at' [slI 21 i]).st [.is true] .normal (rf6Sn k h' m w v at' [slI 21 ((i : Int) + 1)]) =
    some [((decide (((i : Nat) : Int) < (8 : Int))) = Bool.true), ((0 : Int) ≤ ((i : Nat) : Int)), (((i : Nat) : Int) < (((List.length h) : Nat) : Int)), ((Int.toNat ((i : Nat) : Int)) < (List.length h)), ((0 : Int) ≤ ((i : Nat) : Int)), (((i : Nat) : Int) < (((List.length v) : Nat) : Int)), ((Int.toNat ((i : Nat) : Int)) < (List.length v)), ((0 : Int) ≤ ((i : Nat) : Int)), (((i : Nat) : Int) < (((List.length h) : Nat) : Int)), ((Int.toNat ((i : Nat) : Int)) < (List.length h)), ((some (1 : Nat)) = (some (1 : Nat))), (Go.Abs.InI64 (((i : Nat) : Int) + (1 : Int))), (at' = at'), ((((i : Nat) : Int) + (1 : Int)) = (((i : Nat) : Int) + (1 : Int))), (k = k), ((List.set h (Int.toNat ((i : Nat) : Int)) (Go.IntKind.wrap Go.IntKind.u32 ((List.getD h (Int.toNat ((i : Nat) : Int)) (0 : Int)) + (List.getD v (Int.toNat ((i : Nat) : Int)) (0 : Int))))) = h'), (m = m), (w = w), (v = v)] := by kernel_rfl
theorem rf7_r (k h m w v h' : List Int) (at' : Int) (i : Nat)
    (h1 : ((decide (((i : Nat) : Int) < (8 : Int))) = Bool.true))
    (h2 : ((0 : Int) ≤ ((i : Nat) : Int)))
    (h3 : (((i : Nat) : Int) < (((List.length h) : Nat) : Int)))
    (h4 : ((Int.toNat ((i : Nat) : Int)) < (List.length h)))
    (h5 : (((i : Nat) : Int) < (((List.length v) : Nat) : Int)))
    (h6 : ((Int.toNat ((i : Nat) : Int)) < (List.length v)))
    (h7 : (Go.Abs.InI64 (((i : Nat) : Int) + (1 : Int))))
    (h8 : ((List.set h (Int.toNat ((i : Nat) : Int)) (Go.IntKind.wrap Go.IntKind.u32 ((List.getD h (Int.toNat ((i : Nat) : Int)) (0 : Int)) + (List.getD v (Int.toNat ((i : Nat) : Int)) (0 : Int))))) = h')) :
    ∃ ps, stepPs Tryd.prog DS gamR 100 (bodyN Tryd.f13 7) 100 (rf6Sn k h m w v at' [slI 21 i]).st [.is true] .normal (rf6Sn k h' m w v at' [slI 21 ((i : Int) + 1)]) = some ps ∧ AllQ ps := ⟨_, rf7_r_r k h m w v h' at' i, AllP.all ⟨h1, h2, h3, h4, h2, h5, h6, h2, h3, h4, rfl, h7, rfl, rfl, rfl, h8, rfl, rfl, rfl⟩⟩

theorem rf7_x_r (k h m w v : List Int) (at' : Int) (i : Nat) : stepPs Tryd.prog DS gamR 100 (bodyN Tryd.f13 7) 100 (rf6Sn k h m w v at' [slI 21 i]).st [.is false] (.exit 14) (rf3Sn k h m [slI 10 at']) =
    some [((decide (((i : Nat) : Int) < (8 : Int))) = Bool.false), (at' = at'), (k = k), (h = h), (m = m)] := by kernel_rfl
theorem rf7_x (k h m w v : List Int) (at' : Int) (i : Nat)
    (h1 : ((decide (((i : Nat) : Int) < (8 : Int))) = Bool.false)) :
    ∃ ps, stepPs Tryd.prog DS gamR 100 (bodyN Tryd.f13 7) 100 (rf6Sn k h m w v at' [slI 21 i]).st [.is false] (.exit 14) (rf3Sn k h m [slI 10 at']) = some ps ∧ AllQ ps := ⟨_, rf7_x_r k h m w v at' i, AllP.all ⟨h1, rfl, rfl, rfl, rfl⟩⟩

theorem rf8_r_r (h o o' : List Int) (i : Nat) : stepPs Tryd.prog DS gamR 100 (bodyN Tryd.f13 8) 100 (rf8Sn h o i).st [.is true] .normal (rf8Sn h o' ((i : Int) + 1)) =
    some [((decide (((i : Nat) : Int) < (8 : Int))) = Bool.true), ((0 : Int) ≤ ((i : Nat) : Int)), (((i : Nat) : Int) < (((List.length h) : Nat) : Int)), ((Int.toNat ((i : Nat) : Int)) < (List.length h)), ((0 : Int) ≤ ((i : Nat) : Int)), (((i : Nat) : Int) < (((List.length h) : Nat) : Int)), ((Int.toNat ((i : Nat) : Int)) < (List.length h)), ((0 : Int) ≤ ((i : Nat) : Int)), (((i : Nat) : Int) < (((List.length h) : Nat) : Int)), ((Int.toNat ((i : Nat) : Int)) < (List.length h)), ((0 : Int) ≤ ((i : Nat) : Int)), (((i : Nat) : Int) < (((List.length h) : Nat) : Int)), ((Int.toNat ((i : Nat) : Int)) < (List.length h)), (((List.length o) + (4 : Nat)) ≤ (9223372036854775807 : Nat)), ((((List.length o) + (4 : Nat)) * (1 : Nat)) ≤ (140737488355328 : Nat)), (Go.Abs.InI64 (((i : Nat) : Int) + (1 : Int))), ((((i : Nat) : Int) + (1 : Int)) = (((i : Nat) : Int) + (1 : Int))), (h = h), ((o ++ ((Go.IntKind.wrap Go.IntKind.u8 (Int.fdiv (List.getD h (Int.toNat ((i : Nat) : Int)) (0 : Int)) ((2 : Int) ^ (min (24 : Nat) (32 : Nat))))) :: ((Go.IntKind.wrap Go.IntKind.u8 (Int.fdiv (List.getD h (Int.toNat ((i : Nat) : Int)) (0 : Int)) ((2 : Int) ^ (min (16 : Nat) (32 : Nat))))) :: ((Go.IntKind.wrap Go.IntKind.u8 (Int.fdiv (List.getD h (Int.toNat ((i : Nat) : Int)) (0 : Int)) ((2 : Int) ^ (min (8 : Nat) (32 : Nat))))) :: ((Go.IntKind.wrap Go.IntKind.u8 (List.getD h (Int.toNat ((i : Nat) : Int)) (0 : Int))) :: ([] : List (Int))))))) = o')] := by kernel_rfl
theorem rf8_r (h o o' : List Int) (i : Nat)
    (h1 : ((decide (((i : Nat) : Int) < (8 : Int))) = Bool.true))
    (h2 : ((0 : Int) ≤ ((i : Nat) : Int)))
    (h3 : (((i : Nat) : Int) < (((List.length h) : Nat) : Int)))
    (h4 : ((Int.toNat ((i : Nat) : Int)) < (List.length h)))
    (h5 : (((List.length o) + (4 : Nat)) ≤ (9223372036854775807 : Nat)))
    (h6 : ((((List.length o) + (4 : Nat)) * (1 : Nat)) ≤ (140737488355328 : Nat)))
    (h7 : (Go.Abs.InI64 (((i : Nat) : Int) + (1 : Int))))
    (h8 : ((o ++ ((Go.IntKind.wrap Go.IntKind.u8 (Int.fdiv (List.getD h (Int.toNat ((i : Nat) : Int)) (0 : Int)) ((2 : Int) ^ (min (24 : Nat) (32 : Nat))))) :: ((Go.IntKind.wrap Go.IntKind.u8 (Int.fdiv (List.getD h (Int.toNat ((i : Nat) : Int)) (0 : Int)) ((2 : Int) ^ (min (16 : Nat) (32 : Nat))))) :: ((Go.IntKind.wrap Go.IntKind.u8 (Int.fdiv (List.getD h (Int.toNat ((i : Nat) : Int)) (0 : Int)) ((2 : Int) ^ (min (8 : Nat) (32 : Nat))))) :: ((Go.IntKind.wrap Go.IntKind.u8 (List.getD h (Int.toNat ((i : Nat) : Int)) (0 : Int))) :: ([] : List (Int))))))) = o')) :
    ∃ ps, stepPs Tryd.prog DS gamR 100 (bodyN Tryd.f13 8) 100 (rf8Sn h o i).st [.is true] .normal (rf8Sn h o' ((i : Int) + 1)) = some ps ∧ AllQ ps := ⟨_, rf8_r_r h o o' i, AllP.all ⟨h1, h2, h3, h4, h2, h3, h4, h2, h3, h4, h2, h3, h4, h5, h6, h7, rfl, rfl, h8⟩⟩

theorem rf8_x_r (h o : List Int) (i : Nat) : stepPs Tryd.prog DS gamR 100 (bodyN Tryd.f13 8) 100 (rf8Sn h o i).st [.is false] (.exit 16) (rfEnd o) =
    some [((decide (((i : Nat) : Int) < (8 : Int))) = Bool.false), (o = o)] := by kernel_rfl
theorem rf8_x (h o : List Int) (i : Nat)
    (h1 : ((decide (((i : Nat) : Int) < (8 : Int))) = Bool.false)) :
    ∃ ps, stepPs Tryd.prog DS gamR 100 (bodyN Tryd.f13 8) 100 (rf8Sn h o i).st [.is false] (.exit 16) (rfEnd o) = some ps ∧ AllQ ps := ⟨_, rf8_x_r h o i, AllP.all ⟨h1, rfl⟩⟩

theorem rf3_r_r (k h m w0 w1 w2 v h' : List Int) (at' : Int) : stepPs Tryd.prog DS gamR 100 (bodyN Tryd.f13 3) 100 (rf3Sn k h m [slI 10 at']).st [.is true, .loop (loopL DS (rf4Sn k h m w0 at' [slI 12 (0 : Nat)]) (.exit 8) (rf4Sn k h m w1 at' [])), .loop (loopL DS (rf4Sn k h m w1 at' [slI 14 16]) (.exit 10) (rf4Sn k h m w2 at' [])), .loop (loopL DS (rf6Sn k h m w2 h at' [slI 18 (0 : Nat)]) (.exit 12) (rf6Sn k h m w2 v at' [])), .loop (loopL DS (rf6Sn k h m w2 v at' [slI 21 (0 : Nat)]) (.exit 14) (rf3Sn k h' m [slI 10 at']))] .normal (rf3Sn k h' m [slI 10 (at' + 64)]) =
    some [((decide (at' < (((List.length m) : Nat) : Int))) = Bool.true), SumOK Tryd.prog DS (bodyN Tryd.f13 4) (loopL DS (rf4Sn k h m w0 at' [slI 12 (0 : Nat)]) (.exit 8) (rf4Sn k h m w1 at' [])), (at' = at'), ((0 : Int) = (((0 : Nat) : Nat) : Int)), (k = k), (h = h), (m = m), (([] : List (Int)) = w0), SumOK Tryd.prog DS (bodyN Tryd.f13 5) (loopL DS (rf4Sn k h m w1 at' [slI 14 16]) (.exit 10) (rf4Sn k h m w2 at' [])), (at' = at'), ((16 : Int) = (16 : Int)), (k = k), (h = h), (m = m), (w1 = w1), (((0 : Nat) + (List.length h)) ≤ (9223372036854775807 : Nat)), ((((0 : Nat) + (List.length h)) * (4 : Nat)) ≤ (140737488355328 : Nat)), SumOK Tryd.prog DS (bodyN Tryd.f13 6) (loopL DS (rf6Sn k h m w2 h at' [slI 18 (0 : Nat)]) (.exit 12) (rf6Sn k h m w2 v at' [])), (at' = at'), ((0 : Int) = (((0 : Nat) : Nat) : Int)), (k = k), (h = h), (m = m), (w2 = w2), ((([] : List (Int)) ++ h) = h), SumOK Tryd.prog DS (bodyN Tryd.f13 7) (loopL DS (rf6Sn k h m w2 v at' [slI 21 (0 : Nat)]) (.exit 14) (rf3Sn k h' m [slI 10 at'])), (at' = at'), ((0 : Int) = (((0 : Nat) : Nat) : Int)), (k = k), (h = h), (m = m), (w2 = w2), (v = v), (Go.Abs.InI64 (at' + (64 : Int))), ((at' + (64 : Int)) = (at' + (64 : Int))), (k = k), (h' = h'), (m = m)] := by kernel_rfl
theorem rf3_r (k h m w0 w1 w2 v h' : List Int) (at' : Int)
    (h1 : ((decide (at' < (((List.length m) : Nat) : Int))) = Bool.true))
    (h2 : SumOK Tryd.prog DS (bodyN Tryd.f13 4) (loopL DS (rf4Sn k h m w0 at' [slI 12 (0 : Nat)]) (.exit 8) (rf4Sn k h m w1 at' [])))
    (h3 : (([] : List (Int)) = w0))
    (h4 : SumOK Tryd.prog DS (bodyN Tryd.f13 5) (loopL DS (rf4Sn k h m w1 at' [slI 14 16]) (.exit 10) (rf4Sn k h m w2 at' [])))
    (h5 : (((0 : Nat) + (List.length h)) ≤ (9223372036854775807 : Nat)))
    (h6 : ((((0 : Nat) + (List.length h)) * (4 : Nat)) ≤ (140737488355328 : Nat)))
    (h7 : SumOK Tryd.prog DS (bodyN Tryd.f13 6) (loopL DS (rf6Sn k h m w2 h at' [slI 18 (0 : Nat)]) (.exit 12) (rf6Sn k h m w2 v at' [])))
    (h8 : ((([] : List (Int)) ++ h) = h))
    (h9 : SumOK Tryd.prog DS (bodyN Tryd.f13 7) (loopL DS (rf6Sn k h m w2 v at' [slI 21 (0 : Nat)]) (.exit 14) (rf3Sn k h' m [slI 10 at'])))
    (h10 : (Go.Abs.InI64 (at' + (64 : Int)))) :
    ∃ ps, stepPs Tryd.prog DS gamR 100 (bodyN Tryd.f13 3) 100 (rf3Sn k h m [slI 10 at']).st [.is true, .loop (loopL DS (rf4Sn k h m w0 at' [slI 12 (0 : Nat)]) (.exit 8) (rf4Sn k h m w1 at' [])), .loop (loopL DS (rf4Sn k h m w1 at' [slI 14 16]) (.exit 10) (rf4Sn k h m w2 at' [])), .loop (loopL DS (rf6Sn k h m w2 h at' [slI 18 (0 : Nat)]) (.exit 12) (rf6Sn k h m w2 v at' [])), .loop (loopL DS (rf6Sn k h m w2 v at' [slI 21 (0 : Nat)]) (.exit 14) (rf3Sn k h' m [slI 10 at']))] .normal (rf3Sn k h' m [slI 10 (at' + 64)]) = some ps ∧ AllQ ps := ⟨_, rf3_r_r k h m w0 w1 w2 v h' at', AllP.all ⟨h1, h2, rfl, (show ((0 : Int) = (((0 : Nat) : Nat) : Int)) from by decide), rfl, rfl, rfl, h3, h4, rfl, rfl, rfl, rfl, rfl, rfl, h5, h6, h7, rfl, (show ((0 : Int) = (((0 : Nat) : Nat) : Int)) from by decide), rfl, rfl, rfl, rfl, h8, h9, rfl, (show ((0 : Int) = (((0 : Nat) : Nat) : Int)) from by decide), rfl, rfl, rfl, rfl, rfl, h10, rfl, rfl, rfl, rfl⟩⟩

theorem rf3_x_r (k h m : List Int) (at' : Int) : stepPs Tryd.prog DS gamR 100 (bodyN Tryd.f13 3) 100 (rf3Sn k h m [slI 10 at']).st [.is false] (.exit 6) (rf3Sn k h m []) =
    some [((decide (at' < (((List.length m) : Nat) : Int))) = Bool.false), (k = k), (h = h), (m = m)] := by kernel_rfl
theorem rf3_x (k h m : List Int) (at' : Int)
    (h1 : ((decide (at' < (((List.length m) : Nat) : Int))) = Bool.false)) :
    ∃ ps, stepPs Tryd.prog DS gamR 100 (bodyN Tryd.f13 3) 100 (rf3Sn k h m [slI 10 at']).st [.is false] (.exit 6) (rf3Sn k h m []) = some ps ∧ AllQ ps := ⟨_, rf3_x_r k h m at', AllP.all ⟨h1, rfl, rfl, rfl⟩⟩

theorem rf_run_r (l k0 h0 k h m0 m1 m2 h' o0 o : List Int) (i z : Int) : runF Tryd.prog DS gamR 100 Tryd.f13 [.one (.words .u8 l)] [.loop (loopL DS (rf0Sn l primesL k0 h0 (0 : Nat)) (.exit 0) (rf0Sn l primesL k h i)), .loop (loopL DS (rf1Sn l k h m0 []) (.exit 2) (rf1Sn l k h m1 [])), .loop (loopL DS (rf1Sn l k h m1 [(8, .v (.one (.int .u64 false z))), slI 9 7]) (.exit 4) (rf3Sn k h m2 [])), .loop (loopL DS (rf3Sn k h m2 [slI 10 (0 : Nat)]) (.exit 6) (rf3Sn k h' m2 [])), .loop (loopL DS (rf8Sn h' o0 (0 : Nat)) (.exit 16) (rfEnd o))] =
    some ((Go.Abs.AV.v (Go.Abs.A0.one (Go.Abs.Part.fresh (0 : Nat) (5 : TypeId) Go.IntKind.u8 o))), [((64 : Int) = (64 : Int)), SumOK Tryd.prog DS (bodyN Tryd.f13 0) (loopL DS (rf0Sn l primesL k0 h0 (0 : Nat)) (.exit 0) (rf0Sn l primesL k h i)), (l = l), ((0 : Int) = (((0 : Nat) : Nat) : Int)), (((2 : Int) :: ((3 : Int) :: ((5 : Int) :: ((7 : Int) :: ((11 : Int) :: ((13 : Int) :: ((17 : Int) :: ((19 : Int) :: ((23 : Int) :: ((29 : Int) :: ((31 : Int) :: ((37 : Int) :: ((41 : Int) :: ((43 : Int) :: ((47 : Int) :: ((53 : Int) :: ((59 : Int) :: ((61 : Int) :: ((67 : Int) :: ((71 : Int) :: ((73 : Int) :: ((79 : Int) :: ((83 : Int) :: ((89 : Int) :: ((97 : Int) :: ((101 : Int) :: ((103 : Int) :: ((107 : Int) :: ((109 : Int) :: ((113 : Int) :: ((127 : Int) :: ((131 : Int) :: ((137 : Int) :: ((139 : Int) :: ((149 : Int) :: ((151 : Int) :: ((157 : Int) :: ((163 : Int) :: ((167 : Int) :: ((173 : Int) :: ((179 : Int) :: ((181 : Int) :: ((191 : Int) :: ((193 : Int) :: ((197 : Int) :: ((199 : Int) :: ((211 : Int) :: ((223 : Int) :: ((227 : Int) :: ((229 : Int) :: ((233 : Int) :: ((239 : Int) :: ((241 : Int) :: ((251 : Int) :: ((257 : Int) :: ((263 : Int) :: ((269 : Int) :: ((271 : Int) :: ((277 : Int) :: ((281 : Int) :: ((283 : Int) :: ((293 : Int) :: ((307 : Int) :: ((311 : Int) :: ([] : List (Int)))))))))))))))))))))))))))))))))))))))))))))))))))))))))))))))))) = ((2 : Int) :: ((3 : Int) :: ((5 : Int) :: ((7 : Int) :: ((11 : Int) :: ((13 : Int) :: ((17 : Int) :: ((19 : Int) :: ((23 : Int) :: ((29 : Int) :: ((31 : Int) :: ((37 : Int) :: ((41 : Int) :: ((43 : Int) :: ((47 : Int) :: ((53 : Int) :: ((59 : Int) :: ((61 : Int) :: ((67 : Int) :: ((71 : Int) :: ((73 : Int) :: ((79 : Int) :: ((83 : Int) :: ((89 : Int) :: ((97 : Int) :: ((101 : Int) :: ((103 : Int) :: ((107 : Int) :: ((109 : Int) :: ((113 : Int) :: ((127 : Int) :: ((131 : Int) :: ((137 : Int) :: ((139 : Int) :: ((149 : Int) :: ((151 : Int) :: ((157 : Int) :: ((163 : Int) :: ((167 : Int) :: ((173 : Int) :: ((179 : Int) :: ((181 : Int) :: ((191 : Int) :: ((193 : Int) :: ((197 : Int) :: ((199 : Int) :: ((211 : Int) :: ((223 : Int) :: ((227 : Int) :: ((229 : Int) :: ((233 : Int) :: ((239 : Int) :: ((241 : Int) :: ((251 : Int) :: ((257 : Int) :: ((263 : Int) :: ((269 : Int) :: ((271 : Int) :: ((277 : Int) :: ((281 : Int) :: ((283 : Int) :: ((293 : Int) :: ((307 : Int) :: ((311 : Int) :: ([] : List (Int))))))))))))))))))))))))))))))))))))))))))))))))))))))))))))))))))), (([] : List (Int)) = k0), (([] : List (Int)) = h0), ((List.length l) ≤ (281474976710656 : Nat)), (((List.length l) + (1 : Nat)) ≤ (9223372036854775807 : Nat)), ((((List.length l) + (1 : Nat)) * (1 : Nat)) ≤ (140737488355328 : Nat)), SumOK Tryd.prog DS (bodyN Tryd.f13 1) (loopL DS (rf1Sn l k h m0 []) (.exit 2) (rf1Sn l k h m1 [])), (l = l), (k = k), (h = h), ((l ++ ((128 : Int) :: ([] : List (Int)))) = m0), SumOK Tryd.prog DS (bodyN Tryd.f13 2) (loopL DS (rf1Sn l k h m1 [(8, .v (.one (.int .u64 false z))), slI 9 7]) (.exit 4) (rf3Sn k h m2 [])), (l = l), ((Go.IntKind.wrap Go.IntKind.u64 ((Go.IntKind.wrap Go.IntKind.u64 (((List.length l) : Nat) : Int)) * (8 : Int))) = z), ((7 : Int) = (7 : Int)), (k = k), (h = h), (m1 = m1), SumOK Tryd.prog DS (bodyN Tryd.f13 3) (loopL DS (rf3Sn k h m2 [slI 10 (0 : Nat)]) (.exit 6) (rf3Sn k h' m2 [])), ((0 : Int) = (((0 : Nat) : Nat) : Int)), (k = k), (h = h), (m2 = m2), SumOK Tryd.prog DS (bodyN Tryd.f13 8) (loopL DS (rf8Sn h' o0 (0 : Nat)) (.exit 16) (rfEnd o)), ((0 : Int) = (((0 : Nat) : Nat) : Int)), (h' = h'), (([] : List (Int)) = o0)]) := by kernel_rfl
theorem rf_run (l k0 h0 k h m0 m1 m2 h' o0 o : List Int) (i z : Int)
    (h1 : SumOK Tryd.prog DS (bodyN Tryd.f13 0) (loopL DS (rf0Sn l primesL k0 h0 (0 : Nat)) (.exit 0) (rf0Sn l primesL k h i)))
    (h2 : (([] : List (Int)) = k0))
    (h3 : (([] : List (Int)) = h0))
    (h4 : ((List.length l) ≤ (281474976710656 : Nat)))
    (h5 : (((List.length l) + (1 : Nat)) ≤ (9223372036854775807 : Nat)))
    (h6 : ((((List.length l) + (1 : Nat)) * (1 : Nat)) ≤ (140737488355328 : Nat)))
    (h7 : SumOK Tryd.prog DS (bodyN Tryd.f13 1) (loopL DS (rf1Sn l k h m0 []) (.exit 2) (rf1Sn l k h m1 [])))
    (h8 : ((l ++ ((128 : Int) :: ([] : List (Int)))) = m0))
    (h9 : SumOK Tryd.prog DS (bodyN Tryd.f13 2) (loopL DS (rf1Sn l k h m1 [(8, .v (.one (.int .u64 false z))), slI 9 7]) (.exit 4) (rf3Sn k h m2 [])))
    (h10 : ((Go.IntKind.wrap Go.IntKind.u64 ((Go.IntKind.wrap Go.IntKind.u64 (((List.length l) : Nat) : Int)) * (8 : Int))) = z))
    (h11 : SumOK Tryd.prog DS (bodyN Tryd.f13 3) (loopL DS (rf3Sn k h m2 [slI 10 (0 : Nat)]) (.exit 6) (rf3Sn k h' m2 [])))
    (h12 : SumOK Tryd.prog DS (bodyN Tryd.f13 8) (loopL DS (rf8Sn h' o0 (0 : Nat)) (.exit 16) (rfEnd o)))
    (h13 : (([] : List (Int)) = o0)) :
    ∃ ps, runF Tryd.prog DS gamR 100 Tryd.f13 [.one (.words .u8 l)] [.loop (loopL DS (rf0Sn l primesL k0 h0 (0 : Nat)) (.exit 0) (rf0Sn l primesL k h i)), .loop (loopL DS (rf1Sn l k h m0 []) (.exit 2) (rf1Sn l k h m1 [])), .loop (loopL DS (rf1Sn l k h m1 [(8, .v (.one (.int .u64 false z))), slI 9 7]) (.exit 4) (rf3Sn k h m2 [])), .loop (loopL DS (rf3Sn k h m2 [slI 10 (0 : Nat)]) (.exit 6) (rf3Sn k h' m2 [])), .loop (loopL DS (rf8Sn h' o0 (0 : Nat)) (.exit 16) (rfEnd o))] = some ((Go.Abs.AV.v (Go.Abs.A0.one (Go.Abs.Part.fresh (0 : Nat) (5 : TypeId) Go.IntKind.u8 o))), ps) ∧ AllQ ps := ⟨_, rf_run_r l k0 h0 k h m0 m1 m2 h' o0 o i z, AllP.all ⟨rfl, h1, rfl, (show ((0 : Int) = (((0 : Nat) : Nat) : Int)) from by decide), rfl, h2, h3, h4, h5, h6, h7, rfl, rfl, rfl, h8, h9, rfl, h10, rfl, rfl, rfl, rfl, h11, (show ((0 : Int) = (((0 : Nat) : Nat) : Int)) from by decide), rfl, rfl, rfl, h12, (show ((0 : Int) = (((0 : Nat) : Nat) : Int)) from by decide), rfl, h13⟩⟩

end Go.Num
