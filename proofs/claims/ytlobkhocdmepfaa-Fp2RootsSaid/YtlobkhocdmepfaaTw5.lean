/- Pairs of a field's numbers: roots, which are odd, which are the greater. -/
import Derived.Test.YtlobkhocdmepfaaFp2Math
import Derived.Test.YtlobkhocdmepfaaFpRef2
namespace Go.Num
open Go.Abs Go.Proofs Go.Shelf Go.Alg

def gamS2 : Gam FD := (65, sqrtD) :: (67, oddD) :: (68, largeD) :: gam12
theorem gamS2_ok : GamOK Try.prog FD gamS2 := gam_cons sqrt_ok (gam_cons odd_ok (gam_cons large_ok gam12_ok))

theorem sq2_a_r (x : K2) : runF Try.prog FD gamS2 100 Try.f42 [eP x] [.is true, .is true, .is true, .is true] =
    some ((Go.Abs.AV.tup ((Go.Abs.A0.agg ((Go.Abs.Part.tag (Go.Num.T.el (if ((Go.Num.hasSq (x).1) = Bool.true) then (Go.Num.sqOf (x).1) else (0 : Int)))) :: ((Go.Abs.Part.int Go.IntKind.u64 Bool.true (0 : Int)) :: ((Go.Abs.Part.int Go.IntKind.u64 Bool.true (0 : Int)) :: ((Go.Abs.Part.int Go.IntKind.u64 Bool.true (0 : Int)) :: ((Go.Abs.Part.int Go.IntKind.u64 Bool.true (0 : Int)) :: ((Go.Abs.Part.int Go.IntKind.u64 Bool.true (0 : Int)) :: ((Go.Abs.Part.int Go.IntKind.u64 Bool.true (0 : Int)) :: ([] : List (Part FD.τ)))))))))) :: ((Go.Abs.A0.one (Go.Abs.Part.bool Bool.true Bool.true)) :: ([] : List (A0 FD.τ))))), [((decide (((x).2 % (Go.Num.Fld.m Go.Num.fld)) = ((0 : Int) % (Go.Num.Fld.m Go.Num.fld)))) = Bool.true), ((Go.Num.hasSq (x).1) = Bool.true)]) := by kernel_rfl
theorem sq2_a (x : K2)
    (h1 : ((decide (((x).2 % (Go.Num.Fld.m Go.Num.fld)) = ((0 : Int) % (Go.Num.Fld.m Go.Num.fld)))) = Bool.true))
    (h2 : ((Go.Num.hasSq (x).1) = Bool.true)) :
    ∃ ps, runF Try.prog FD gamS2 100 Try.f42 [eP x] [.is true, .is true, .is true, .is true] = some ((Go.Abs.AV.tup ((Go.Abs.A0.agg ((Go.Abs.Part.tag (Go.Num.T.el (if ((Go.Num.hasSq (x).1) = Bool.true) then (Go.Num.sqOf (x).1) else (0 : Int)))) :: ((Go.Abs.Part.int Go.IntKind.u64 Bool.true (0 : Int)) :: ((Go.Abs.Part.int Go.IntKind.u64 Bool.true (0 : Int)) :: ((Go.Abs.Part.int Go.IntKind.u64 Bool.true (0 : Int)) :: ((Go.Abs.Part.int Go.IntKind.u64 Bool.true (0 : Int)) :: ((Go.Abs.Part.int Go.IntKind.u64 Bool.true (0 : Int)) :: ((Go.Abs.Part.int Go.IntKind.u64 Bool.true (0 : Int)) :: ([] : List (Part FD.τ)))))))))) :: ((Go.Abs.A0.one (Go.Abs.Part.bool Bool.true Bool.true)) :: ([] : List (A0 FD.τ))))), ps) ∧ AllQ ps := ⟨_, sq2_a_r x, AllP.all ⟨h1, h2⟩⟩

theorem sq2_b_r (x : K2) : runF Try.prog FD gamS2 100 Try.f42 [eP x] [.is true, .is false, .is true] =
    some ((Go.Abs.AV.tup ((Go.Abs.A0.agg ((Go.Abs.Part.int Go.IntKind.u64 Bool.true (0 : Int)) :: ((Go.Abs.Part.int Go.IntKind.u64 Bool.true (0 : Int)) :: ((Go.Abs.Part.int Go.IntKind.u64 Bool.true (0 : Int)) :: ((Go.Abs.Part.int Go.IntKind.u64 Bool.true (0 : Int)) :: ((Go.Abs.Part.int Go.IntKind.u64 Bool.true (0 : Int)) :: ((Go.Abs.Part.int Go.IntKind.u64 Bool.true (0 : Int)) :: ((Go.Abs.Part.tag (Go.Num.T.el (if ((Go.Num.hasSq ((0 : Int) - (x).1)) = Bool.true) then (Go.Num.sqOf ((0 : Int) - (x).1)) else (0 : Int)))) :: ([] : List (Part FD.τ)))))))))) :: ((Go.Abs.A0.one (Go.Abs.Part.bool Bool.true Bool.true)) :: ([] : List (A0 FD.τ))))), [((decide (((x).2 % (Go.Num.Fld.m Go.Num.fld)) = ((0 : Int) % (Go.Num.Fld.m Go.Num.fld)))) = Bool.true), ((Go.Num.hasSq (x).1) = Bool.false), ((Go.Num.hasSq ((0 : Int) - (x).1)) = Bool.true)]) := by kernel_rfl
theorem sq2_b (x : K2)
    (h1 : ((decide (((x).2 % (Go.Num.Fld.m Go.Num.fld)) = ((0 : Int) % (Go.Num.Fld.m Go.Num.fld)))) = Bool.true))
    (h2 : ((Go.Num.hasSq (x).1) = Bool.false))
    (h3 : ((Go.Num.hasSq ((0 : Int) - (x).1)) = Bool.true)) :
    ∃ ps, runF Try.prog FD gamS2 100 Try.f42 [eP x] [.is true, .is false, .is true] = some ((Go.Abs.AV.tup ((Go.Abs.A0.agg ((Go.Abs.Part.int Go.IntKind.u64 Bool.true (0 : Int)) :: ((Go.Abs.Part.int Go.IntKind.u64 Bool.true (0 : Int)) :: ((Go.Abs.Part.int Go.IntKind.u64 Bool.true (0 : Int)) :: ((Go.Abs.Part.int Go.IntKind.u64 Bool.true (0 : Int)) :: ((Go.Abs.Part.int Go.IntKind.u64 Bool.true (0 : Int)) :: ((Go.Abs.Part.int Go.IntKind.u64 Bool.true (0 : Int)) :: ((Go.Abs.Part.tag (Go.Num.T.el (if ((Go.Num.hasSq ((0 : Int) - (x).1)) = Bool.true) then (Go.Num.sqOf ((0 : Int) - (x).1)) else (0 : Int)))) :: ([] : List (Part FD.τ)))))))))) :: ((Go.Abs.A0.one (Go.Abs.Part.bool Bool.true Bool.true)) :: ([] : List (A0 FD.τ))))), ps) ∧ AllQ ps := ⟨_, sq2_b_r x, AllP.all ⟨h1, h2, h3⟩⟩

theorem sq2_c_r (x : K2) : runF Try.prog FD gamS2 100 Try.f42 [eP x] [.is false, .is false, .is false, .is false] =
    some ((Go.Abs.AV.tup ((Go.Abs.A0.agg ((Go.Abs.Part.int Go.IntKind.u64 Bool.true (0 : Int)) :: ((Go.Abs.Part.int Go.IntKind.u64 Bool.true (0 : Int)) :: ((Go.Abs.Part.int Go.IntKind.u64 Bool.true (0 : Int)) :: ((Go.Abs.Part.int Go.IntKind.u64 Bool.true (0 : Int)) :: ((Go.Abs.Part.int Go.IntKind.u64 Bool.true (0 : Int)) :: ((Go.Abs.Part.int Go.IntKind.u64 Bool.true (0 : Int)) :: ((Go.Abs.Part.int Go.IntKind.u64 Bool.true (0 : Int)) :: ((Go.Abs.Part.int Go.IntKind.u64 Bool.true (0 : Int)) :: ((Go.Abs.Part.int Go.IntKind.u64 Bool.true (0 : Int)) :: ((Go.Abs.Part.int Go.IntKind.u64 Bool.true (0 : Int)) :: ((Go.Abs.Part.int Go.IntKind.u64 Bool.true (0 : Int)) :: ((Go.Abs.Part.int Go.IntKind.u64 Bool.true (0 : Int)) :: ([] : List (Part FD.τ))))))))))))))) :: ((Go.Abs.A0.one (Go.Abs.Part.bool Bool.true Bool.false)) :: ([] : List (A0 FD.τ))))), [((decide (((x).2 % (Go.Num.Fld.m Go.Num.fld)) = ((0 : Int) % (Go.Num.Fld.m Go.Num.fld)))) = Bool.false), ((Go.Num.hasSq (Go.Num.nrm (@Go.Alg.Quad.mk Int (-(1 : Int)) (x).1 (x).2))) = Bool.false)]) := by kernel_rfl
theorem sq2_c (x : K2)
    (h1 : ((decide (((x).2 % (Go.Num.Fld.m Go.Num.fld)) = ((0 : Int) % (Go.Num.Fld.m Go.Num.fld)))) = Bool.false))
    (h2 : ((Go.Num.hasSq (Go.Num.nrm (@Go.Alg.Quad.mk Int (-(1 : Int)) (x).1 (x).2))) = Bool.false)) :
    ∃ ps, runF Try.prog FD gamS2 100 Try.f42 [eP x] [.is false, .is false, .is false, .is false] = some ((Go.Abs.AV.tup ((Go.Abs.A0.agg ((Go.Abs.Part.int Go.IntKind.u64 Bool.true (0 : Int)) :: ((Go.Abs.Part.int Go.IntKind.u64 Bool.true (0 : Int)) :: ((Go.Abs.Part.int Go.IntKind.u64 Bool.true (0 : Int)) :: ((Go.Abs.Part.int Go.IntKind.u64 Bool.true (0 : Int)) :: ((Go.Abs.Part.int Go.IntKind.u64 Bool.true (0 : Int)) :: ((Go.Abs.Part.int Go.IntKind.u64 Bool.true (0 : Int)) :: ((Go.Abs.Part.int Go.IntKind.u64 Bool.true (0 : Int)) :: ((Go.Abs.Part.int Go.IntKind.u64 Bool.true (0 : Int)) :: ((Go.Abs.Part.int Go.IntKind.u64 Bool.true (0 : Int)) :: ((Go.Abs.Part.int Go.IntKind.u64 Bool.true (0 : Int)) :: ((Go.Abs.Part.int Go.IntKind.u64 Bool.true (0 : Int)) :: ((Go.Abs.Part.int Go.IntKind.u64 Bool.true (0 : Int)) :: ([] : List (Part FD.τ))))))))))))))) :: ((Go.Abs.A0.one (Go.Abs.Part.bool Bool.true Bool.false)) :: ([] : List (A0 FD.τ))))), ps) ∧ AllQ ps := ⟨_, sq2_c_r x, AllP.all ⟨h1, h2⟩⟩

theorem sq2_d_r (x : K2) : runF Try.prog FD gamS2 100 Try.f42 [eP x] [.is false, .is true, .is true, .is true, .is true] =
    some ((Go.Abs.AV.tup ((Go.Abs.A0.agg ((Go.Abs.Part.tag (Go.Num.T.e2 (Go.Num.scl (@Go.Alg.Quad.mk Int (-(1 : Int)) ((x).1 + (if ((Go.Num.hasSq (Go.Num.nrm (@Go.Alg.Quad.mk Int (-(1 : Int)) (x).1 (x).2))) = Bool.true) then (Go.Num.sqOf (Go.Num.nrm (@Go.Alg.Quad.mk Int (-(1 : Int)) (x).1 (x).2))) else (0 : Int))) (x).2) (Go.Num.invOf (if ((Go.Num.hasSq (((x).1 + (if ((Go.Num.hasSq (Go.Num.nrm (@Go.Alg.Quad.mk Int (-(1 : Int)) (x).1 (x).2))) = Bool.true) then (Go.Num.sqOf (Go.Num.nrm (@Go.Alg.Quad.mk Int (-(1 : Int)) (x).1 (x).2))) else (0 : Int))) + ((x).1 + (if ((Go.Num.hasSq (Go.Num.nrm (@Go.Alg.Quad.mk Int (-(1 : Int)) (x).1 (x).2))) = Bool.true) then (Go.Num.sqOf (Go.Num.nrm (@Go.Alg.Quad.mk Int (-(1 : Int)) (x).1 (x).2))) else (0 : Int))))) = Bool.true) then (Go.Num.sqOf (((x).1 + (if ((Go.Num.hasSq (Go.Num.nrm (@Go.Alg.Quad.mk Int (-(1 : Int)) (x).1 (x).2))) = Bool.true) then (Go.Num.sqOf (Go.Num.nrm (@Go.Alg.Quad.mk Int (-(1 : Int)) (x).1 (x).2))) else (0 : Int))) + ((x).1 + (if ((Go.Num.hasSq (Go.Num.nrm (@Go.Alg.Quad.mk Int (-(1 : Int)) (x).1 (x).2))) = Bool.true) then (Go.Num.sqOf (Go.Num.nrm (@Go.Alg.Quad.mk Int (-(1 : Int)) (x).1 (x).2))) else (0 : Int))))) else (0 : Int)))))) :: ([] : List (Part FD.τ)))) :: ((Go.Abs.A0.one (Go.Abs.Part.bool Bool.true Bool.true)) :: ([] : List (A0 FD.τ))))), [((decide (((x).2 % (Go.Num.Fld.m Go.Num.fld)) = ((0 : Int) % (Go.Num.Fld.m Go.Num.fld)))) = Bool.false), ((Go.Num.hasSq (Go.Num.nrm (@Go.Alg.Quad.mk Int (-(1 : Int)) (x).1 (x).2))) = Bool.true), ((Go.Num.hasSq (((x).1 + (if ((Go.Num.hasSq (Go.Num.nrm (@Go.Alg.Quad.mk Int (-(1 : Int)) (x).1 (x).2))) = Bool.true) then (Go.Num.sqOf (Go.Num.nrm (@Go.Alg.Quad.mk Int (-(1 : Int)) (x).1 (x).2))) else (0 : Int))) + ((x).1 + (if ((Go.Num.hasSq (Go.Num.nrm (@Go.Alg.Quad.mk Int (-(1 : Int)) (x).1 (x).2))) = Bool.true) then (Go.Num.sqOf (Go.Num.nrm (@Go.Alg.Quad.mk Int (-(1 : Int)) (x).1 (x).2))) else (0 : Int))))) = Bool.true)]) := by kernel_rfl
theorem sq2_d (x : K2)
    (h1 : ((decide (((x).2 % (Go.Num.Fld.m Go.Num.fld)) = ((0 : Int) % (Go.Num.Fld.m Go.Num.fld)))) = Bool.false))
    (h2 : ((Go.Num.hasSq (Go.Num.nrm (@Go.Alg.Quad.mk Int (-(1 : Int)) (x).1 (x).2))) = Bool.true))
    (h3 : ((Go.Num.hasSq (((x).1 + (if ((Go.Num.hasSq (Go.Num.nrm (@Go.Alg.Quad.mk Int (-(1 : Int)) (x).1 (x).2))) = Bool.true) then (Go.Num.sqOf (Go.Num.nrm (@Go.Alg.Quad.mk Int (-(1 : Int)) (x).1 (x).2))) else (0 : Int))) + ((x).1 + (if ((Go.Num.hasSq (Go.Num.nrm (@Go.Alg.Quad.mk Int (-(1 : Int)) (x).1 (x).2))) = Bool.true) then (Go.Num.sqOf (Go.Num.nrm (@Go.Alg.Quad.mk Int (-(1 : Int)) (x).1 (x).2))) else (0 : Int))))) = Bool.true)) :
    ∃ ps, runF Try.prog FD gamS2 100 Try.f42 [eP x] [.is false, .is true, .is true, .is true, .is true] = some ((Go.Abs.AV.tup ((Go.Abs.A0.agg ((Go.Abs.Part.tag (Go.Num.T.e2 (Go.Num.scl (@Go.Alg.Quad.mk Int (-(1 : Int)) ((x).1 + (if ((Go.Num.hasSq (Go.Num.nrm (@Go.Alg.Quad.mk Int (-(1 : Int)) (x).1 (x).2))) = Bool.true) then (Go.Num.sqOf (Go.Num.nrm (@Go.Alg.Quad.mk Int (-(1 : Int)) (x).1 (x).2))) else (0 : Int))) (x).2) (Go.Num.invOf (if ((Go.Num.hasSq (((x).1 + (if ((Go.Num.hasSq (Go.Num.nrm (@Go.Alg.Quad.mk Int (-(1 : Int)) (x).1 (x).2))) = Bool.true) then (Go.Num.sqOf (Go.Num.nrm (@Go.Alg.Quad.mk Int (-(1 : Int)) (x).1 (x).2))) else (0 : Int))) + ((x).1 + (if ((Go.Num.hasSq (Go.Num.nrm (@Go.Alg.Quad.mk Int (-(1 : Int)) (x).1 (x).2))) = Bool.true) then (Go.Num.sqOf (Go.Num.nrm (@Go.Alg.Quad.mk Int (-(1 : Int)) (x).1 (x).2))) else (0 : Int))))) = Bool.true) then (Go.Num.sqOf (((x).1 + (if ((Go.Num.hasSq (Go.Num.nrm (@Go.Alg.Quad.mk Int (-(1 : Int)) (x).1 (x).2))) = Bool.true) then (Go.Num.sqOf (Go.Num.nrm (@Go.Alg.Quad.mk Int (-(1 : Int)) (x).1 (x).2))) else (0 : Int))) + ((x).1 + (if ((Go.Num.hasSq (Go.Num.nrm (@Go.Alg.Quad.mk Int (-(1 : Int)) (x).1 (x).2))) = Bool.true) then (Go.Num.sqOf (Go.Num.nrm (@Go.Alg.Quad.mk Int (-(1 : Int)) (x).1 (x).2))) else (0 : Int))))) else (0 : Int)))))) :: ([] : List (Part FD.τ)))) :: ((Go.Abs.A0.one (Go.Abs.Part.bool Bool.true Bool.true)) :: ([] : List (A0 FD.τ))))), ps) ∧ AllQ ps := ⟨_, sq2_d_r x, AllP.all ⟨h1, h2, h3⟩⟩

theorem sq2_e_r (x : K2) : runF Try.prog FD gamS2 100 Try.f42 [eP x] [.is false, .is true, .is false, .is true] =
    some ((Go.Abs.AV.tup ((Go.Abs.A0.agg ((Go.Abs.Part.tag (Go.Num.T.e2 (Go.Num.scl (@Go.Alg.Quad.mk Int (-(1 : Int)) ((x).1 - (if ((Go.Num.hasSq (Go.Num.nrm (@Go.Alg.Quad.mk Int (-(1 : Int)) (x).1 (x).2))) = Bool.true) then (Go.Num.sqOf (Go.Num.nrm (@Go.Alg.Quad.mk Int (-(1 : Int)) (x).1 (x).2))) else (0 : Int))) (x).2) (Go.Num.invOf (if ((Go.Num.hasSq (((x).1 - (if ((Go.Num.hasSq (Go.Num.nrm (@Go.Alg.Quad.mk Int (-(1 : Int)) (x).1 (x).2))) = Bool.true) then (Go.Num.sqOf (Go.Num.nrm (@Go.Alg.Quad.mk Int (-(1 : Int)) (x).1 (x).2))) else (0 : Int))) + ((x).1 - (if ((Go.Num.hasSq (Go.Num.nrm (@Go.Alg.Quad.mk Int (-(1 : Int)) (x).1 (x).2))) = Bool.true) then (Go.Num.sqOf (Go.Num.nrm (@Go.Alg.Quad.mk Int (-(1 : Int)) (x).1 (x).2))) else (0 : Int))))) = Bool.true) then (Go.Num.sqOf (((x).1 - (if ((Go.Num.hasSq (Go.Num.nrm (@Go.Alg.Quad.mk Int (-(1 : Int)) (x).1 (x).2))) = Bool.true) then (Go.Num.sqOf (Go.Num.nrm (@Go.Alg.Quad.mk Int (-(1 : Int)) (x).1 (x).2))) else (0 : Int))) + ((x).1 - (if ((Go.Num.hasSq (Go.Num.nrm (@Go.Alg.Quad.mk Int (-(1 : Int)) (x).1 (x).2))) = Bool.true) then (Go.Num.sqOf (Go.Num.nrm (@Go.Alg.Quad.mk Int (-(1 : Int)) (x).1 (x).2))) else (0 : Int))))) else (0 : Int)))))) :: ([] : List (Part FD.τ)))) :: ((Go.Abs.A0.one (Go.Abs.Part.bool Bool.true Bool.true)) :: ([] : List (A0 FD.τ))))), [((decide (((x).2 % (Go.Num.Fld.m Go.Num.fld)) = ((0 : Int) % (Go.Num.Fld.m Go.Num.fld)))) = Bool.false), ((Go.Num.hasSq (Go.Num.nrm (@Go.Alg.Quad.mk Int (-(1 : Int)) (x).1 (x).2))) = Bool.true), ((Go.Num.hasSq (((x).1 + (if ((Go.Num.hasSq (Go.Num.nrm (@Go.Alg.Quad.mk Int (-(1 : Int)) (x).1 (x).2))) = Bool.true) then (Go.Num.sqOf (Go.Num.nrm (@Go.Alg.Quad.mk Int (-(1 : Int)) (x).1 (x).2))) else (0 : Int))) + ((x).1 + (if ((Go.Num.hasSq (Go.Num.nrm (@Go.Alg.Quad.mk Int (-(1 : Int)) (x).1 (x).2))) = Bool.true) then (Go.Num.sqOf (Go.Num.nrm (@Go.Alg.Quad.mk Int (-(1 : Int)) (x).1 (x).2))) else (0 : Int))))) = Bool.false), ((Go.Num.hasSq (((x).1 - (if ((Go.Num.hasSq (Go.Num.nrm (@Go.Alg.Quad.mk Int (-(1 : Int)) (x).1 (x).2))) = Bool.true) then (Go.Num.sqOf (Go.Num.nrm (@Go.Alg.Quad.mk Int (-(1 : Int)) (x).1 (x).2))) else (0 : Int))) + ((x).1 - (if ((Go.Num.hasSq (Go.Num.nrm (@Go.Alg.Quad.mk Int (-(1 : Int)) (x).1 (x).2))) = Bool.true) then (Go.Num.sqOf (Go.Num.nrm (@Go.Alg.Quad.mk Int (-(1 : Int)) (x).1 (x).2))) else (0 : Int))))) = Bool.true)]) := by kernel_rfl
theorem sq2_e (x : K2)
    (h1 : ((decide (((x).2 % (Go.Num.Fld.m Go.Num.fld)) = ((0 : Int) % (Go.Num.Fld.m Go.Num.fld)))) = Bool.false))
    (h2 : ((Go.Num.hasSq (Go.Num.nrm (@Go.Alg.Quad.mk Int (-(1 : Int)) (x).1 (x).2))) = Bool.true))
    (h3 : ((Go.Num.hasSq (((x).1 + (if ((Go.Num.hasSq (Go.Num.nrm (@Go.Alg.Quad.mk Int (-(1 : Int)) (x).1 (x).2))) = Bool.true) then (Go.Num.sqOf (Go.Num.nrm (@Go.Alg.Quad.mk Int (-(1 : Int)) (x).1 (x).2))) else (0 : Int))) + ((x).1 + (if ((Go.Num.hasSq (Go.Num.nrm (@Go.Alg.Quad.mk Int (-(1 : Int)) (x).1 (x).2))) = Bool.true) then (Go.Num.sqOf (Go.Num.nrm (@Go.Alg.Quad.mk Int (-(1 : Int)) (x).1 (x).2))) else (0 : Int))))) = Bool.false))
    (h4 : ((Go.Num.hasSq (((x).1 - (if ((Go.Num.hasSq (Go.Num.nrm (@Go.Alg.Quad.mk Int (-(1 : Int)) (x).1 (x).2))) = Bool.true) then (Go.Num.sqOf (Go.Num.nrm (@Go.Alg.Quad.mk Int (-(1 : Int)) (x).1 (x).2))) else (0 : Int))) + ((x).1 - (if ((Go.Num.hasSq (Go.Num.nrm (@Go.Alg.Quad.mk Int (-(1 : Int)) (x).1 (x).2))) = Bool.true) then (Go.Num.sqOf (Go.Num.nrm (@Go.Alg.Quad.mk Int (-(1 : Int)) (x).1 (x).2))) else (0 : Int))))) = Bool.true)) :
    ∃ ps, runF Try.prog FD gamS2 100 Try.f42 [eP x] [.is false, .is true, .is false, .is true] = some ((Go.Abs.AV.tup ((Go.Abs.A0.agg ((Go.Abs.Part.tag (Go.Num.T.e2 (Go.Num.scl (@Go.Alg.Quad.mk Int (-(1 : Int)) ((x).1 - (if ((Go.Num.hasSq (Go.Num.nrm (@Go.Alg.Quad.mk Int (-(1 : Int)) (x).1 (x).2))) = Bool.true) then (Go.Num.sqOf (Go.Num.nrm (@Go.Alg.Quad.mk Int (-(1 : Int)) (x).1 (x).2))) else (0 : Int))) (x).2) (Go.Num.invOf (if ((Go.Num.hasSq (((x).1 - (if ((Go.Num.hasSq (Go.Num.nrm (@Go.Alg.Quad.mk Int (-(1 : Int)) (x).1 (x).2))) = Bool.true) then (Go.Num.sqOf (Go.Num.nrm (@Go.Alg.Quad.mk Int (-(1 : Int)) (x).1 (x).2))) else (0 : Int))) + ((x).1 - (if ((Go.Num.hasSq (Go.Num.nrm (@Go.Alg.Quad.mk Int (-(1 : Int)) (x).1 (x).2))) = Bool.true) then (Go.Num.sqOf (Go.Num.nrm (@Go.Alg.Quad.mk Int (-(1 : Int)) (x).1 (x).2))) else (0 : Int))))) = Bool.true) then (Go.Num.sqOf (((x).1 - (if ((Go.Num.hasSq (Go.Num.nrm (@Go.Alg.Quad.mk Int (-(1 : Int)) (x).1 (x).2))) = Bool.true) then (Go.Num.sqOf (Go.Num.nrm (@Go.Alg.Quad.mk Int (-(1 : Int)) (x).1 (x).2))) else (0 : Int))) + ((x).1 - (if ((Go.Num.hasSq (Go.Num.nrm (@Go.Alg.Quad.mk Int (-(1 : Int)) (x).1 (x).2))) = Bool.true) then (Go.Num.sqOf (Go.Num.nrm (@Go.Alg.Quad.mk Int (-(1 : Int)) (x).1 (x).2))) else (0 : Int))))) else (0 : Int)))))) :: ([] : List (Part FD.τ)))) :: ((Go.Abs.A0.one (Go.Abs.Part.bool Bool.true Bool.true)) :: ([] : List (A0 FD.τ))))), ps) ∧ AllQ ps := ⟨_, sq2_e_r x, AllP.all ⟨h1, h2, h3, h4⟩⟩

theorem odd2_a_r (x : K2) : runF Try.prog FD gamS2 100 Try.f43 [eP x] [.is true, .keep, .keep] =
    some ((Go.Abs.AV.v (Go.Abs.A0.one (Go.Abs.Part.bool Bool.false (decide ((((x).2 % (Go.Num.Fld.m Go.Num.fld)) % (2 : Int)) = (1 : Int)))))), [((decide (((x).1 % (Go.Num.Fld.m Go.Num.fld)) = ((0 : Int) % (Go.Num.Fld.m Go.Num.fld)))) = Bool.true)]) := by kernel_rfl
theorem odd2_a (x : K2)
    (h1 : ((decide (((x).1 % (Go.Num.Fld.m Go.Num.fld)) = ((0 : Int) % (Go.Num.Fld.m Go.Num.fld)))) = Bool.true)) :
    ∃ ps, runF Try.prog FD gamS2 100 Try.f43 [eP x] [.is true, .keep, .keep] = some ((Go.Abs.AV.v (Go.Abs.A0.one (Go.Abs.Part.bool Bool.false (decide ((((x).2 % (Go.Num.Fld.m Go.Num.fld)) % (2 : Int)) = (1 : Int)))))), ps) ∧ AllQ ps := ⟨_, odd2_a_r x, AllP.all h1⟩

theorem odd2_b_r (x : K2) : runF Try.prog FD gamS2 100 Try.f43 [eP x] [.is false, .keep, .keep] =
    some ((Go.Abs.AV.v (Go.Abs.A0.one (Go.Abs.Part.bool Bool.false (decide ((((x).1 % (Go.Num.Fld.m Go.Num.fld)) % (2 : Int)) = (1 : Int)))))), [((decide (((x).1 % (Go.Num.Fld.m Go.Num.fld)) = ((0 : Int) % (Go.Num.Fld.m Go.Num.fld)))) = Bool.false)]) := by kernel_rfl
theorem odd2_b (x : K2)
    (h1 : ((decide (((x).1 % (Go.Num.Fld.m Go.Num.fld)) = ((0 : Int) % (Go.Num.Fld.m Go.Num.fld)))) = Bool.false)) :
    ∃ ps, runF Try.prog FD gamS2 100 Try.f43 [eP x] [.is false, .keep, .keep] = some ((Go.Abs.AV.v (Go.Abs.A0.one (Go.Abs.Part.bool Bool.false (decide ((((x).1 % (Go.Num.Fld.m Go.Num.fld)) % (2 : Int)) = (1 : Int)))))), ps) ∧ AllQ ps := ⟨_, odd2_b_r x, AllP.all h1⟩

theorem large2_a_r (x : K2) : runF Try.prog FD gamS2 100 Try.f44 [eP x] [.is true, .keep, .keep] =
    some ((Go.Abs.AV.v (Go.Abs.A0.one (Go.Abs.Part.bool Bool.false (decide ((((0 : Int) - (x).1) % (Go.Num.Fld.m Go.Num.fld)) < ((x).1 % (Go.Num.Fld.m Go.Num.fld))))))), [((decide (((x).2 % (Go.Num.Fld.m Go.Num.fld)) = ((0 : Int) % (Go.Num.Fld.m Go.Num.fld)))) = Bool.true)]) := by kernel_rfl
theorem large2_a (x : K2)
    (h1 : ((decide (((x).2 % (Go.Num.Fld.m Go.Num.fld)) = ((0 : Int) % (Go.Num.Fld.m Go.Num.fld)))) = Bool.true)) :
    ∃ ps, runF Try.prog FD gamS2 100 Try.f44 [eP x] [.is true, .keep, .keep] = some ((Go.Abs.AV.v (Go.Abs.A0.one (Go.Abs.Part.bool Bool.false (decide ((((0 : Int) - (x).1) % (Go.Num.Fld.m Go.Num.fld)) < ((x).1 % (Go.Num.Fld.m Go.Num.fld))))))), ps) ∧ AllQ ps := ⟨_, large2_a_r x, AllP.all h1⟩

theorem large2_b_r (x : K2) : runF Try.prog FD gamS2 100 Try.f44 [eP x] [.is false, .keep, .keep] =
    some ((Go.Abs.AV.v (Go.Abs.A0.one (Go.Abs.Part.bool Bool.false (decide ((((0 : Int) - (x).2) % (Go.Num.Fld.m Go.Num.fld)) < ((x).2 % (Go.Num.Fld.m Go.Num.fld))))))), [((decide (((x).2 % (Go.Num.Fld.m Go.Num.fld)) = ((0 : Int) % (Go.Num.Fld.m Go.Num.fld)))) = Bool.false)]) := by kernel_rfl
theorem large2_b (x : K2)
    (h1 : ((decide (((x).2 % (Go.Num.Fld.m Go.Num.fld)) = ((0 : Int) % (Go.Num.Fld.m Go.Num.fld)))) = Bool.false)) :
    ∃ ps, runF Try.prog FD gamS2 100 Try.f44 [eP x] [.is false, .keep, .keep] = some ((Go.Abs.AV.v (Go.Abs.A0.one (Go.Abs.Part.bool Bool.false (decide ((((0 : Int) - (x).2) % (Go.Num.Fld.m Go.Num.fld)) < ((x).2 % (Go.Num.Fld.m Go.Num.fld))))))), ps) ∧ AllQ ps := ⟨_, large2_b_r x, AllP.all h1⟩

def rtA (a : Int) : Int := if hasSq a = true then sqOf a else 0
def sA (x : K2) : Int := x.a + rtA (nrm x)
def sB (x : K2) : Int := x.a - rtA (nrm x)

/-- The root of a pair, where it has one. -/
def rt2 (x : K2) : K2 :=
  if x.b % fld.m = 0 % fld.m then (if hasSq x.a = true then ⟨rtA x.a, 0⟩ else ⟨0, rtA (0 - x.a)⟩)
  else if hasSq (nrm x) = true then
    (if hasSq (sA x + sA x) = true then scl ⟨sA x, x.b⟩ (invOf (rtA (sA x + sA x))) else scl ⟨sB x, x.b⟩ (invOf (rtA (sB x + sB x))))
  else 0

theorem rtA_sq {a : Int} (h : hasSq a = true) : rtA a * rtA a % fld.m = a % fld.m := by
  rw [rtA, if_pos h]
  exact of_decide_eq_true h

/-- Where a number has no root its negative has one. -/
theorem neg_root {a : Int} (h : hasSq a = false) : hasSq (0 - a) = true := by
  have ha : a % fld.m ≠ 0 := fun h0 => by rw [hasSq_zero h0] at h; cases h
  have h1 := one_root ha
  rw [h] at h1
  cases hh : hasSq (0 - a)
  · rw [hh] at h1
    cases h1
  · rfl

theorem cgm {a b : Int} (h : a % fld.m = b % fld.m) : Cg fld.m a b := h

/-- The two that may be half a root's square: their product is a negative square. -/
theorem sAB (x : K2) (hn : hasSq (nrm x) = true) : (sA x + sA x) * (sB x + sB x) % fld.m = (0 - (x.b + x.b) * (x.b + x.b)) % fld.m := by
  have h := rtA_sq hn
  unfold sA sB
  generalize rtA (nrm x) = n at *
  have h1 : Cg fld.m (n * n) (nrm x) := h
  have h2 := (Cg.refl fld.m (4 * (x.a * x.a))).sub ((Cg.refl fld.m 4).mul h1)
  have e1 : (x.a + n + (x.a + n)) * (x.a - n + (x.a - n)) = 4 * (x.a * x.a) - 4 * (n * n) := by grind
  have e2 : 0 - (x.b + x.b) * (x.b + x.b) = 4 * (x.a * x.a) - 4 * nrm x := by unfold nrm; grind
  rw [e1, e2]
  exact h2

theorem two_ne : (2 : Int) % fld.m ≠ 0 := by decide

theorem dbl_ne {b : Int} (h : b % fld.m ≠ 0) : (b + b) % fld.m ≠ 0 := by
  rw [← Int.two_mul]
  exact mul_ne two_ne h

theorem sB_root {x : K2} (hb : x.b % fld.m ≠ 0) (hn : hasSq (nrm x) = true) (h : hasSq (sA x + sA x) = false) : hasSq (sB x + sB x) = true := by
  have hp := sAB x hn
  have h2b := mul_ne (dbl_ne hb) (dbl_ne hb)
  have h3 := one_root h2b
  rw [hasSq_mul_self, ← hasSq_cg hp] at h3
  have hne : (sA x + sA x) * (sB x + sB x) % fld.m ≠ 0 := by
    rw [hp]
    exact neg_ne h2b
  have ha : (sA x + sA x) % fld.m ≠ 0 := fun h0 => hne (by rw [Int.mul_emod, h0, Int.zero_mul, Int.zero_emod])
  have hb' : (sB x + sB x) % fld.m ≠ 0 := fun h0 => hne (by rw [Int.mul_emod, h0, Int.mul_zero, Int.zero_emod])
  have h4 := root_mul ha hb'
  rw [h] at h4
  cases hh : hasSq (sB x + sB x)
  · rw [hh] at h4
    cases hp2 : hasSq ((sA x + sA x) * (sB x + sB x))
    · rw [hp2] at h4
      cases h4
    · rw [hp2] at h3
      cases h3
  · rfl

theorem nrm_b0 {x : K2} (hb : x.b % fld.m = 0) : hasSq (nrm x) = true := by
  have e : nrm x % fld.m = x.a * x.a % fld.m := by
    unfold nrm
    rw [Int.add_emod, Int.mul_emod x.b, hb, Int.zero_mul, Int.zero_emod, Int.add_zero, Int.emod_emod]
  rw [hasSq_cg e, hasSq_mul_self]

/-- A half s, whose square is a times twice it and b squared: it and b over the root of 2 s make up a root. -/
theorem half_root {x : K2} {s t : Int} (hs : s * s % fld.m = ((s + s) * x.a + x.b * x.b) % fld.m) (ht : t * t % fld.m = (s + s) % fld.m) (h0 : (s + s) % fld.m ≠ 0) : Q2 fld.m (scl ⟨s, x.b⟩ (invOf t) * scl ⟨s, x.b⟩ (invOf t)) x := by
  have t0 : t % fld.m ≠ 0 := fun h => h0 (by rw [← ht, Int.mul_emod, h, Int.zero_mul, Int.zero_emod])
  have hw := inv_cg t0
  generalize invOf t = w at *
  have c1 : Cg fld.m (t * w) 1 := hw
  have c2 : Cg fld.m (t * t) (s + s) := ht
  have c3 : Cg fld.m (s * s) ((s + s) * x.a + x.b * x.b) := hs
  have c4 : Cg fld.m ((s + s) * (w * w)) 1 := by
    have := (c2.symm.mul (Cg.refl fld.m (w * w))).trans (by rw [show t * t * (w * w) = t * w * (t * w) from by grind]; exact c1.mul c1)
    rwa [Int.one_mul] at this
  constructor
  · show (s * w * (s * w) + -1 * (x.b * w * (x.b * w))) % fld.m = x.a % fld.m
    rw [show s * w * (s * w) + -1 * (x.b * w * (x.b * w)) = (s * s - x.b * x.b) * (w * w) from by grind]
    have k1 := (c3.sub (Cg.refl fld.m (x.b * x.b))).mul (Cg.refl fld.m (w * w))
    refine (k1 : _ % _ = _ % _).trans ?_
    rw [show ((s + s) * x.a + x.b * x.b - x.b * x.b) * (w * w) = (s + s) * (w * w) * x.a from by grind]
    have := c4.mul (Cg.refl fld.m x.a)
    rwa [Int.one_mul] at this
  · show (s * w * (x.b * w) + x.b * w * (s * w)) % fld.m = x.b % fld.m
    rw [show s * w * (x.b * w) + x.b * w * (s * w) = (s + s) * (w * w) * x.b from by grind]
    have := c4.mul (Cg.refl fld.m x.b)
    rwa [Int.one_mul] at this

/-- The root squared is the number. -/
theorem rt2_sq {x : K2} (h : hasSq (nrm x) = true) : Q2 fld.m (rt2 x * rt2 x) x := by
  unfold rt2
  by_cases hb : x.b % fld.m = 0 % fld.m
  · rw [if_pos hb]
    have hb0 : x.b % fld.m = 0 := by rw [hb, Int.zero_emod]
    cases ha : hasSq x.a
    · rw [if_neg (by decide)]
      have k := rtA_sq (neg_root ha)
      generalize rtA (0 - x.a) = t at *
      constructor
      · show (0 * 0 + -1 * (t * t)) % fld.m = x.a % fld.m
        rw [show (0 * 0 + -1 * (t * t) : Int) = 0 - t * t from by omega, show x.a = 0 - (0 - x.a) from by omega]
        exact (Cg.refl fld.m 0).sub (cgm k)
      · show (0 * t + t * 0) % fld.m = x.b % fld.m
        rw [Int.zero_mul, Int.mul_zero, hb]
        rfl
    · rw [if_pos rfl]
      have k := rtA_sq ha
      generalize rtA x.a = t at *
      constructor
      · show (t * t + -1 * (0 * 0)) % fld.m = x.a % fld.m
        rw [show (t * t + -1 * (0 * 0) : Int) = t * t from by omega]
        exact k
      · show (t * 0 + 0 * t) % fld.m = x.b % fld.m
        rw [Int.zero_mul, Int.mul_zero, hb]
        rfl
  · have hb0 : x.b % fld.m ≠ 0 := fun e => hb (by rw [e, Int.zero_emod])
    rw [if_neg hb, if_pos h]
    have hp := sAB x h
    have hne : (sA x + sA x) * (sB x + sB x) % fld.m ≠ 0 := by
      rw [hp]
      exact neg_ne (mul_ne (dbl_ne hb0) (dbl_ne hb0))
    have ha' : (sA x + sA x) % fld.m ≠ 0 := fun h0 => hne (by rw [Int.mul_emod, h0, Int.zero_mul, Int.zero_emod])
    have hb' : (sB x + sB x) % fld.m ≠ 0 := fun h0 => hne (by rw [Int.mul_emod, h0, Int.mul_zero, Int.zero_emod])
    have hr : Cg fld.m (rtA (nrm x) * rtA (nrm x)) (nrm x) := rtA_sq h
    cases hA : hasSq (sA x + sA x)
    · rw [if_neg (by decide)]
      refine half_root ?_ (rtA_sq (sB_root hb0 h hA)) hb'
      have := (Cg.refl fld.m (x.a * x.a - 2 * (x.a * rtA (nrm x)))).add hr
      unfold sB
      generalize rtA (nrm x) = n at *
      rw [show (x.a - n) * (x.a - n) = x.a * x.a - 2 * (x.a * n) + n * n from by grind, show (x.a - n + (x.a - n)) * x.a + x.b * x.b = x.a * x.a - 2 * (x.a * n) + nrm x from by unfold nrm; grind]
      exact this
    · rw [if_pos rfl]
      refine half_root ?_ (rtA_sq hA) ha'
      have := (Cg.refl fld.m (x.a * x.a + 2 * (x.a * rtA (nrm x)))).add hr
      unfold sA
      generalize rtA (nrm x) = n at *
      rw [show (x.a + n) * (x.a + n) = x.a * x.a + 2 * (x.a * n) + n * n from by grind, show (x.a + n + (x.a + n)) * x.a + x.b * x.b = x.a * x.a + 2 * (x.a * n) + nrm x from by unfold nrm; grind]
      exact this

theorem rt2_none {x : K2} (h : hasSq (nrm x) = false) : rt2 x = 0 := by
  have hb : ¬ x.b % fld.m = 0 % fld.m := fun hb => by
    rw [nrm_b0 (by rw [hb, Int.zero_emod])] at h
    cases h
  rw [rt2, if_neg hb, if_neg (by rw [h]; decide)]

def sqrt2D : FnD FD
  | [.agg p] => match k2Of p with
    | some x => some (.tup [.agg [.tag (.e2 (rt2 x))], .one (.bool false (hasSq (nrm x)))], [])
    | _ => none
  | _ => none

theorem sqrt2_ok : FnOK Try.prog FD 42 sqrt2D := by
  refine fnOK_of gamS2_ok mixed Try.func42 (enters_of Try.func42 (by kernel_rfl) rfl) ?_
  intro xs r ps h hps
  unfold sqrt2D at h
  split at h
  · rename_i p
    split at h
    · rename_i x hx
      simp only [Option.some.injEq, Prod.mk.injEq] at h
      obtain ⟨rfl, rfl⟩ := h
      by_cases hb : x.b % fld.m = 0 % fld.m
      · have hn := nrm_b0 (x := x) (by rw [hb, Int.zero_emod])
        cases ha : hasSq x.a
        · obtain ⟨ps, h1, h2⟩ := sq2_b x (decide_eq_true hb) ha (neg_root ha)
          refine ⟨_, 100, _, _, _, fun w vs h => args1 (fun v hv => k2_els hx hv) h, h1, h2, fun E v hv => ?_⟩
          refine tup2 (fun v hv => e2_of (x := ⟨0, rtA (0 - x.a)⟩) (by kernel_rfl) ?_ hv) (fun v hv => one_bool hn.symm hv) hv
          rw [rt2, if_pos hb, if_neg (by rw [ha]; decide)]
          exact q2_refl _
        · obtain ⟨ps, h1, h2⟩ := sq2_a x (decide_eq_true hb) ha
          refine ⟨_, 100, _, _, _, fun w vs h => args1 (fun v hv => k2_els hx hv) h, h1, h2, fun E v hv => ?_⟩
          refine tup2 (fun v hv => e2_of (x := ⟨rtA x.a, 0⟩) (by kernel_rfl) ?_ hv) (fun v hv => one_bool hn.symm hv) hv
          rw [rt2, if_pos hb, if_pos ha]
          exact q2_refl _
      · have hb0 : x.b % fld.m ≠ 0 := fun e => hb (by rw [e, Int.zero_emod])
        cases hn : hasSq (nrm x)
        · obtain ⟨ps, h1, h2⟩ := sq2_c x (decide_eq_false hb) hn
          refine ⟨_, 100, _, _, _, fun w vs h => args1 (fun v hv => k2_els hx hv) h, h1, h2, fun E v hv => ?_⟩
          refine tup2 (fun v hv => e2_of (x := 0) (by kernel_rfl) ?_ hv) (fun v hv => one_bool rfl hv) hv
          rw [rt2_none hn]
          exact q2_refl _
        · cases hA : hasSq (sA x + sA x)
          · obtain ⟨ps, h1, h2⟩ := sq2_e x (decide_eq_false hb) hn hA (sB_root hb0 hn hA)
            refine ⟨_, 100, _, _, _, fun w vs h => args1 (fun v hv => k2_els hx hv) h, h1, h2, fun E v hv => ?_⟩
            refine tup2 (fun v hv => e2_e2 (x := scl ⟨sB x, x.b⟩ (invOf (rtA (sB x + sB x)))) ?_ hv) (fun v hv => one_bool rfl hv) hv
            rw [rt2, if_neg hb, if_pos hn, if_neg (by rw [hA]; decide)]
            exact q2_refl _
          · obtain ⟨ps, h1, h2⟩ := sq2_d x (decide_eq_false hb) hn hA
            refine ⟨_, 100, _, _, _, fun w vs h => args1 (fun v hv => k2_els hx hv) h, h1, h2, fun E v hv => ?_⟩
            refine tup2 (fun v hv => e2_e2 (x := scl ⟨sA x, x.b⟩ (invOf (rtA (sA x + sA x)))) ?_ hv) (fun v hv => one_bool rfl hv) hv
            rw [rt2, if_neg hb, if_pos hn, if_pos hA]
            exact q2_refl _
    · cases h
  · cases h

def od2 (x : K2) : Bool := if x.a % fld.m = 0 % fld.m then decide (x.b % fld.m % 2 = 1) else decide (x.a % fld.m % 2 = 1)
def lg2 (x : K2) : Bool := if x.b % fld.m = 0 % fld.m then decide ((0 - x.a) % fld.m < x.a % fld.m) else decide ((0 - x.b) % fld.m < x.b % fld.m)

def bool2D (f : K2 → Bool) : FnD FD
  | [.agg p] => match k2Of p with
    | some x => some (.v (.one (.bool false (f x))), [])
    | _ => none
  | _ => none

theorem odd2_ok : FnOK Try.prog FD 43 (bool2D od2) := by
  refine fnOK_of gamS2_ok mixed Try.func43 (enters_of Try.func43 (by kernel_rfl) rfl) ?_
  intro xs r ps h hps
  unfold bool2D at h
  split at h
  · rename_i p
    split at h
    · rename_i x hx
      simp only [Option.some.injEq, Prod.mk.injEq] at h
      obtain ⟨rfl, rfl⟩ := h
      by_cases ha : x.a % fld.m = 0 % fld.m
      · obtain ⟨ps, h1, h2⟩ := odd2_a x (decide_eq_true ha)
        exact ⟨_, 100, _, _, _, fun w vs h => args1 (fun v hv => k2_els hx hv) h, h1, h2, fun E v hv => one_bool (if_pos ha).symm hv⟩
      · obtain ⟨ps, h1, h2⟩ := odd2_b x (decide_eq_false ha)
        exact ⟨_, 100, _, _, _, fun w vs h => args1 (fun v hv => k2_els hx hv) h, h1, h2, fun E v hv => one_bool (if_neg ha).symm hv⟩
    · cases h
  · cases h

theorem large2_ok : FnOK Try.prog FD 44 (bool2D lg2) := by
  refine fnOK_of gamS2_ok mixed Try.func44 (enters_of Try.func44 (by kernel_rfl) rfl) ?_
  intro xs r ps h hps
  unfold bool2D at h
  split at h
  · rename_i p
    split at h
    · rename_i x hx
      simp only [Option.some.injEq, Prod.mk.injEq] at h
      obtain ⟨rfl, rfl⟩ := h
      by_cases hb : x.b % fld.m = 0 % fld.m
      · obtain ⟨ps, h1, h2⟩ := large2_a x (decide_eq_true hb)
        exact ⟨_, 100, _, _, _, fun w vs h => args1 (fun v hv => k2_els hx hv) h, h1, h2, fun E v hv => one_bool (if_pos hb).symm hv⟩
      · obtain ⟨ps, h1, h2⟩ := large2_b x (decide_eq_false hb)
        exact ⟨_, 100, _, _, _, fun w vs h => args1 (fun v hv => k2_els hx hv) h, h1, h2, fun E v hv => one_bool (if_neg hb).symm hv⟩
    · cases h
  · cases h

def gamR2 : Gam FD := (42, sqrt2D) :: (43, bool2D od2) :: (44, bool2D lg2) :: (46, sqrt4D) :: (48, large4D) :: gam12
theorem gamR2_ok : GamOK Try.prog FD gamR2 := gam_cons sqrt2_ok (gam_cons odd2_ok (gam_cons large2_ok (gam_cons sqrt4_ok (gam_cons large4_ok gam12_ok))))

end Go.Num
