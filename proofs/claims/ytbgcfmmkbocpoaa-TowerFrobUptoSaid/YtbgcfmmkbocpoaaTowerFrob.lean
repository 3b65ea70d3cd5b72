/- TowerFrob. -/
import Derived.Test.YtbgcfmmkbocpoaaTw14
namespace Go.Num
open Go.Abs Go.Proofs Go.Shelf Go.Alg

def gam30 : Gam FD := (28, ofD) :: (29, el1D fun a => 0 - a) :: (30, bytesD) :: gam29
theorem gam30_ok : GamOK Try.prog FD gam30 := gam_cons of_ok (gam_cons neg_ok (gam_cons bytes_ok gam29_ok))

theorem frobL_long_r (a b : List Int) : runF Try.prog FD gam30 200 Try.f8 [.one (.words .u8 a), .one (.words .u8 b)] [.is true] =
    some ((Go.Abs.AV.v (Go.Abs.A0.one (Go.Abs.Part.bool Bool.true Bool.true))), [((decide (((((List.length a) : Nat) : Int) > (2000 : Int)) ∨ ((((List.length b) : Nat) : Int) > (2000 : Int)))) = Bool.true)]) := by kernel_rfl
theorem frobL_long (a b : List Int)
    (h1 : ((decide (((((List.length a) : Nat) : Int) > (2000 : Int)) ∨ ((((List.length b) : Nat) : Int) > (2000 : Int)))) = Bool.true)) :
    ∃ ps, runF Try.prog FD gam30 200 Try.f8 [.one (.words .u8 a), .one (.words .u8 b)] [.is true] = some ((Go.Abs.AV.v (Go.Abs.A0.one (Go.Abs.Part.bool Bool.true Bool.true))), ps) ∧ AllQ ps := ⟨_, frobL_long_r a b, AllP.all h1⟩

theorem frobL_run_r (a b : List Int) : runF Try.prog FD gam30 200 Try.f8 [.one (.words .u8 a), .one (.words .u8 b)] [.is false, .is false, .is false, .roll, .is false, .roll, .is true] =
    some ((Go.Abs.AV.v (Go.Abs.A0.one (Go.Abs.Part.bool Bool.true Bool.true))), [((decide (((((List.length a) : Nat) : Int) > (2000 : Int)) ∨ ((((List.length b) : Nat) : Int) > (2000 : Int)))) = Bool.false), (Go.Num.InB a), ((List.length a) ≤ (1000000 : Nat)), (Go.Num.InB b), ((List.length b) ≤ (1000000 : Nat)), (Go.Num.Rng (1 : Int)), (((0 : Nat) + (47 : Nat)) < (List.length (Go.Num.beB (48 : Nat) (((0 : Int) - (1 : Int)) % (Go.Num.Fld.m Go.Num.fld))))), (((0 : Nat) + (47 : Nat)) < (List.length (Go.Num.beB (48 : Nat) (((0 : Int) - (1 : Int)) % (Go.Num.Fld.m Go.Num.fld))))), ((some (1 : Nat)) = (some (1 : Nat))), (Go.Num.InB (List.set (Go.Num.beB (48 : Nat) (((0 : Int) - (1 : Int)) % (Go.Num.Fld.m Go.Num.fld))) ((0 : Nat) + (47 : Nat)) (Go.IntKind.wrap Go.IntKind.u8 ((List.getD (Go.Num.beB (48 : Nat) (((0 : Int) - (1 : Int)) % (Go.Num.Fld.m Go.Num.fld))) ((0 : Nat) + (47 : Nat)) (0 : Int)) + (1 : Int))))), ((List.length (List.set (Go.Num.beB (48 : Nat) (((0 : Int) - (1 : Int)) % (Go.Num.Fld.m Go.Num.fld))) ((0 : Nat) + (47 : Nat)) (Go.IntKind.wrap Go.IntKind.u8 ((List.getD (Go.Num.beB (48 : Nat) (((0 : Int) - (1 : Int)) % (Go.Num.Fld.m Go.Num.fld))) ((0 : Nat) + (47 : Nat)) (0 : Int)) + (1 : Int))))) ≤ (9223372036854775806 : Nat)), ((!(decide (Go.Alg.Q12 (Go.Num.Fld.m Go.Num.fld) (Go.Alg.pw (Go.Num.numK a) (4002409555221667393417789825735904156556882819939007885332058136124031650490837864442687629129015664037894272559787 : Nat)) (Go.Num.frob12 (Go.Num.numK a))))) = Bool.false), (Go.Abs.EqT Go.Proofs.Try.prog (40 : Nat)), ((!(decide (Go.Alg.Q12 (Go.Num.Fld.m Go.Num.fld) (Go.Num.frob12 (Go.Num.mul12 (Go.Num.numK a) (Go.Num.numK b))) (Go.Num.mul12 (Go.Num.frob12 (Go.Num.numK a)) (Go.Num.frob12 (Go.Num.numK b)))))) = Bool.false), (Go.Abs.EqT Go.Proofs.Try.prog (40 : Nat)), (Go.Num.Rng (1 : Int)), (Go.Num.Rng (0 : Int)), (Go.Num.Rng (1 : Int)), (Go.Num.Rng (1 : Int)), (Go.Num.Rng (1 : Int)), (Go.Num.Rng (1 : Int)), ((!(decide (Go.Alg.Q2 (Go.Num.Fld.m Go.Num.fld) ((((((((@Go.Alg.Quad.mk Int (-(1 : Int)) (1 : Int) (0 : Int)) * Go.Num.rootK) * Go.Num.rootK) * Go.Num.rootK) * Go.Num.rootK) * Go.Num.rootK) * Go.Num.rootK) * (@Go.Alg.Quad.mk Int (-(1 : Int)) (1 : Int) (1 : Int))) (Go.Num.cj (@Go.Alg.Quad.mk Int (-(1 : Int)) (1 : Int) (1 : Int)))))) = Bool.false), (Go.Abs.EqT Go.Proofs.Try.prog (36 : Nat)), ((decide (Go.Alg.Q12 (Go.Num.Fld.m Go.Num.fld) (Go.Num.frob12 (Go.Num.frob12 (Go.Num.frob12 (Go.Num.frob12 (Go.Num.frob12 (Go.Num.frob12 (Go.Num.numK a))))))) (Go.Num.cj12 (Go.Num.numK a)))) = Bool.true), (Go.Abs.EqT Go.Proofs.Try.prog (40 : Nat))]) := by kernel_rfl
theorem frobL_run (a b : List Int)
    (h1 : ((decide (((((List.length a) : Nat) : Int) > (2000 : Int)) ∨ ((((List.length b) : Nat) : Int) > (2000 : Int)))) = Bool.false))
    (h2 : (Go.Num.InB a))
    (h3 : ((List.length a) ≤ (1000000 : Nat)))
    (h4 : (Go.Num.InB b))
    (h5 : ((List.length b) ≤ (1000000 : Nat)))
    (h6 : (Go.Num.InB (List.set (Go.Num.beB (48 : Nat) (((0 : Int) - (1 : Int)) % (Go.Num.Fld.m Go.Num.fld))) ((0 : Nat) + (47 : Nat)) (Go.IntKind.wrap Go.IntKind.u8 ((List.getD (Go.Num.beB (48 : Nat) (((0 : Int) - (1 : Int)) % (Go.Num.Fld.m Go.Num.fld))) ((0 : Nat) + (47 : Nat)) (0 : Int)) + (1 : Int))))))
    (h7 : ((!(decide (Go.Alg.Q12 (Go.Num.Fld.m Go.Num.fld) (Go.Alg.pw (Go.Num.numK a) (4002409555221667393417789825735904156556882819939007885332058136124031650490837864442687629129015664037894272559787 : Nat)) (Go.Num.frob12 (Go.Num.numK a))))) = Bool.false))
    (h8 : (Go.Abs.EqT Go.Proofs.Try.prog (40 : Nat)))
    (h9 : ((!(decide (Go.Alg.Q12 (Go.Num.Fld.m Go.Num.fld) (Go.Num.frob12 (Go.Num.mul12 (Go.Num.numK a) (Go.Num.numK b))) (Go.Num.mul12 (Go.Num.frob12 (Go.Num.numK a)) (Go.Num.frob12 (Go.Num.numK b)))))) = Bool.false))
    (h10 : ((!(decide (Go.Alg.Q2 (Go.Num.Fld.m Go.Num.fld) ((((((((@Go.Alg.Quad.mk Int (-(1 : Int)) (1 : Int) (0 : Int)) * Go.Num.rootK) * Go.Num.rootK) * Go.Num.rootK) * Go.Num.rootK) * Go.Num.rootK) * Go.Num.rootK) * (@Go.Alg.Quad.mk Int (-(1 : Int)) (1 : Int) (1 : Int))) (Go.Num.cj (@Go.Alg.Quad.mk Int (-(1 : Int)) (1 : Int) (1 : Int)))))) = Bool.false))
    (h11 : (Go.Abs.EqT Go.Proofs.Try.prog (36 : Nat)))
    (h12 : ((decide (Go.Alg.Q12 (Go.Num.Fld.m Go.Num.fld) (Go.Num.frob12 (Go.Num.frob12 (Go.Num.frob12 (Go.Num.frob12 (Go.Num.frob12 (Go.Num.frob12 (Go.Num.numK a))))))) (Go.Num.cj12 (Go.Num.numK a)))) = Bool.true)) :
    ∃ ps, runF Try.prog FD gam30 200 Try.f8 [.one (.words .u8 a), .one (.words .u8 b)] [.is false, .is false, .is false, .roll, .is false, .roll, .is true] = some ((Go.Abs.AV.v (Go.Abs.A0.one (Go.Abs.Part.bool Bool.true Bool.true))), ps) ∧ AllQ ps := ⟨_, frobL_run_r a b, AllP.all ⟨h1, h2, h3, h4, h5, (show (Go.Num.Rng (1 : Int)) from by decide), (show (((0 : Nat) + (47 : Nat)) < (List.length (Go.Num.beB (48 : Nat) (((0 : Int) - (1 : Int)) % (Go.Num.Fld.m Go.Num.fld))))) from by decide), (show (((0 : Nat) + (47 : Nat)) < (List.length (Go.Num.beB (48 : Nat) (((0 : Int) - (1 : Int)) % (Go.Num.Fld.m Go.Num.fld))))) from by decide), rfl, h6, (show ((List.length (List.set (Go.Num.beB (48 : Nat) (((0 : Int) - (1 : Int)) % (Go.Num.Fld.m Go.Num.fld))) ((0 : Nat) + (47 : Nat)) (Go.IntKind.wrap Go.IntKind.u8 ((List.getD (Go.Num.beB (48 : Nat) (((0 : Int) - (1 : Int)) % (Go.Num.Fld.m Go.Num.fld))) ((0 : Nat) + (47 : Nat)) (0 : Int)) + (1 : Int))))) ≤ (9223372036854775806 : Nat)) from by decide), h7, h8, h9, h8, (show (Go.Num.Rng (1 : Int)) from by decide), (show (Go.Num.Rng (0 : Int)) from by decide), (show (Go.Num.Rng (1 : Int)) from by decide), (show (Go.Num.Rng (1 : Int)) from by decide), (show (Go.Num.Rng (1 : Int)) from by decide), (show (Go.Num.Rng (1 : Int)) from by decide), h10, h11, h12, h8⟩⟩

/-! proof -/

theorem six_root : Md MN ((⟨1, 0⟩ : K2) * rootK * rootK * rootK * rootK * rootK * rootK * ⟨1, 1⟩) (cj ⟨1, 1⟩) := root6

theorem lawFrob {a b : List Int} (ha : InB a) (_la : a.length ≤ 140737488351232) (hb : InB b) (_lb : b.length ≤ 140737488351232) : LawOK Try.f8 [.one (.words .u8 a), .one (.words .u8 b)] := by
  by_cases h : (a.length : Int) > 2000 ∨ (b.length : Int) > 2000
  · obtain ⟨ps, h1, h2⟩ := frobL_long a b (decide_eq_true h)
    exact ⟨gam30, gam30_ok, _, ps, h1, h2⟩
  have hl : a.length ≤ 2000 ∧ b.length ≤ 2000 := by omega
  obtain ⟨ps, h1, h2⟩ := frobL_run a b (decide_eq_false h) ha (by omega) hb (by omega) (inB_lit (by kernel_rfl)) (not_of (q12_of (pw_frob (numK a)))) e12_eqT (not_of (q12_of (frob_mul (numK a) (numK b))))
    (not_of (decide_eq_true (md_q2m.1 six_root))) e2_eqT (q12_of (frob_6 (numK a)))
  exact ⟨gam30, gam30_ok, _, ps, h1, h2⟩

end Go.Num
