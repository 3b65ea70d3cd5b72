/- A field's laws: the head of each. -/
import Derived.Test.YtnjcnfaopdgjgaaFpRef2
namespace Go.Num
open Go.Abs Go.Proofs Go.Shelf Go.Alg

def gamX : Gam FD := (20, sqrtD) :: (21, oddD) :: (22, largeD) :: (37, sqrt4D) :: (38, large4D) :: gamI
theorem gamX_ok : GamOK Try.prog FD gamX := gam_cons sqrt_ok (gam_cons odd_ok (gam_cons large_ok (gam_cons sqrt4_ok (gam_cons large4_ok gamI_ok))))
def gamY : Gam FD := (23, el1D invOf) :: (24, ofD) :: (18, zeroD) :: gamX
theorem gamY_ok : GamOK Try.prog FD gamY := gam_cons inv_ok (gam_cons of_ok (gam_cons zero_ok gamX_ok))

theorem head_run_r  : runF Try.prog FD gamY 100 Try.f11 [] [.is true, .is false, .is true, .is false, .is true, .is true] =
    some ((Go.Abs.AV.v (Go.Abs.A0.one (Go.Abs.Part.bool Bool.true Bool.true))), [(Go.Num.Rng (4 : Int)), ((Go.Num.hasSq (4 : Int)) = Bool.true), (Go.Num.Rng (1 : Int)), ((Go.Num.hasSq ((0 : Int) - (1 : Int))) = Bool.false), (Go.Num.Rng (4 : Int)), ((decide ((((if ((Go.Num.hasSq (4 : Int)) = Bool.true) then (Go.Num.sqOf (4 : Int)) else (0 : Int)) * (if ((Go.Num.hasSq (4 : Int)) = Bool.true) then (Go.Num.sqOf (4 : Int)) else (0 : Int))) % (Go.Num.Fld.m Go.Num.fld)) = ((4 : Int) % (Go.Num.Fld.m Go.Num.fld)))) = Bool.true), (Go.Abs.EqT Go.Proofs.Try.prog (27 : Nat)), (Go.Num.Rng (1 : Int)), ((decide ((((0 : Int) - (1 : Int)) % (Go.Num.Fld.m Go.Num.fld)) < ((1 : Int) % (Go.Num.Fld.m Go.Num.fld)))) = Bool.false), (Go.Num.Rng (1 : Int)), ((decide ((((0 : Int) - ((0 : Int) - (1 : Int))) % (Go.Num.Fld.m Go.Num.fld)) < (((0 : Int) - (1 : Int)) % (Go.Num.Fld.m Go.Num.fld)))) = Bool.true), (Go.Num.Rng (3 : Int)), ((decide ((((3 : Int) % (Go.Num.Fld.m Go.Num.fld)) % (2 : Int)) = (1 : Int))) = Bool.true)]) := by kernel_rfl
theorem head_run 
    (h1 : ((Go.Num.hasSq (4 : Int)) = Bool.true))
    (h2 : ((Go.Num.hasSq ((0 : Int) - (1 : Int))) = Bool.false))
    (h3 : ((decide ((((if ((Go.Num.hasSq (4 : Int)) = Bool.true) then (Go.Num.sqOf (4 : Int)) else (0 : Int)) * (if ((Go.Num.hasSq (4 : Int)) = Bool.true) then (Go.Num.sqOf (4 : Int)) else (0 : Int))) % (Go.Num.Fld.m Go.Num.fld)) = ((4 : Int) % (Go.Num.Fld.m Go.Num.fld)))) = Bool.true))
    (h4 : (Go.Abs.EqT Go.Proofs.Try.prog (27 : Nat))) :
    ∃ ps, runF Try.prog FD gamY 100 Try.f11 [] [.is true, .is false, .is true, .is false, .is true, .is true] = some ((Go.Abs.AV.v (Go.Abs.A0.one (Go.Abs.Part.bool Bool.true Bool.true))), ps) ∧ AllQ ps := ⟨_, head_run_r , AllP.all ⟨(show (Go.Num.Rng (4 : Int)) from by decide), h1, (show (Go.Num.Rng (1 : Int)) from by decide), h2, (show (Go.Num.Rng (4 : Int)) from by decide), h3, h4, (show (Go.Num.Rng (1 : Int)) from by decide), (show ((decide ((((0 : Int) - (1 : Int)) % (Go.Num.Fld.m Go.Num.fld)) < ((1 : Int) % (Go.Num.Fld.m Go.Num.fld)))) = Bool.false) from by decide), (show (Go.Num.Rng (1 : Int)) from by decide), (show ((decide ((((0 : Int) - ((0 : Int) - (1 : Int))) % (Go.Num.Fld.m Go.Num.fld)) < (((0 : Int) - (1 : Int)) % (Go.Num.Fld.m Go.Num.fld)))) = Bool.true) from by decide), (show (Go.Num.Rng (3 : Int)) from by decide), (show ((decide ((((3 : Int) % (Go.Num.Fld.m Go.Num.fld)) % (2 : Int)) = (1 : Int))) = Bool.true) from by decide)⟩⟩

def headD : FnD FD
  | [] => some (.v (.one (.bool true true)), [])
  | _ => none

theorem head_ok : FnOK Try.prog FD 11 headD := by
  refine fnOK_of gamY_ok mixed Try.func11 (enters_of Try.func11 (by kernel_rfl) rfl) ?_
  intro xs r ps h hps
  unfold headD at h
  split at h
  · simp only [Option.some.injEq, Prod.mk.injEq] at h
    obtain ⟨rfl, rfl⟩ := h
    have h4 : hasSq 4 = true := hasSq_mul_self 2
    have h5 : hasSq (0 - 1) = false := by
      have h6 := one_root (b := 1) (by decide)
      rw [show hasSq 1 = true from hasSq_mul_self 1] at h6
      cases hh : hasSq (0 - 1)
      · rfl
      · rw [hh] at h6
        cases h6
    obtain ⟨ps, h1, h2⟩ := head_run h4 h5 (by
      rw [if_pos h4]
      exact h4) el_eqT
    exact ⟨[], 100, _, _, _, fun w vs h => h, h1, h2, fun E v hv => hv⟩
  · cases h

def gamZ : Gam FD := (11, headD) :: (25, isD) :: (30, numberD) :: (12, wideD) :: (13, copyD FD) ::
  (31, mod3D FD (fun a b _ => a + b) (fun _ _ _ => True)) :: (32, mod3D FD (fun a b c => a + c - b) (fun a b c => b ≤ a + c)) :: (33, mod3D FD (fun a b _ => a * b) (fun _ _ _ => True)) ::
  (35, lessD FD) :: (36, same3D FD) :: gamY
theorem gamZ_ok : GamOK Try.prog FD gamZ := gam_cons head_ok (gam_cons is_ok (gam_cons number_ok (gam_cons wide_ok (gam_cons (copy_ok FD)
  (gam_cons (add3_ok FD) (gam_cons (sub3_ok FD) (gam_cons (mul3_ok FD) (gam_cons (less_ok FD) (gam_cons (same3_ok FD) gamY_ok)))))))))

end Go.Num
