/- A field's numbers: small ones. -/
import Derived.Test.YtbgcfmmkbocpoaaEl4
namespace Go.Num
open Go.Abs Go.Proofs

def gam4 : Gam FD := (57, el2D fun a b => a * b) :: (59, el1D fun a => a * a) :: (29, el1D fun a => 0 - a) :: gam3
theorem gam4_ok : GamOK Try.prog FD gam4 := gam_cons mul_ok (gam_cons square_ok (gam_cons neg_ok gam3_ok))

def shiftD : FnD FD
  | [] => some (.v (.agg [.tag (.el fld.R)]), [])
  | _ => none

/-- As often times itself, or added to itself. -/
def sqs : Nat → Int → Int
  | 0, x => x
  | n + 1, x => sqs n (x * x)

def dbl : Nat → Int → Int
  | 0, x => x
  | n + 1, x => dbl n (x + x)

theorem shift_ok : FnOK Try.prog FD 54 shiftD := by
  refine fnOK_of gam4_ok mixed Try.func54 (enters_of Try.func54 (by kernel_rfl) rfl) ?_
  intro xs r ps h hps
  unfold shiftD at h
  split at h
  · simp only [Option.some.injEq, Prod.mk.injEq] at h
    obtain ⟨rfl, rfl⟩ := h
    refine ⟨[], 100, [.roll, .roll], .v (.agg [.tag (.el (sqs 7 (dbl 3 1)))]), [], fun w vs h => h, by kernel_rfl, allQ_nil, ?_⟩
    intro E v hv
    have e : fld.enc (sqs 7 (dbl 3 1)) = fld.enc fld.R := by kernel_rfl
    refine (el_num fld).2 ?_
    rw [← e]
    exact (el_num fld).1 hv
  · cases h

def ofD : FnD FD
  | [.one (.int .u64 _ n)] => some (.v (.agg [.tag (.el n)]), [Rng n])
  | _ => none

def gam5 : Gam FD := (54, shiftD) :: gam4
theorem gam5_ok : GamOK Try.prog FD gam5 := gam_cons shift_ok gam4_ok

theorem of_run (n : Int) (b : Bool) : runF Try.prog FD gam5 100 Try.f28 [.one (.int .u64 b n)] [] =
    some (.v (.agg [.tag (.num (fld.mont (fld.enc fld.R) (val (n :: List.replicate 5 0) % fld.R)))]), [0 ≤ fld.enc fld.R ∧ fld.enc fld.R < fld.m, InR (n :: List.replicate 5 0), (n :: List.replicate 5 0).length = 6]) := by kernel_rfl

theorem val_zeros : ∀ n, val (List.replicate n 0) = 0
  | 0 => rfl
  | n + 1 => by rw [List.replicate_succ, val, val_zeros n]; rfl

theorem inR_zeros (n : Nat) : InR (List.replicate n 0) := by
  intro a ha
  rw [List.eq_of_mem_replicate ha]
  exact rng_zero

theorem of_ok : FnOK Try.prog FD 28 ofD := by
  refine fnOK_of gam5_ok mixed Try.func28 (enters_of Try.func28 (by kernel_rfl) rfl) ?_
  intro xs r ps h hps
  unfold ofD at h
  split at h
  · rename_i b n
    simp only [Option.some.injEq, Prod.mk.injEq] at h
    obtain ⟨rfl, rfl⟩ := h
    have hn : Rng n := hps _ (by simp)
    have hi : InR (n :: List.replicate 5 0) := inR_cons hn (inR_zeros _)
    refine ⟨_, 100, [], _, _, fun w vs h => h, of_run n b, allQ_cons (fld.enc_range _) (allQ_cons hi (allQ_cons (by simp) allQ_nil)), fun E v hv => ?_⟩
    refine (el_num fld).2 (num_num fld ?_ hv)
    have hv' := val_range hi
    have e1 : val (n :: List.replicate 5 0) % fld.R = n := by
      rw [Int.emod_eq_of_lt hv'.1 (by have := hv'.2; exact this), val, val_zeros]
      omega
    rw [e1, fld.mont_enc, Int.mul_comm]
    rfl
  · cases h

end Go.Num
