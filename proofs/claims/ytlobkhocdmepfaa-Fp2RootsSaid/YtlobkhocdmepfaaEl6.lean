/- A field's numbers: nought. -/
import Derived.Test.YtlobkhocdmepfaaEl5
import Derived.Test.YtlobkhocdmepfaaEqT
namespace Go.Num
open Go.Abs Go.Proofs

theorem el_eqT : EqT Try.prog 28 := eqT_of (n := 6) (by kernel_rfl) (by kernel_rfl) (by kernel_rfl) (by kernel_rfl)
theorem bytes_eqT : EqT Try.prog 49 := eqT_of (n := 48) (by kernel_rfl) (by kernel_rfl) (by kernel_rfl) (by kernel_rfl)

def zeroD : FnD FD
  | [.agg p] => match elOf p with
    | some a => some (.v (.one (.bool false (decide (a % fld.m = 0 % fld.m)))), [])
    | _ => none
  | _ => none

theorem zero_run (a : Int) : runF Try.prog FD gam5 100 Try.f18 [.agg [.tag (.el a)]] [.keep, .keep] = some (.v (.one (.bool false (decide (a % fld.m = 0 % fld.m)))), [EqT Try.prog 28]) := by kernel_rfl

theorem zero_ok : FnOK Try.prog FD 18 zeroD := by
  refine fnOK_of gam5_ok mixed Try.func18 (enters_of Try.func18 (by kernel_rfl) rfl) ?_
  intro xs r ps h hps
  unfold zeroD at h
  split at h
  · rename_i p
    split at h
    · rename_i a ha
      simp only [Option.some.injEq, Prod.mk.injEq] at h
      obtain ⟨rfl, rfl⟩ := h
      exact ⟨_, 100, [.keep, .keep], _, _, fun w vs h => args1 (fun v hv => elOf_rel ha hv) h, zero_run a, allQ_cons el_eqT allQ_nil, fun E v hv => hv⟩
    · cases h
  · cases h

end Go.Num
