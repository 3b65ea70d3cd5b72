/- The reference's roots: the contracts. -/
import Derived.Test.YtlobkhocdmepfaaFpMath
import Derived.Test.YtlobkhocdmepfaaFpRef
namespace Go.Num
open Go.Abs Go.Proofs Go.Shelf Go.Alg

def sqrt4D : FnD FD
  | [.one (.words .u32 l)] => some (.tup [.one (.fresh 0 64 .u32 (W 24 (sqOf (v16 l) % fld.m))), .one (.bool false (decide (sqOf (v16 l) * sqOf (v16 l) % fld.m = v16 l)))], [In16 l, l.length ≤ 1000000])
  | _ => none

theorem sqrt4_ok : FnOK Try.prog FD 46 sqrt4D := by
  refine fnOK_of gamT_ok mixed Try.func46 (enters_of Try.func46 (by kernel_rfl) rfl) ?_
  intro xs r ps h hps
  unfold sqrt4D at h
  split at h
  · rename_i l
    simp only [Option.some.injEq, Prod.mk.injEq] at h
    obtain ⟨rfl, rfl⟩ := h
    have h16 : In16 l := hps _ (by simp)
    have hl : l.length ≤ 1000000 := hps _ (by simp)
    obtain ⟨ps, h1, h2⟩ := sqrt4_run l (W_in16 _ _) (in16_cons (by decide) in16_nil) (W_in16 _ _) (W_in16 _ _) h16 (W_in16 _ _) hl (W_in16 _ _) (by rw [W_len, W_len]; omega) (W_in16 _ _) (by rw [W_len, W_len]; omega) (by omega)
    refine ⟨_, 100, _, _, _, fun w vs h => h, h1, h2, fun E v hv => ?_⟩
    rw [W_len, vM, vX] at hv
    have e : ∀ n : Nat, n = sqrtE → v16 l ^ n = sqOf (v16 l) := fun n h => by rw [h]; rfl
    rw [e _ (by decide)] at hv
    refine tup2 (fun v hv => hv) (fun v hv => one_bool ?_ hv) hv
    rw [vX, ← Int.mul_emod]
  · cases h

def large4D : FnD FD
  | [.one (.words .u32 l)] => some (.v (.one (.bool false (decide (fld.m < 2 * v16 l)))), [In16 l, l.length ≤ 1000000])
  | _ => none

theorem large4_ok : FnOK Try.prog FD 48 large4D := by
  refine fnOK_of gamT_ok mixed Try.func48 (enters_of Try.func48 (by kernel_rfl) rfl) ?_
  intro xs r ps h hps
  unfold large4D at h
  split at h
  · rename_i l
    simp only [Option.some.injEq, Prod.mk.injEq] at h
    obtain ⟨rfl, rfl⟩ := h
    have h16 : In16 l := hps _ (by simp)
    have hl : l.length ≤ 1000000 := hps _ (by simp)
    have hif : (if l.length < l.length then l.length else l.length) = l.length := by split <;> rfl
    obtain ⟨ps, h1, h2⟩ := large4_run l h16 (by omega) (W_in16 _ _) (W_in16 _ _) (by rw [W_len, hif]; omega)
    refine ⟨_, 100, _, _, _, fun w vs h => h, h1, h2, fun E v hv => one_bool ?_ hv⟩
    have a1 := v16_range h16
    have b3 := H_double (show l.length < l.length + 1 by omega)
    rw [hif, vM, mod_self_pow (x := v16 l + v16 l) ⟨by omega, by omega⟩]
    refine decide_eq_decide.2 ?_
    omega
  · cases h

end Go.Num
