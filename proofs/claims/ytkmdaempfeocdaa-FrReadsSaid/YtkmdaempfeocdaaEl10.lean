/- A field's numbers: powers. -/
import Derived.Test.YtkmdaempfeocdaaEl9
namespace Go.Num
open Go.Abs Go.Proofs Go.Shelf

def powMulD : FnD FD
  | [.agg [.tag (.pow a n)], .agg [.tag (.pow b k)]] => some (.v (.agg [.tag (.pow a (n + k))]), [a = b])
  | _ => none

def powSqD : FnD FD
  | [.agg [.tag (.pow a n)]] => some (.v (.agg [.tag (.pow a (n + n))]), [])
  | _ => none

def powOneD (a : Int) : FnD FD
  | [] => some (.v (.agg [.tag (.pow a 0)]), [])
  | _ => none

theorem pow_el {E : Env} {a : Int} {n : Nat} {v : Value} : A0Rel FD E (.agg [.tag (.pow a n)]) v ↔ A0Rel FD E (.agg [.tag (.el (a ^ n))]) v := Iff.rfl

theorem powMul_ok : FnOK Try.prog FD 13 powMulD := by
  refine fnOK_post mul_ok ?_
  intro xs r ps h hps
  unfold powMulD at h
  split at h
  · rename_i a n b k
    simp only [Option.some.injEq, Prod.mk.injEq] at h
    obtain ⟨rfl, rfl⟩ := h
    have hab : a = b := hps _ (by simp)
    subst hab
    refine ⟨[.agg [.tag (.el (a ^ n))], .agg [.tag (.el (a ^ k))]], _, _, fun w vs h => args2 (fun v hv => pow_el.1 hv) (fun v hv => pow_el.1 hv) h, rfl, allQ_nil, fun E v hv => ?_⟩
    refine pow_el.2 ?_
    rw [Int.pow_add]
    exact hv
  · cases h

theorem powSq_ok : FnOK Try.prog FD 27 powSqD := by
  refine fnOK_post square_ok ?_
  intro xs r ps h hps
  unfold powSqD at h
  split at h
  · rename_i a n
    simp only [Option.some.injEq, Prod.mk.injEq] at h
    obtain ⟨rfl, rfl⟩ := h
    refine ⟨[.agg [.tag (.el (a ^ n))]], _, _, fun w vs h => args1 (fun v hv => pow_el.1 hv) h, rfl, allQ_nil, fun E v hv => ?_⟩
    refine pow_el.2 ?_
    rw [Int.pow_add]
    exact hv
  · cases h

theorem powOne_ok (a : Int) : FnOK Try.prog FD 49 (powOneD a) := by
  refine fnOK_post one_ok ?_
  intro xs r ps h hps
  unfold powOneD at h
  split at h
  · simp only [Option.some.injEq, Prod.mk.injEq] at h
    obtain ⟨rfl, rfl⟩ := h
    refine ⟨[], _, _, fun w vs h => h, rfl, allQ_nil, fun E v hv => ?_⟩
    refine pow_el.2 ?_
    rw [Int.pow_zero]
    exact hv
  · cases h

def gamP (a : Int) : Gam FD := (13, powMulD) :: (27, powSqD) :: (49, powOneD a) :: gam5
theorem gamP_ok (a : Int) : GamOK Try.prog FD (gamP a) := gam_cons powMul_ok (gam_cons powSq_ok (gam_cons (powOne_ok a) gam5_ok))

def litsP (l : List Int) : List (Part FD.τ) := l.map (.int .u64 true)

def invE : Nat := 52435875175126190479447740508185965837690552500527637822603658699938581184513 - 2
def invL : List Int := [18446744069414584319, 6034159408538082302, 3691218898639771653, 8353516859464449352]

theorem inv_pow (a : Int) : runF Try.prog FD (gamP a) 600 Try.f47 [.agg [.tag (.pow a 1)], .agg (litsP invL)] (List.replicate (2 + 4 * 16) .roll) =
    some (.v (.agg [.tag (.pow a invE)]), List.replicate (15 + 4 * 16) (a = a)) := by kernel_rfl

end Go.Num
