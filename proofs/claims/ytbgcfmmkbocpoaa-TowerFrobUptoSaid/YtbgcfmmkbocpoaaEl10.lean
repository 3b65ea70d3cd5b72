/- A field's numbers: powers. -/
import Derived.Test.YtbgcfmmkbocpoaaEl8
namespace Go.Num
open Go.Abs Go.Proofs Go.Shelf

def powMulD : FnD FD
  | [.agg [.tag (.pow a n)], .agg [.tag (.pow b k)]] => some (.v (.agg [.tag (.pow a (n + k))]), [a = b])
  | _ => none

def powSqD : FnD FD
  | [.agg [.tag (.pow a n)]] => some (.v (.agg [.tag (.pow a (n + n))]), [])
  | _ => none

def powOneD (a : Int) : FnD FD
  | [] => some (.v (.agg [.tag (.pow a 0)]), [])
  | _ => none

theorem pow_el {E : Env} {a : Int} {n : Nat} {v : Value} : A0Rel FD E (.agg [.tag (.pow a n)]) v ↔ A0Rel FD E (.agg [.tag (.el (a ^ n))]) v := Iff.rfl

theorem powMul_ok : FnOK Try.prog FD 57 powMulD := by
  refine fnOK_post mul_ok ?_
  intro xs r ps h hps
  unfold powMulD at h
  split at h
  · rename_i a n b k
    simp only [Option.some.injEq, Prod.mk.injEq] at h
    obtain ⟨rfl, rfl⟩ := h
    have hab : a = b := hps _ (by simp)
    subst hab
    refine ⟨[.agg [.tag (.el (a ^ n))], .agg [.tag (.el (a ^ k))]], _, _, fun w vs h => args2 (fun v hv => pow_el.1 hv) (fun v hv => pow_el.1 hv) h, rfl, allQ_nil, fun E v hv => ?_⟩
    refine pow_el.2 ?_
    rw [Int.pow_add]
    exact hv
  · cases h

theorem powSq_ok : FnOK Try.prog FD 59 powSqD := by
  refine fnOK_post square_ok ?_
  intro xs r ps h hps
  unfold powSqD at h
  split at h
  · rename_i a n
    simp only [Option.some.injEq, Prod.mk.injEq] at h
    obtain ⟨rfl, rfl⟩ := h
    refine ⟨[.agg [.tag (.el (a ^ n))]], _, _, fun w vs h => args1 (fun v hv => pow_el.1 hv) h, rfl, allQ_nil, fun E v hv => ?_⟩
    refine pow_el.2 ?_
    rw [Int.pow_add]
    exact hv
  · cases h

theorem powOne_ok (a : Int) : FnOK Try.prog FD 74 (powOneD a) := by
  refine fnOK_post one_ok ?_
  intro xs r ps h hps
  unfold powOneD at h
  split at h
  · simp only [Option.some.injEq, Prod.mk.injEq] at h
    obtain ⟨rfl, rfl⟩ := h
    refine ⟨[], _, _, fun w vs h => h, rfl, allQ_nil, fun E v hv => ?_⟩
    refine pow_el.2 ?_
    rw [Int.pow_zero]
    exact hv
  · cases h

def gamP (a : Int) : Gam FD := (57, powMulD) :: (59, powSqD) :: (74, powOneD a) :: gam5
theorem gamP_ok (a : Int) : GamOK Try.prog FD (gamP a) := gam_cons powMul_ok (gam_cons powSq_ok (gam_cons (powOne_ok a) gam5_ok))

def litsP (l : List Int) : List (Part FD.τ) := l.map (.int .u64 true)

def invE : Nat := 4002409555221667393417789825735904156556882819939007885332058136124031650490837864442687629129015664037894272559787 - 2
def invL : List Int := [13402431016077863593, 2210141511517208575, 7435674573564081700, 7239337960414712511, 5412103778470702295, 1873798617647539866]

theorem inv_pow (a : Int) : runF Try.prog FD (gamP a) 600 Try.f82 [.agg [.tag (.pow a 1)], .agg (litsP invL)] (List.replicate (2 + 6 * 16) .roll) =
    some (.v (.agg [.tag (.pow a invE)]), List.replicate (15 + 6 * 16) (a = a)) := by kernel_rfl

end Go.Num
