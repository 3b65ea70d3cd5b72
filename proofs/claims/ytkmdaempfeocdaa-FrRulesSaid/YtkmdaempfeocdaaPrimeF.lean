/- The field's modulus is prime. Plain mathematics. -/
import Derived.Test.YtkmdaempfeocdaaPrime
namespace Go.Alg

theorem pr0 : Pr 254760293 := prime_trial (k := 15960) (by kernel_rfl)
theorem pr1 : Pr 906349 := prime_trial (k := 951) (by kernel_rfl)
theorem pr2 : Pr 2 := prime_trial (k := 0) (by kernel_rfl)
theorem pr3 : Pr 3 := prime_trial (k := 0) (by kernel_rfl)
theorem fieldPr : Pr 52435875175126190479447740508185965837690552500527637822603658699938581184513 := prime_pock (B := 228988810152649578064853576960394133504) (k := 256) (c := [(254760293, 2, 2), (906349, 2, 2), (2, 32, 5), (3, 1, 2)])
  (by
    intro x hx
    simp only [List.mem_cons, List.not_mem_nil, or_false] at hx
    rcases hx with rfl | rfl | rfl | rfl
    · exact pr0
    · exact pr1
    · exact pr2
    · exact pr3) (by kernel_rfl)

end Go.Alg
