/- A field's numbers: nought. -/
import Derived.Test.YtbgcfmmkbocpoaaEl5
import Derived.Test.YtbgcfmmkbocpoaaEqT
namespace Go.Num
open Go.Abs Go.Proofs

theorem el_eqT : EqT Try.prog 34 := eqT_of (n := 6) (by kernel_rfl) (by kernel_rfl) (by kernel_rfl) (by kernel_rfl)
theorem bytes_eqT : EqT Try.prog 57 := eqT_of (n := 48) (by kernel_rfl) (by kernel_rfl) (by kernel_rfl) (by kernel_rfl)




end Go.Num
