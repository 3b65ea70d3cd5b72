/- Numbers laid side by side by 'or'. -/
import Derived.Test.YtbgcfmmkbocpoaaByte
import Derived.Test.YtbgcfmmkbocpoaaAbs
namespace Go.Num
open Go.Abs

theorem or_nat {a b : Nat} (ha : a < 18446744073709551616) (hb : b < 18446744073709551616) : bitsOf .or .u64 (a : Int) (b : Int) = ((a ||| b : Nat) : Int) := by
  have h : a ||| b < 2 ^ 64 := Nat.or_lt_two_pow (by omega) (by omega)
  show IntKind.u64.wrap (((BitVec.ofInt 64 (a : Int) ||| BitVec.ofInt 64 (b : Int)).toNat : Nat) : Int) = _
  rw [BitVec.toNat_or, BitVec.ofInt_natCast, BitVec.ofInt_natCast, BitVec.toNat_ofNat, BitVec.toNat_ofNat, Nat.mod_eq_of_lt (by omega), Nat.mod_eq_of_lt (by omega), IntKind.wrap_u64]
  omega

/-- What lies apart is added. -/
theorem or_add {q b t : Nat} (hb : b < 2 ^ t) (h : 2 ^ t * q + b < 18446744073709551616) : bitsOf .or .u64 ((2 ^ t * q : Nat) : Int) (b : Int) = ((2 ^ t * q + b : Nat) : Int) := by
  rw [or_nat (by omega) (by omega), Nat.two_pow_add_eq_or_of_lt hb]

end Go.Num
