/- Files by name: how they are told. -/
import Derived.Test.YtakigppkbolmnaaCopy
import Derived.Test.YtakigppkbolmnaaSame
import Derived.Test.YtakigppkbolmnaaLoop
namespace Go.Num
open Go.Abs Go.Proofs Go.Shelf

/-- A file: its bytes, how many are safe. -/
def fileOb (l : List Int) (s : Int) : Ob := .node [.w l, .i s] []
def obD : Ob → List Int
  | .node r _ => recW r 0
def obS : Ob → Int
  | .node r _ => recI r 1

/-- The files by name. -/
def filesF : FamD Empty where
  row := false
  kt := 9
  vt := 68
  ksh := [.str]
  kagg := false
  vagg := true
  n := 1
  root := fun ob => [.own 0, .int .i64 false (obS ob)]
  boxes := fun ob => [.dyn 5 (.ints .u8 (obD ob))]
  impl := fun
    | [.own b, .int .i64 _ s] => .box b fun
      | .dyn _ (.ints .u8 l) => .ret (fileOb l s, [b])
      | _ => .fail
    | _ => .fail

def DF : Dom where
  τ := Empty
  size := fun t => t.elim
  rel := fun t => t.elim
  eqv := fun t => t.elim
  eqs := fun t => t.elim
  len := fun t => t.elim
  one := fun t => t.elim
  fam := fun k => bif Nat.beq k 0 then some filesF else none
  famOf := fun t => bif Nat.beq t 64 then some 0 else none

end Go.Num
