/-
  No cell of these rows narrows 'for every input' (looked for: loops, veiled, ifaces, maps, wideKeys, modest, calm, conditions, laid).
  DERIVED. THE GIVEN ROWS OF THIS SEAT. 3 by the template 'for every input the law returns true; each argument reads behind the call as it read before'; 0 by the template 'total and deterministic' (their statements: YtgfinnhfpiadiaaTotals.lean).
  GIVEN WITH THE SEED: the statements are not yours to turn. If you find one false, say at which input.
  Laid BY PROGRAM, IN A SANDBOX (cutbox-rows.mjs): the forced cells as the released guide's own fill.sh prints them over the translation f3bf8d34bce4afca… (all of the seat's roots in one cut). By AI agents, Wed Nov 11 2026. No macro, syntax, notation, axiom, sorry.
-/
import Derived.Test.YtgfinnhfpiadiaaChecked
import GoSem.Claim
import GoSem.ClaimJoined
import GoSem.ClaimMapViews
import Derived.JoinedTies
import Derived.KernelRfl
namespace Go.Proofs.Ytgfinnhfpiadiaa
/- THE CELL 'sum', in the pinned program and in every row, IS THE sha256 OF THE DUMP (.gsa) THAT YtgfinnhfpiadiaaProg.lean LOADS. Nothing in Lean hashes anything: it is a label: what it is worth is what the hold of that sum in a sandbox is worth. -/
noncomputable def Try.pinned : Pinned := { name := "ytgfinnhfpiadiaa", sum := "f3bf8d34bce4afca568c364d6158733cabb0d09adf20b407cae2f5fe32b1396a", checked := Try.checked }
namespace Rows
def none {H : Type} : Left H := { results := [], args := [] }

/-- 'cressetlaw21.BcastAgree': WHATEVER THE INPUT: true; the input reads as it did. -/
def bcastAgreeSpec : ChangeSpec := { name := "bcastAgree", fn := fun _ => fun
  | [d1, d2] => { results := [.lit (.bool true)], args := [d1, d2] }
  | _ => none }
def bcastAgreeRow : OpenClaim := { program := "ytgfinnhfpiadiaa", sum := "f3bf8d34bce4afca568c364d6158733cabb0d09adf20b407cae2f5fe32b1396a", func := "cresset/cressetlaw21.BcastAgree", spec := "bcastAgree", recurses := true, plainKeys := false, apart := false }
def BcastAgreeSaid : Prop := bcastAgreeRow.holds Try.pinned (OpenSpec.ofChange bcastAgreeSpec)

/-- ITS FALSE NEIGHBOUR: 'it returns false'. Refute it at one input. -/
def bcastAgreeWrong : ChangeSpec := { name := "bcastAgree", fn := fun _ => fun
  | [d1, d2] => { results := [.lit (.bool false)], args := [d1, d2] }
  | _ => none }
def BcastAgreeWrongFalsely : Prop := bcastAgreeRow.holds Try.pinned (OpenSpec.ofChange bcastAgreeWrong)

/-- 'cressetlaw21.BcastAll': WHATEVER THE INPUT: true; the input reads as it did. -/
def bcastAllSpec : ChangeSpec := { name := "bcastAll", fn := fun _ => fun
  | [d1, d2] => { results := [.lit (.bool true)], args := [d1, d2] }
  | _ => none }
def bcastAllRow : OpenClaim := { program := "ytgfinnhfpiadiaa", sum := "f3bf8d34bce4afca568c364d6158733cabb0d09adf20b407cae2f5fe32b1396a", func := "cresset/cressetlaw21.BcastAll", spec := "bcastAll", recurses := true, plainKeys := false, apart := false }
def BcastAllSaid : Prop := bcastAllRow.holds Try.pinned (OpenSpec.ofChange bcastAllSpec)

/-- ITS FALSE NEIGHBOUR: 'it returns false'. Refute it at one input. -/
def bcastAllWrong : ChangeSpec := { name := "bcastAll", fn := fun _ => fun
  | [d1, d2] => { results := [.lit (.bool false)], args := [d1, d2] }
  | _ => none }
def BcastAllWrongFalsely : Prop := bcastAllRow.holds Try.pinned (OpenSpec.ofChange bcastAllWrong)

/-- 'cressetlaw21.BcastQuiet': WHATEVER THE INPUT: true; the input reads as it did. -/
def bcastQuietSpec : ChangeSpec := { name := "bcastQuiet", fn := fun _ => fun
  | [d1, d2] => { results := [.lit (.bool true)], args := [d1, d2] }
  | _ => none }
def bcastQuietRow : OpenClaim := { program := "ytgfinnhfpiadiaa", sum := "f3bf8d34bce4afca568c364d6158733cabb0d09adf20b407cae2f5fe32b1396a", func := "cresset/cressetlaw21.BcastQuiet", spec := "bcastQuiet", recurses := true, plainKeys := false, apart := false }
def BcastQuietSaid : Prop := bcastQuietRow.holds Try.pinned (OpenSpec.ofChange bcastQuietSpec)

/-- ITS FALSE NEIGHBOUR: 'it returns false'. Refute it at one input. -/
def bcastQuietWrong : ChangeSpec := { name := "bcastQuiet", fn := fun _ => fun
  | [d1, d2] => { results := [.lit (.bool false)], args := [d1, d2] }
  | _ => none }
def BcastQuietWrongFalsely : Prop := bcastQuietRow.holds Try.pinned (OpenSpec.ofChange bcastQuietWrong)

/- THE SECOND FORM. 'bulk': how many values and letters a reading holds, each counted each time it is reached (what is shared counts as often as it is met; a slice's spare places count too). A statement '..UptoSaid' is the law's where the arguments, and the package variables that the reading takes, are together of bulk at most 1048576: NARROWER than '..Said'. Prove '..Said' where nothing that the law and all that it calls make is longer than what came in: it says more and counts as full. Else prove '..UptoSaid'. A law counts once. -/
mutual
def uptoBulk {H : Type} : DataW H → Nat
  | .lit (.string bytes) => bytes.length + 1
  | .lit _ => 1
  | .nil => 1
  | .ptr d => uptoBulk d + 1
  | .slice elems spare => uptoBulkAll elems + uptoBulkAll spare + 1
  | .agg parts => uptoBulkAll parts + 1
  | .iface _ d => uptoBulk d + 1
  | .map entries => uptoBulkEntries entries + 1
  | .held _ => 1
def uptoBulkAll {H : Type} : List (DataW H) → Nat
  | [] => 0
  | d :: r => uptoBulk d + uptoBulkAll r
def uptoBulkEntries {H : Type} : List (Lit × DataW H) → Nat
  | [] => 0
  | x :: r => uptoBulkEntry x + uptoBulkEntries r
def uptoBulkEntry {H : Type} : Lit × DataW H → Nat
  | (.string bytes, d) => bytes.length + uptoBulk d + 1
  | (_, d) => uptoBulk d + 1
 end
def uptoSmall : (H : Type) → List (DataW H) → Bool := fun _ ds => decide (uptoBulkAll ds ≤ 1048576)
def OpenSpec.upto (s : _root_.Go.ChangeSpec) : _root_.Go.OpenSpec := { _root_.Go.OpenSpec.ofChange s with cond := some uptoSmall }

/-- 'cressetlaw21.BcastAgree', WHERE WHAT IT READS IS OF BULK AT MOST 1048576: true; the input reads as it did. -/
def bcastAgreeUptoRow : OpenClaim := { program := "ytgfinnhfpiadiaa", sum := "f3bf8d34bce4afca568c364d6158733cabb0d09adf20b407cae2f5fe32b1396a", func := "cresset/cressetlaw21.BcastAgree", spec := "bcastAgree", recurses := true, plainKeys := false, apart := false, narrowed := true }
def BcastAgreeUptoSaid : Prop := bcastAgreeUptoRow.holds Try.pinned (OpenSpec.upto bcastAgreeSpec)

/-- 'cressetlaw21.BcastAll', WHERE WHAT IT READS IS OF BULK AT MOST 1048576: true; the input reads as it did. -/
def bcastAllUptoRow : OpenClaim := { program := "ytgfinnhfpiadiaa", sum := "f3bf8d34bce4afca568c364d6158733cabb0d09adf20b407cae2f5fe32b1396a", func := "cresset/cressetlaw21.BcastAll", spec := "bcastAll", recurses := true, plainKeys := false, apart := false, narrowed := true }
def BcastAllUptoSaid : Prop := bcastAllUptoRow.holds Try.pinned (OpenSpec.upto bcastAllSpec)

/-- 'cressetlaw21.BcastQuiet', WHERE WHAT IT READS IS OF BULK AT MOST 1048576: true; the input reads as it did. -/
def bcastQuietUptoRow : OpenClaim := { program := "ytgfinnhfpiadiaa", sum := "f3bf8d34bce4afca568c364d6158733cabb0d09adf20b407cae2f5fe32b1396a", func := "cresset/cressetlaw21.BcastQuiet", spec := "bcastQuiet", recurses := true, plainKeys := false, apart := false, narrowed := true }
def BcastQuietUptoSaid : Prop := bcastQuietUptoRow.holds Try.pinned (OpenSpec.upto bcastQuietSpec)

end Rows
end Go.Proofs.Ytgfinnhfpiadiaa
