/-
  No cell of these rows narrows 'for every input' (looked for: loops, veiled, ifaces, maps, wideKeys, modest, calm, conditions, laid).
  DERIVED. THE GIVEN ROWS OF THIS SEAT. 6 by the template 'for every input the law returns true; each argument reads behind the call as it read before'; 0 by the template 'total and deterministic' (their statements: YtlobkhocdmepfaaTotals.lean).
  GIVEN WITH THE SEED: the statements are not yours to turn. If you find one false, say at which input.
  Laid BY PROGRAM, IN A SANDBOX (cutbox-rows.mjs): the forced cells as the released guide's own fill.sh prints them over the translation 985955201ff1790d… (all of the seat's roots in one cut). By AI agents, Wed Nov 11 2026. No macro, syntax, notation, axiom, sorry.
-/
import Derived.Test.YtlobkhocdmepfaaChecked
import GoSem.Claim
import GoSem.ClaimJoined
import GoSem.ClaimMapViews
import Derived.JoinedTies
import Derived.KernelRfl
namespace Go.Proofs.Ytlobkhocdmepfaa
/- THE CELL 'sum', in the pinned program and in every row, IS THE sha256 OF THE DUMP (.gsa) THAT YtlobkhocdmepfaaProg.lean LOADS. Nothing in Lean hashes anything: it is a label: what it is worth is what the hold of that sum in a sandbox is worth. -/
noncomputable def Try.pinned : Pinned := { name := "ytlobkhocdmepfaa", sum := "985955201ff1790d8b86d70ec0a9328cf5358b4106c2159fd284f2e07278661c", checked := Try.checked }
namespace Rows
def none {H : Type} : Left H := { results := [], args := [] }

/-- 'cressetlaw05.Fp2Turns': WHATEVER THE INPUT: true; the input reads as it did. -/
def fp2TurnsSpec : ChangeSpec := { name := "fp2Turns", fn := fun _ => fun
  | [d1, d2] => { results := [.lit (.bool true)], args := [d1, d2] }
  | _ => none }
def fp2TurnsRow : OpenClaim := { program := "ytlobkhocdmepfaa", sum := "985955201ff1790d8b86d70ec0a9328cf5358b4106c2159fd284f2e07278661c", func := "cresset/cressetlaw05.Fp2Turns", spec := "fp2Turns", inPlace := ["math/bits.Add64", "math/bits.Sub64"], apart := false }
def Fp2TurnsSaid : Prop := fp2TurnsRow.holds Try.pinned (OpenSpec.ofChange fp2TurnsSpec)

/-- ITS FALSE NEIGHBOUR: 'it returns false'. Refute it at one input. -/
def fp2TurnsWrong : ChangeSpec := { name := "fp2Turns", fn := fun _ => fun
  | [d1, d2] => { results := [.lit (.bool false)], args := [d1, d2] }
  | _ => none }
def Fp2TurnsWrongFalsely : Prop := fp2TurnsRow.holds Try.pinned (OpenSpec.ofChange fp2TurnsWrong)

/-- 'cressetlaw05.Fp2Rules': WHATEVER THE INPUT: true; the input reads as it did. -/
def fp2RulesSpec : ChangeSpec := { name := "fp2Rules", fn := fun _ => fun
  | [d1, d2, d3, d4] => { results := [.lit (.bool true)], args := [d1, d2, d3, d4] }
  | _ => none }
def fp2RulesRow : OpenClaim := { program := "ytlobkhocdmepfaa", sum := "985955201ff1790d8b86d70ec0a9328cf5358b4106c2159fd284f2e07278661c", func := "cresset/cressetlaw05.Fp2Rules", spec := "fp2Rules", inPlace := ["math/bits.Add64", "math/bits.Sub64"], apart := false }
def Fp2RulesSaid : Prop := fp2RulesRow.holds Try.pinned (OpenSpec.ofChange fp2RulesSpec)

/-- ITS FALSE NEIGHBOUR: 'it returns false'. Refute it at one input. -/
def fp2RulesWrong : ChangeSpec := { name := "fp2Rules", fn := fun _ => fun
  | [d1, d2, d3, d4] => { results := [.lit (.bool false)], args := [d1, d2, d3, d4] }
  | _ => none }
def Fp2RulesWrongFalsely : Prop := fp2RulesRow.holds Try.pinned (OpenSpec.ofChange fp2RulesWrong)

/-- 'cressetlaw05.Fp2Reads': WHATEVER THE INPUT: true; the input reads as it did. -/
def fp2ReadsSpec : ChangeSpec := { name := "fp2Reads", fn := fun _ => fun
  | [d] => { results := [.lit (.bool true)], args := [d] }
  | _ => none }
def fp2ReadsRow : OpenClaim := { program := "ytlobkhocdmepfaa", sum := "985955201ff1790d8b86d70ec0a9328cf5358b4106c2159fd284f2e07278661c", func := "cresset/cressetlaw05.Fp2Reads", spec := "fp2Reads", inPlace := ["math/bits.Add64", "math/bits.Sub64"], apart := false }
def Fp2ReadsSaid : Prop := fp2ReadsRow.holds Try.pinned (OpenSpec.ofChange fp2ReadsSpec)

/-- ITS FALSE NEIGHBOUR: 'it returns false'. Refute it at one input. -/
def fp2ReadsWrong : ChangeSpec := { name := "fp2Reads", fn := fun _ => fun
  | [d] => { results := [.lit (.bool false)], args := [d] }
  | _ => none }
def Fp2ReadsWrongFalsely : Prop := fp2ReadsRow.holds Try.pinned (OpenSpec.ofChange fp2ReadsWrong)

/-- 'cressetlaw05.Fp2Reckons': WHATEVER THE INPUT: true; the input reads as it did. -/
def fp2ReckonsSpec : ChangeSpec := { name := "fp2Reckons", fn := fun _ => fun
  | [d1, d2, d3, d4] => { results := [.lit (.bool true)], args := [d1, d2, d3, d4] }
  | _ => none }
def fp2ReckonsRow : OpenClaim := { program := "ytlobkhocdmepfaa", sum := "985955201ff1790d8b86d70ec0a9328cf5358b4106c2159fd284f2e07278661c", func := "cresset/cressetlaw05.Fp2Reckons", spec := "fp2Reckons", inPlace := ["math/bits.Add64", "math/bits.Sub64"], apart := false }
def Fp2ReckonsSaid : Prop := fp2ReckonsRow.holds Try.pinned (OpenSpec.ofChange fp2ReckonsSpec)

/-- ITS FALSE NEIGHBOUR: 'it returns false'. Refute it at one input. -/
def fp2ReckonsWrong : ChangeSpec := { name := "fp2Reckons", fn := fun _ => fun
  | [d1, d2, d3, d4] => { results := [.lit (.bool false)], args := [d1, d2, d3, d4] }
  | _ => none }
def Fp2ReckonsWrongFalsely : Prop := fp2ReckonsRow.holds Try.pinned (OpenSpec.ofChange fp2ReckonsWrong)

/-- 'cressetlaw05.Fp2Squares': WHATEVER THE INPUT: true; the input reads as it did. -/
def fp2SquaresSpec : ChangeSpec := { name := "fp2Squares", fn := fun _ => fun
  | [d1, d2] => { results := [.lit (.bool true)], args := [d1, d2] }
  | _ => none }
def fp2SquaresRow : OpenClaim := { program := "ytlobkhocdmepfaa", sum := "985955201ff1790d8b86d70ec0a9328cf5358b4106c2159fd284f2e07278661c", func := "cresset/cressetlaw05.Fp2Squares", spec := "fp2Squares", inPlace := ["math/bits.Add64", "math/bits.Sub64"], apart := false }
def Fp2SquaresSaid : Prop := fp2SquaresRow.holds Try.pinned (OpenSpec.ofChange fp2SquaresSpec)

/-- ITS FALSE NEIGHBOUR: 'it returns false'. Refute it at one input. -/
def fp2SquaresWrong : ChangeSpec := { name := "fp2Squares", fn := fun _ => fun
  | [d1, d2] => { results := [.lit (.bool false)], args := [d1, d2] }
  | _ => none }
def Fp2SquaresWrongFalsely : Prop := fp2SquaresRow.holds Try.pinned (OpenSpec.ofChange fp2SquaresWrong)

/-- 'cressetlaw05.Fp2Roots': WHATEVER THE INPUT: true; the input reads as it did. -/
def fp2RootsSpec : ChangeSpec := { name := "fp2Roots", fn := fun _ => fun
  | [d1, d2] => { results := [.lit (.bool true)], args := [d1, d2] }
  | _ => none }
def fp2RootsRow : OpenClaim := { program := "ytlobkhocdmepfaa", sum := "985955201ff1790d8b86d70ec0a9328cf5358b4106c2159fd284f2e07278661c", func := "cresset/cressetlaw05.Fp2Roots", spec := "fp2Roots", inPlace := ["math/bits.Add64", "math/bits.Sub64"], apart := false }
def Fp2RootsSaid : Prop := fp2RootsRow.holds Try.pinned (OpenSpec.ofChange fp2RootsSpec)

/-- ITS FALSE NEIGHBOUR: 'it returns false'. Refute it at one input. -/
def fp2RootsWrong : ChangeSpec := { name := "fp2Roots", fn := fun _ => fun
  | [d1, d2] => { results := [.lit (.bool false)], args := [d1, d2] }
  | _ => none }
def Fp2RootsWrongFalsely : Prop := fp2RootsRow.holds Try.pinned (OpenSpec.ofChange fp2RootsWrong)

/- THE SECOND FORM. 'bulk': how many values and letters a reading holds, each counted each time it is reached (what is shared counts as often as it is met; a slice's spare places count too). A statement '..UptoSaid' is the law's where the arguments, and the package variables that the reading takes, are together of bulk at most 1048576: NARROWER than '..Said'. Prove '..Said' where nothing that the law and all that it calls make is longer than what came in: it says more and counts as full. Else prove '..UptoSaid'. A law counts once. -/
mutual
def uptoBulk {H : Type} : DataW H → Nat
  | .lit (.string bytes) => bytes.length + 1
  | .lit _ => 1
  | .nil => 1
  | .ptr d => uptoBulk d + 1
  | .slice elems spare => uptoBulkAll elems + uptoBulkAll spare + 1
  | .agg parts => uptoBulkAll parts + 1
  | .iface _ d => uptoBulk d + 1
  | .map entries => uptoBulkEntries entries + 1
  | .held _ => 1
def uptoBulkAll {H : Type} : List (DataW H) → Nat
  | [] => 0
  | d :: r => uptoBulk d + uptoBulkAll r
def uptoBulkEntries {H : Type} : List (Lit × DataW H) → Nat
  | [] => 0
  | x :: r => uptoBulkEntry x + uptoBulkEntries r
def uptoBulkEntry {H : Type} : Lit × DataW H → Nat
  | (.string bytes, d) => bytes.length + uptoBulk d + 1
  | (_, d) => uptoBulk d + 1
 end
def uptoSmall : (H : Type) → List (DataW H) → Bool := fun _ ds => decide (uptoBulkAll ds ≤ 1048576)
def OpenSpec.upto (s : _root_.Go.ChangeSpec) : _root_.Go.OpenSpec := { _root_.Go.OpenSpec.ofChange s with cond := some uptoSmall }

/-- 'cressetlaw05.Fp2Turns', WHERE WHAT IT READS IS OF BULK AT MOST 1048576: true; the input reads as it did. -/
def fp2TurnsUptoRow : OpenClaim := { program := "ytlobkhocdmepfaa", sum := "985955201ff1790d8b86d70ec0a9328cf5358b4106c2159fd284f2e07278661c", func := "cresset/cressetlaw05.Fp2Turns", spec := "fp2Turns", inPlace := ["math/bits.Add64", "math/bits.Sub64"], apart := false, narrowed := true }
def Fp2TurnsUptoSaid : Prop := fp2TurnsUptoRow.holds Try.pinned (OpenSpec.upto fp2TurnsSpec)

/-- 'cressetlaw05.Fp2Rules', WHERE WHAT IT READS IS OF BULK AT MOST 1048576: true; the input reads as it did. -/
def fp2RulesUptoRow : OpenClaim := { program := "ytlobkhocdmepfaa", sum := "985955201ff1790d8b86d70ec0a9328cf5358b4106c2159fd284f2e07278661c", func := "cresset/cressetlaw05.Fp2Rules", spec := "fp2Rules", inPlace := ["math/bits.Add64", "math/bits.Sub64"], apart := false, narrowed := true }
def Fp2RulesUptoSaid : Prop := fp2RulesUptoRow.holds Try.pinned (OpenSpec.upto fp2RulesSpec)

/-- 'cressetlaw05.Fp2Reads', WHERE WHAT IT READS IS OF BULK AT MOST 1048576: true; the input reads as it did. -/
def fp2ReadsUptoRow : OpenClaim := { program := "ytlobkhocdmepfaa", sum := "985955201ff1790d8b86d70ec0a9328cf5358b4106c2159fd284f2e07278661c", func := "cresset/cressetlaw05.Fp2Reads", spec := "fp2Reads", inPlace := ["math/bits.Add64", "math/bits.Sub64"], apart := false, narrowed := true }
def Fp2ReadsUptoSaid : Prop := fp2ReadsUptoRow.holds Try.pinned (OpenSpec.upto fp2ReadsSpec)

/-- 'cressetlaw05.Fp2Reckons', WHERE WHAT IT READS IS OF BULK AT MOST 1048576: true; the input reads as it did. -/
def fp2ReckonsUptoRow : OpenClaim := { program := "ytlobkhocdmepfaa", sum := "985955201ff1790d8b86d70ec0a9328cf5358b4106c2159fd284f2e07278661c", func := "cresset/cressetlaw05.Fp2Reckons", spec := "fp2Reckons", inPlace := ["math/bits.Add64", "math/bits.Sub64"], apart := false, narrowed := true }
def Fp2ReckonsUptoSaid : Prop := fp2ReckonsUptoRow.holds Try.pinned (OpenSpec.upto fp2ReckonsSpec)

/-- 'cressetlaw05.Fp2Squares', WHERE WHAT IT READS IS OF BULK AT MOST 1048576: true; the input reads as it did. -/
def fp2SquaresUptoRow : OpenClaim := { program := "ytlobkhocdmepfaa", sum := "985955201ff1790d8b86d70ec0a9328cf5358b4106c2159fd284f2e07278661c", func := "cresset/cressetlaw05.Fp2Squares", spec := "fp2Squares", inPlace := ["math/bits.Add64", "math/bits.Sub64"], apart := false, narrowed := true }
def Fp2SquaresUptoSaid : Prop := fp2SquaresUptoRow.holds Try.pinned (OpenSpec.upto fp2SquaresSpec)

/-- 'cressetlaw05.Fp2Roots', WHERE WHAT IT READS IS OF BULK AT MOST 1048576: true; the input reads as it did. -/
def fp2RootsUptoRow : OpenClaim := { program := "ytlobkhocdmepfaa", sum := "985955201ff1790d8b86d70ec0a9328cf5358b4106c2159fd284f2e07278661c", func := "cresset/cressetlaw05.Fp2Roots", spec := "fp2Roots", inPlace := ["math/bits.Add64", "math/bits.Sub64"], apart := false, narrowed := true }
def Fp2RootsUptoSaid : Prop := fp2RootsUptoRow.holds Try.pinned (OpenSpec.upto fp2RootsSpec)

end Rows
end Go.Proofs.Ytlobkhocdmepfaa
