/-
  No cell of these rows narrows 'for every input' (looked for: loops, veiled, ifaces, maps, wideKeys, modest, calm, conditions, laid).
  DERIVED. THE GIVEN ROWS OF THIS SEAT. 8 by the template 'for every input the law returns true; each argument reads behind the call as it read before'; 0 by the template 'total and deterministic' (their statements: YtnjcnfaopdgjgaaTotals.lean).
  GIVEN WITH THE SEED: the statements are not yours to turn. If you find one false, say at which input.
  Laid BY PROGRAM, IN A SANDBOX (cutbox-rows.mjs): the forced cells as the released guide's own fill.sh prints them over the translation 7ad41ff8a600396f… (all of the seat's roots in one cut). By AI agents, Wed Nov 11 2026. No macro, syntax, notation, axiom, sorry.
-/
import Derived.Test.YtnjcnfaopdgjgaaChecked
import GoSem.Claim
import GoSem.ClaimJoined
import GoSem.ClaimMapViews
import Derived.JoinedTies
import Derived.KernelRfl
namespace Go.Proofs.Ytnjcnfaopdgjgaa
/- THE CELL 'sum', in the pinned program and in every row, IS THE sha256 OF THE DUMP (.gsa) THAT YtnjcnfaopdgjgaaProg.lean LOADS. Nothing in Lean hashes anything: it is a label: what it is worth is what the hold of that sum in a sandbox is worth. -/
noncomputable def Try.pinned : Pinned := { name := "ytnjcnfaopdgjgaa", sum := "7ad41ff8a600396fee51321dc95d39611642f22da1fcc48494c6fc7a01c80157", checked := Try.checked }
namespace Rows
def none {H : Type} : Left H := { results := [], args := [] }

/-- 'cressetlaw04.FpRules': WHATEVER THE INPUT: true; the input reads as it did. -/
def fpRulesSpec : ChangeSpec := { name := "fpRules", fn := fun _ => fun
  | [d1, d2, d3] => { results := [.lit (.bool true)], args := [d1, d2, d3] }
  | _ => none }
def fpRulesRow : OpenClaim := { program := "ytnjcnfaopdgjgaa", sum := "7ad41ff8a600396fee51321dc95d39611642f22da1fcc48494c6fc7a01c80157", func := "cresset/cressetlaw04.FpRules", spec := "fpRules", inPlace := ["math/bits.Add64", "math/bits.Sub64"], apart := false }
def FpRulesSaid : Prop := fpRulesRow.holds Try.pinned (OpenSpec.ofChange fpRulesSpec)

/-- ITS FALSE NEIGHBOUR: 'it returns false'. Refute it at one input. -/
def fpRulesWrong : ChangeSpec := { name := "fpRules", fn := fun _ => fun
  | [d1, d2, d3] => { results := [.lit (.bool false)], args := [d1, d2, d3] }
  | _ => none }
def FpRulesWrongFalsely : Prop := fpRulesRow.holds Try.pinned (OpenSpec.ofChange fpRulesWrong)

/-- 'cressetlaw04.FpSquares': WHATEVER THE INPUT: true; the input reads as it did. -/
def fpSquaresSpec : ChangeSpec := { name := "fpSquares", fn := fun _ => fun
  | [d] => { results := [.lit (.bool true)], args := [d] }
  | _ => none }
def fpSquaresRow : OpenClaim := { program := "ytnjcnfaopdgjgaa", sum := "7ad41ff8a600396fee51321dc95d39611642f22da1fcc48494c6fc7a01c80157", func := "cresset/cressetlaw04.FpSquares", spec := "fpSquares", inPlace := ["math/bits.Add64", "math/bits.Sub64"], apart := false }
def FpSquaresSaid : Prop := fpSquaresRow.holds Try.pinned (OpenSpec.ofChange fpSquaresSpec)

/-- ITS FALSE NEIGHBOUR: 'it returns false'. Refute it at one input. -/
def fpSquaresWrong : ChangeSpec := { name := "fpSquares", fn := fun _ => fun
  | [d] => { results := [.lit (.bool false)], args := [d] }
  | _ => none }
def FpSquaresWrongFalsely : Prop := fpSquaresRow.holds Try.pinned (OpenSpec.ofChange fpSquaresWrong)

/-- 'cressetlaw04.FpInverts': WHATEVER THE INPUT: true; the input reads as it did. -/
def fpInvertsSpec : ChangeSpec := { name := "fpInverts", fn := fun _ => fun
  | [d1, d2] => { results := [.lit (.bool true)], args := [d1, d2] }
  | _ => none }
def fpInvertsRow : OpenClaim := { program := "ytnjcnfaopdgjgaa", sum := "7ad41ff8a600396fee51321dc95d39611642f22da1fcc48494c6fc7a01c80157", func := "cresset/cressetlaw04.FpInverts", spec := "fpInverts", inPlace := ["math/bits.Add64", "math/bits.Sub64"], apart := false }
def FpInvertsSaid : Prop := fpInvertsRow.holds Try.pinned (OpenSpec.ofChange fpInvertsSpec)

/-- ITS FALSE NEIGHBOUR: 'it returns false'. Refute it at one input. -/
def fpInvertsWrong : ChangeSpec := { name := "fpInverts", fn := fun _ => fun
  | [d1, d2] => { results := [.lit (.bool false)], args := [d1, d2] }
  | _ => none }
def FpInvertsWrongFalsely : Prop := fpInvertsRow.holds Try.pinned (OpenSpec.ofChange fpInvertsWrong)

/-- 'cressetlaw04.FpWide': WHATEVER THE INPUT: true; the input reads as it did. -/
def fpWideSpec : ChangeSpec := { name := "fpWide", fn := fun _ => fun
  | [d] => { results := [.lit (.bool true)], args := [d] }
  | _ => none }
def fpWideRow : OpenClaim := { program := "ytnjcnfaopdgjgaa", sum := "7ad41ff8a600396fee51321dc95d39611642f22da1fcc48494c6fc7a01c80157", func := "cresset/cressetlaw04.FpWide", spec := "fpWide", inPlace := ["math/bits.Add64", "math/bits.Sub64"], apart := false }
def FpWideSaid : Prop := fpWideRow.holds Try.pinned (OpenSpec.ofChange fpWideSpec)

/-- ITS FALSE NEIGHBOUR: 'it returns false'. Refute it at one input. -/
def fpWideWrong : ChangeSpec := { name := "fpWide", fn := fun _ => fun
  | [d] => { results := [.lit (.bool false)], args := [d] }
  | _ => none }
def FpWideWrongFalsely : Prop := fpWideRow.holds Try.pinned (OpenSpec.ofChange fpWideWrong)

/-- 'cressetlaw04.FpReckons': WHATEVER THE INPUT: true; the input reads as it did. -/
def fpReckonsSpec : ChangeSpec := { name := "fpReckons", fn := fun _ => fun
  | [d1, d2] => { results := [.lit (.bool true)], args := [d1, d2] }
  | _ => none }
def fpReckonsRow : OpenClaim := { program := "ytnjcnfaopdgjgaa", sum := "7ad41ff8a600396fee51321dc95d39611642f22da1fcc48494c6fc7a01c80157", func := "cresset/cressetlaw04.FpReckons", spec := "fpReckons", inPlace := ["math/bits.Add64", "math/bits.Sub64"], apart := false }
def FpReckonsSaid : Prop := fpReckonsRow.holds Try.pinned (OpenSpec.ofChange fpReckonsSpec)

/-- ITS FALSE NEIGHBOUR: 'it returns false'. Refute it at one input. -/
def fpReckonsWrong : ChangeSpec := { name := "fpReckons", fn := fun _ => fun
  | [d1, d2] => { results := [.lit (.bool false)], args := [d1, d2] }
  | _ => none }
def FpReckonsWrongFalsely : Prop := fpReckonsRow.holds Try.pinned (OpenSpec.ofChange fpReckonsWrong)

/-- 'cressetlaw04.FpReads': WHATEVER THE INPUT: true; the input reads as it did. -/
def fpReadsSpec : ChangeSpec := { name := "fpReads", fn := fun _ => fun
  | [d1, d2] => { results := [.lit (.bool true)], args := [d1, d2] }
  | _ => none }
def fpReadsRow : OpenClaim := { program := "ytnjcnfaopdgjgaa", sum := "7ad41ff8a600396fee51321dc95d39611642f22da1fcc48494c6fc7a01c80157", func := "cresset/cressetlaw04.FpReads", spec := "fpReads", inPlace := ["math/bits.Add64", "math/bits.Sub64"], apart := false }
def FpReadsSaid : Prop := fpReadsRow.holds Try.pinned (OpenSpec.ofChange fpReadsSpec)

/-- ITS FALSE NEIGHBOUR: 'it returns false'. Refute it at one input. -/
def fpReadsWrong : ChangeSpec := { name := "fpReads", fn := fun _ => fun
  | [d1, d2] => { results := [.lit (.bool false)], args := [d1, d2] }
  | _ => none }
def FpReadsWrongFalsely : Prop := fpReadsRow.holds Try.pinned (OpenSpec.ofChange fpReadsWrong)

/-- 'cressetlaw04.FpRoots': WHATEVER THE INPUT: true; the input reads as it did. -/
def fpRootsSpec : ChangeSpec := { name := "fpRoots", fn := fun _ => fun
  | [d] => { results := [.lit (.bool true)], args := [d] }
  | _ => none }
def fpRootsRow : OpenClaim := { program := "ytnjcnfaopdgjgaa", sum := "7ad41ff8a600396fee51321dc95d39611642f22da1fcc48494c6fc7a01c80157", func := "cresset/cressetlaw04.FpRoots", spec := "fpRoots", inPlace := ["math/bits.Add64", "math/bits.Sub64"], apart := false }
def FpRootsSaid : Prop := fpRootsRow.holds Try.pinned (OpenSpec.ofChange fpRootsSpec)

/-- ITS FALSE NEIGHBOUR: 'it returns false'. Refute it at one input. -/
def fpRootsWrong : ChangeSpec := { name := "fpRoots", fn := fun _ => fun
  | [d] => { results := [.lit (.bool false)], args := [d] }
  | _ => none }
def FpRootsWrongFalsely : Prop := fpRootsRow.holds Try.pinned (OpenSpec.ofChange fpRootsWrong)

/-- 'cressetlaw04.FpForms': WHATEVER THE INPUT: true; the input reads as it did. -/
def fpFormsSpec : ChangeSpec := { name := "fpForms", fn := fun _ => fun
  | [d1, d2] => { results := [.lit (.bool true)], args := [d1, d2] }
  | _ => none }
def fpFormsRow : OpenClaim := { program := "ytnjcnfaopdgjgaa", sum := "7ad41ff8a600396fee51321dc95d39611642f22da1fcc48494c6fc7a01c80157", func := "cresset/cressetlaw04.FpForms", spec := "fpForms", inPlace := ["math/bits.Add64", "math/bits.Sub64"], apart := false }
def FpFormsSaid : Prop := fpFormsRow.holds Try.pinned (OpenSpec.ofChange fpFormsSpec)

/-- ITS FALSE NEIGHBOUR: 'it returns false'. Refute it at one input. -/
def fpFormsWrong : ChangeSpec := { name := "fpForms", fn := fun _ => fun
  | [d1, d2] => { results := [.lit (.bool false)], args := [d1, d2] }
  | _ => none }
def FpFormsWrongFalsely : Prop := fpFormsRow.holds Try.pinned (OpenSpec.ofChange fpFormsWrong)

/- THE SECOND FORM. 'bulk': how many values and letters a reading holds, each counted each time it is reached (what is shared counts as often as it is met; a slice's spare places count too). A statement '..UptoSaid' is the law's where the arguments, and the package variables that the reading takes, are together of bulk at most 1048576: NARROWER than '..Said'. Prove '..Said' where nothing that the law and all that it calls make is longer than what came in: it says more and counts as full. Else prove '..UptoSaid'. A law counts once. -/
mutual
def uptoBulk {H : Type} : DataW H → Nat
  | .lit (.string bytes) => bytes.length + 1
  | .lit _ => 1
  | .nil => 1
  | .ptr d => uptoBulk d + 1
  | .slice elems spare => uptoBulkAll elems + uptoBulkAll spare + 1
  | .agg parts => uptoBulkAll parts + 1
  | .iface _ d => uptoBulk d + 1
  | .map entries => uptoBulkEntries entries + 1
  | .held _ => 1
def uptoBulkAll {H : Type} : List (DataW H) → Nat
  | [] => 0
  | d :: r => uptoBulk d + uptoBulkAll r
def uptoBulkEntries {H : Type} : List (Lit × DataW H) → Nat
  | [] => 0
  | x :: r => uptoBulkEntry x + uptoBulkEntries r
def uptoBulkEntry {H : Type} : Lit × DataW H → Nat
  | (.string bytes, d) => bytes.length + uptoBulk d + 1
  | (_, d) => uptoBulk d + 1
 end
def uptoSmall : (H : Type) → List (DataW H) → Bool := fun _ ds => decide (uptoBulkAll ds ≤ 1048576)
def OpenSpec.upto (s : _root_.Go.ChangeSpec) : _root_.Go.OpenSpec := { _root_.Go.OpenSpec.ofChange s with cond := some uptoSmall }

/-- 'cressetlaw04.FpRules', WHERE WHAT IT READS IS OF BULK AT MOST 1048576: true; the input reads as it did. -/
def fpRulesUptoRow : OpenClaim := { program := "ytnjcnfaopdgjgaa", sum := "7ad41ff8a600396fee51321dc95d39611642f22da1fcc48494c6fc7a01c80157", func := "cresset/cressetlaw04.FpRules", spec := "fpRules", inPlace := ["math/bits.Add64", "math/bits.Sub64"], apart := false, narrowed := true }
def FpRulesUptoSaid : Prop := fpRulesUptoRow.holds Try.pinned (OpenSpec.upto fpRulesSpec)

/-- 'cressetlaw04.FpSquares', WHERE WHAT IT READS IS OF BULK AT MOST 1048576: true; the input reads as it did. -/
def fpSquaresUptoRow : OpenClaim := { program := "ytnjcnfaopdgjgaa", sum := "7ad41ff8a600396fee51321dc95d39611642f22da1fcc48494c6fc7a01c80157", func := "cresset/cressetlaw04.FpSquares", spec := "fpSquares", inPlace := ["math/bits.Add64", "math/bits.Sub64"], apart := false, narrowed := true }
def FpSquaresUptoSaid : Prop := fpSquaresUptoRow.holds Try.pinned (OpenSpec.upto fpSquaresSpec)

/-- 'cressetlaw04.FpInverts', WHERE WHAT IT READS IS OF BULK AT MOST 1048576: true; the input reads as it did. -/
def fpInvertsUptoRow : OpenClaim := { program := "ytnjcnfaopdgjgaa", sum := "7ad41ff8a600396fee51321dc95d39611642f22da1fcc48494c6fc7a01c80157", func := "cresset/cressetlaw04.FpInverts", spec := "fpInverts", inPlace := ["math/bits.Add64", "math/bits.Sub64"], apart := false, narrowed := true }
def FpInvertsUptoSaid : Prop := fpInvertsUptoRow.holds Try.pinned (OpenSpec.upto fpInvertsSpec)

/-- 'cressetlaw04.FpWide', WHERE WHAT IT READS IS OF BULK AT MOST 1048576: true; the input reads as it did. -/
def fpWideUptoRow : OpenClaim := { program := "ytnjcnfaopdgjgaa", sum := "7ad41ff8a600396fee51321dc95d39611642f22da1fcc48494c6fc7a01c80157", func := "cresset/cressetlaw04.FpWide", spec := "fpWide", inPlace := ["math/bits.Add64", "math/bits.Sub64"], apart := false, narrowed := true }
def FpWideUptoSaid : Prop := fpWideUptoRow.holds Try.pinned (OpenSpec.upto fpWideSpec)

/-- 'cressetlaw04.FpReckons', WHERE WHAT IT READS IS OF BULK AT MOST 1048576: true; the input reads as it did. -/
def fpReckonsUptoRow : OpenClaim := { program := "ytnjcnfaopdgjgaa", sum := "7ad41ff8a600396fee51321dc95d39611642f22da1fcc48494c6fc7a01c80157", func := "cresset/cressetlaw04.FpReckons", spec := "fpReckons", inPlace := ["math/bits.Add64", "math/bits.Sub64"], apart := false, narrowed := true }
def FpReckonsUptoSaid : Prop := fpReckonsUptoRow.holds Try.pinned (OpenSpec.upto fpReckonsSpec)

/-- 'cressetlaw04.FpReads', WHERE WHAT IT READS IS OF BULK AT MOST 1048576: true; the input reads as it did. -/
def fpReadsUptoRow : OpenClaim := { program := "ytnjcnfaopdgjgaa", sum := "7ad41ff8a600396fee51321dc95d39611642f22da1fcc48494c6fc7a01c80157", func := "cresset/cressetlaw04.FpReads", spec := "fpReads", inPlace := ["math/bits.Add64", "math/bits.Sub64"], apart := false, narrowed := true }
def FpReadsUptoSaid : Prop := fpReadsUptoRow.holds Try.pinned (OpenSpec.upto fpReadsSpec)

/-- 'cressetlaw04.FpRoots', WHERE WHAT IT READS IS OF BULK AT MOST 1048576: true; the input reads as it did. -/
def fpRootsUptoRow : OpenClaim := { program := "ytnjcnfaopdgjgaa", sum := "7ad41ff8a600396fee51321dc95d39611642f22da1fcc48494c6fc7a01c80157", func := "cresset/cressetlaw04.FpRoots", spec := "fpRoots", inPlace := ["math/bits.Add64", "math/bits.Sub64"], apart := false, narrowed := true }
def FpRootsUptoSaid : Prop := fpRootsUptoRow.holds Try.pinned (OpenSpec.upto fpRootsSpec)

/-- 'cressetlaw04.FpForms', WHERE WHAT IT READS IS OF BULK AT MOST 1048576: true; the input reads as it did. -/
def fpFormsUptoRow : OpenClaim := { program := "ytnjcnfaopdgjgaa", sum := "7ad41ff8a600396fee51321dc95d39611642f22da1fcc48494c6fc7a01c80157", func := "cresset/cressetlaw04.FpForms", spec := "fpForms", inPlace := ["math/bits.Add64", "math/bits.Sub64"], apart := false, narrowed := true }
def FpFormsUptoSaid : Prop := fpFormsUptoRow.holds Try.pinned (OpenSpec.upto fpFormsSpec)

end Rows
end Go.Proofs.Ytnjcnfaopdgjgaa
