/-
  No cell of these rows narrows 'for every input' (looked for: loops, veiled, ifaces, maps, wideKeys, modest, calm, conditions, laid).
  DERIVED. THE GIVEN ROWS OF THIS SEAT. 7 by the template 'for every input the law returns true; each argument reads behind the call as it read before'; 0 by the template 'total and deterministic' (their statements: YtkmdaempfeocdaaTotals.lean).
  GIVEN WITH THE SEED: the statements are not yours to turn. If you find one false, say at which input.
  Laid BY PROGRAM, IN A SANDBOX (cutbox-rows.mjs): the forced cells as the released guide's own fill.sh prints them over the translation 45e5eb6818c6f493… (all of the seat's roots in one cut). By AI agents, Wed Nov 11 2026. No macro, syntax, notation, axiom, sorry.
-/
import Derived.Test.YtkmdaempfeocdaaChecked
import GoSem.Claim
import GoSem.ClaimJoined
import GoSem.ClaimMapViews
import Derived.JoinedTies
import Derived.KernelRfl
namespace Go.Proofs.Ytkmdaempfeocdaa
/- THE CELL 'sum', in the pinned program and in every row, IS THE sha256 OF THE DUMP (.gsa) THAT YtkmdaempfeocdaaProg.lean LOADS. Nothing in Lean hashes anything: it is a label: what it is worth is what the hold of that sum in a sandbox is worth. -/
noncomputable def Try.pinned : Pinned := { name := "ytkmdaempfeocdaa", sum := "45e5eb6818c6f493dd49321a294cd41e575dd36e1ee8caf5e633a985a1052476", checked := Try.checked }
namespace Rows
def none {H : Type} : Left H := { results := [], args := [] }

/-- 'cressetlaw03.FrCounts': WHATEVER THE INPUT: true; the input reads as it did. -/
def frCountsSpec : ChangeSpec := { name := "frCounts", fn := fun _ => fun
  | [d1, d2] => { results := [.lit (.bool true)], args := [d1, d2] }
  | _ => none }
def frCountsRow : OpenClaim := { program := "ytkmdaempfeocdaa", sum := "45e5eb6818c6f493dd49321a294cd41e575dd36e1ee8caf5e633a985a1052476", func := "cresset/cressetlaw03.FrCounts", spec := "frCounts", inPlace := ["math/bits.Add64", "math/bits.Sub64"], apart := false }
def FrCountsSaid : Prop := frCountsRow.holds Try.pinned (OpenSpec.ofChange frCountsSpec)

/-- ITS FALSE NEIGHBOUR: 'it returns false'. Refute it at one input. -/
def frCountsWrong : ChangeSpec := { name := "frCounts", fn := fun _ => fun
  | [d1, d2] => { results := [.lit (.bool false)], args := [d1, d2] }
  | _ => none }
def FrCountsWrongFalsely : Prop := frCountsRow.holds Try.pinned (OpenSpec.ofChange frCountsWrong)

/-- 'cressetlaw03.FrWide': WHATEVER THE INPUT: true; the input reads as it did. -/
def frWideSpec : ChangeSpec := { name := "frWide", fn := fun _ => fun
  | [d] => { results := [.lit (.bool true)], args := [d] }
  | _ => none }
def frWideRow : OpenClaim := { program := "ytkmdaempfeocdaa", sum := "45e5eb6818c6f493dd49321a294cd41e575dd36e1ee8caf5e633a985a1052476", func := "cresset/cressetlaw03.FrWide", spec := "frWide", inPlace := ["math/bits.Add64", "math/bits.Sub64"], apart := false }
def FrWideSaid : Prop := frWideRow.holds Try.pinned (OpenSpec.ofChange frWideSpec)

/-- ITS FALSE NEIGHBOUR: 'it returns false'. Refute it at one input. -/
def frWideWrong : ChangeSpec := { name := "frWide", fn := fun _ => fun
  | [d] => { results := [.lit (.bool false)], args := [d] }
  | _ => none }
def FrWideWrongFalsely : Prop := frWideRow.holds Try.pinned (OpenSpec.ofChange frWideWrong)

/-- 'cressetlaw03.FrReckons': WHATEVER THE INPUT: true; the input reads as it did. -/
def frReckonsSpec : ChangeSpec := { name := "frReckons", fn := fun _ => fun
  | [d1, d2] => { results := [.lit (.bool true)], args := [d1, d2] }
  | _ => none }
def frReckonsRow : OpenClaim := { program := "ytkmdaempfeocdaa", sum := "45e5eb6818c6f493dd49321a294cd41e575dd36e1ee8caf5e633a985a1052476", func := "cresset/cressetlaw03.FrReckons", spec := "frReckons", inPlace := ["math/bits.Add64", "math/bits.Sub64"], apart := false }
def FrReckonsSaid : Prop := frReckonsRow.holds Try.pinned (OpenSpec.ofChange frReckonsSpec)

/-- ITS FALSE NEIGHBOUR: 'it returns false'. Refute it at one input. -/
def frReckonsWrong : ChangeSpec := { name := "frReckons", fn := fun _ => fun
  | [d1, d2] => { results := [.lit (.bool false)], args := [d1, d2] }
  | _ => none }
def FrReckonsWrongFalsely : Prop := frReckonsRow.holds Try.pinned (OpenSpec.ofChange frReckonsWrong)

/-- 'cressetlaw03.FrReads': WHATEVER THE INPUT: true; the input reads as it did. -/
def frReadsSpec : ChangeSpec := { name := "frReads", fn := fun _ => fun
  | [d1, d2] => { results := [.lit (.bool true)], args := [d1, d2] }
  | _ => none }
def frReadsRow : OpenClaim := { program := "ytkmdaempfeocdaa", sum := "45e5eb6818c6f493dd49321a294cd41e575dd36e1ee8caf5e633a985a1052476", func := "cresset/cressetlaw03.FrReads", spec := "frReads", inPlace := ["math/bits.Add64", "math/bits.Sub64"], apart := false }
def FrReadsSaid : Prop := frReadsRow.holds Try.pinned (OpenSpec.ofChange frReadsSpec)

/-- ITS FALSE NEIGHBOUR: 'it returns false'. Refute it at one input. -/
def frReadsWrong : ChangeSpec := { name := "frReads", fn := fun _ => fun
  | [d1, d2] => { results := [.lit (.bool false)], args := [d1, d2] }
  | _ => none }
def FrReadsWrongFalsely : Prop := frReadsRow.holds Try.pinned (OpenSpec.ofChange frReadsWrong)

/-- 'cressetlaw03.FrInverts': WHATEVER THE INPUT: true; the input reads as it did. -/
def frInvertsSpec : ChangeSpec := { name := "frInverts", fn := fun _ => fun
  | [d1, d2] => { results := [.lit (.bool true)], args := [d1, d2] }
  | _ => none }
def frInvertsRow : OpenClaim := { program := "ytkmdaempfeocdaa", sum := "45e5eb6818c6f493dd49321a294cd41e575dd36e1ee8caf5e633a985a1052476", func := "cresset/cressetlaw03.FrInverts", spec := "frInverts", inPlace := ["math/bits.Add64", "math/bits.Sub64"], apart := false }
def FrInvertsSaid : Prop := frInvertsRow.holds Try.pinned (OpenSpec.ofChange frInvertsSpec)

/-- ITS FALSE NEIGHBOUR: 'it returns false'. Refute it at one input. -/
def frInvertsWrong : ChangeSpec := { name := "frInverts", fn := fun _ => fun
  | [d1, d2] => { results := [.lit (.bool false)], args := [d1, d2] }
  | _ => none }
def FrInvertsWrongFalsely : Prop := frInvertsRow.holds Try.pinned (OpenSpec.ofChange frInvertsWrong)

/-- 'cressetlaw03.FrRules': WHATEVER THE INPUT: true; the input reads as it did. -/
def frRulesSpec : ChangeSpec := { name := "frRules", fn := fun _ => fun
  | [d1, d2, d3] => { results := [.lit (.bool true)], args := [d1, d2, d3] }
  | _ => none }
def frRulesRow : OpenClaim := { program := "ytkmdaempfeocdaa", sum := "45e5eb6818c6f493dd49321a294cd41e575dd36e1ee8caf5e633a985a1052476", func := "cresset/cressetlaw03.FrRules", spec := "frRules", inPlace := ["math/bits.Add64", "math/bits.Sub64"], apart := false }
def FrRulesSaid : Prop := frRulesRow.holds Try.pinned (OpenSpec.ofChange frRulesSpec)

/-- ITS FALSE NEIGHBOUR: 'it returns false'. Refute it at one input. -/
def frRulesWrong : ChangeSpec := { name := "frRules", fn := fun _ => fun
  | [d1, d2, d3] => { results := [.lit (.bool false)], args := [d1, d2, d3] }
  | _ => none }
def FrRulesWrongFalsely : Prop := frRulesRow.holds Try.pinned (OpenSpec.ofChange frRulesWrong)

/-- 'cressetlaw03.FrForms': WHATEVER THE INPUT: true; the input reads as it did. -/
def frFormsSpec : ChangeSpec := { name := "frForms", fn := fun _ => fun
  | [d1, d2] => { results := [.lit (.bool true)], args := [d1, d2] }
  | _ => none }
def frFormsRow : OpenClaim := { program := "ytkmdaempfeocdaa", sum := "45e5eb6818c6f493dd49321a294cd41e575dd36e1ee8caf5e633a985a1052476", func := "cresset/cressetlaw03.FrForms", spec := "frForms", inPlace := ["math/bits.Add64", "math/bits.Sub64"], apart := false }
def FrFormsSaid : Prop := frFormsRow.holds Try.pinned (OpenSpec.ofChange frFormsSpec)

/-- ITS FALSE NEIGHBOUR: 'it returns false'. Refute it at one input. -/
def frFormsWrong : ChangeSpec := { name := "frForms", fn := fun _ => fun
  | [d1, d2] => { results := [.lit (.bool false)], args := [d1, d2] }
  | _ => none }
def FrFormsWrongFalsely : Prop := frFormsRow.holds Try.pinned (OpenSpec.ofChange frFormsWrong)

/- THE SECOND FORM. 'bulk': how many values and letters a reading holds, each counted each time it is reached (what is shared counts as often as it is met; a slice's spare places count too). A statement '..UptoSaid' is the law's where the arguments, and the package variables that the reading takes, are together of bulk at most 1048576: NARROWER than '..Said'. Prove '..Said' where nothing that the law and all that it calls make is longer than what came in: it says more and counts as full. Else prove '..UptoSaid'. A law counts once. -/
mutual
def uptoBulk {H : Type} : DataW H → Nat
  | .lit (.string bytes) => bytes.length + 1
  | .lit _ => 1
  | .nil => 1
  | .ptr d => uptoBulk d + 1
  | .slice elems spare => uptoBulkAll elems + uptoBulkAll spare + 1
  | .agg parts => uptoBulkAll parts + 1
  | .iface _ d => uptoBulk d + 1
  | .map entries => uptoBulkEntries entries + 1
  | .held _ => 1
def uptoBulkAll {H : Type} : List (DataW H) → Nat
  | [] => 0
  | d :: r => uptoBulk d + uptoBulkAll r
def uptoBulkEntries {H : Type} : List (Lit × DataW H) → Nat
  | [] => 0
  | x :: r => uptoBulkEntry x + uptoBulkEntries r
def uptoBulkEntry {H : Type} : Lit × DataW H → Nat
  | (.string bytes, d) => bytes.length + uptoBulk d + 1
  | (_, d) => uptoBulk d + 1
 end
def uptoSmall : (H : Type) → List (DataW H) → Bool := fun _ ds => decide (uptoBulkAll ds ≤ 1048576)
def OpenSpec.upto (s : _root_.Go.ChangeSpec) : _root_.Go.OpenSpec := { _root_.Go.OpenSpec.ofChange s with cond := some uptoSmall }

/-- 'cressetlaw03.FrCounts', WHERE WHAT IT READS IS OF BULK AT MOST 1048576: true; the input reads as it did. -/
def frCountsUptoRow : OpenClaim := { program := "ytkmdaempfeocdaa", sum := "45e5eb6818c6f493dd49321a294cd41e575dd36e1ee8caf5e633a985a1052476", func := "cresset/cressetlaw03.FrCounts", spec := "frCounts", inPlace := ["math/bits.Add64", "math/bits.Sub64"], apart := false, narrowed := true }
def FrCountsUptoSaid : Prop := frCountsUptoRow.holds Try.pinned (OpenSpec.upto frCountsSpec)

/-- 'cressetlaw03.FrWide', WHERE WHAT IT READS IS OF BULK AT MOST 1048576: true; the input reads as it did. -/
def frWideUptoRow : OpenClaim := { program := "ytkmdaempfeocdaa", sum := "45e5eb6818c6f493dd49321a294cd41e575dd36e1ee8caf5e633a985a1052476", func := "cresset/cressetlaw03.FrWide", spec := "frWide", inPlace := ["math/bits.Add64", "math/bits.Sub64"], apart := false, narrowed := true }
def FrWideUptoSaid : Prop := frWideUptoRow.holds Try.pinned (OpenSpec.upto frWideSpec)

/-- 'cressetlaw03.FrReckons', WHERE WHAT IT READS IS OF BULK AT MOST 1048576: true; the input reads as it did. -/
def frReckonsUptoRow : OpenClaim := { program := "ytkmdaempfeocdaa", sum := "45e5eb6818c6f493dd49321a294cd41e575dd36e1ee8caf5e633a985a1052476", func := "cresset/cressetlaw03.FrReckons", spec := "frReckons", inPlace := ["math/bits.Add64", "math/bits.Sub64"], apart := false, narrowed := true }
def FrReckonsUptoSaid : Prop := frReckonsUptoRow.holds Try.pinned (OpenSpec.upto frReckonsSpec)

/-- 'cressetlaw03.FrReads', WHERE WHAT IT READS IS OF BULK AT MOST 1048576: true; the input reads as it did. -/
def frReadsUptoRow : OpenClaim := { program := "ytkmdaempfeocdaa", sum := "45e5eb6818c6f493dd49321a294cd41e575dd36e1ee8caf5e633a985a1052476", func := "cresset/cressetlaw03.FrReads", spec := "frReads", inPlace := ["math/bits.Add64", "math/bits.Sub64"], apart := false, narrowed := true }
def FrReadsUptoSaid : Prop := frReadsUptoRow.holds Try.pinned (OpenSpec.upto frReadsSpec)

/-- 'cressetlaw03.FrInverts', WHERE WHAT IT READS IS OF BULK AT MOST 1048576: true; the input reads as it did. -/
def frInvertsUptoRow : OpenClaim := { program := "ytkmdaempfeocdaa", sum := "45e5eb6818c6f493dd49321a294cd41e575dd36e1ee8caf5e633a985a1052476", func := "cresset/cressetlaw03.FrInverts", spec := "frInverts", inPlace := ["math/bits.Add64", "math/bits.Sub64"], apart := false, narrowed := true }
def FrInvertsUptoSaid : Prop := frInvertsUptoRow.holds Try.pinned (OpenSpec.upto frInvertsSpec)

/-- 'cressetlaw03.FrRules', WHERE WHAT IT READS IS OF BULK AT MOST 1048576: true; the input reads as it did. -/
def frRulesUptoRow : OpenClaim := { program := "ytkmdaempfeocdaa", sum := "45e5eb6818c6f493dd49321a294cd41e575dd36e1ee8caf5e633a985a1052476", func := "cresset/cressetlaw03.FrRules", spec := "frRules", inPlace := ["math/bits.Add64", "math/bits.Sub64"], apart := false, narrowed := true }
def FrRulesUptoSaid : Prop := frRulesUptoRow.holds Try.pinned (OpenSpec.upto frRulesSpec)

/-- 'cressetlaw03.FrForms', WHERE WHAT IT READS IS OF BULK AT MOST 1048576: true; the input reads as it did. -/
def frFormsUptoRow : OpenClaim := { program := "ytkmdaempfeocdaa", sum := "45e5eb6818c6f493dd49321a294cd41e575dd36e1ee8caf5e633a985a1052476", func := "cresset/cressetlaw03.FrForms", spec := "frForms", inPlace := ["math/bits.Add64", "math/bits.Sub64"], apart := false, narrowed := true }
def FrFormsUptoSaid : Prop := frFormsUptoRow.holds Try.pinned (OpenSpec.upto frFormsSpec)

end Rows
end Go.Proofs.Ytkmdaempfeocdaa
