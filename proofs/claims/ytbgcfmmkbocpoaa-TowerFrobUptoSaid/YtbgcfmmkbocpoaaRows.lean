/-
  No cell of these rows narrows 'for every input' (looked for: loops, veiled, ifaces, maps, wideKeys, modest, calm, conditions, laid).
  DERIVED. THE GIVEN ROWS OF THIS SEAT. 6 by the template 'for every input the law returns true; each argument reads behind the call as it read before'; 0 by the template 'total and deterministic' (their statements: YtbgcfmmkbocpoaaTotals.lean).
  GIVEN WITH THE SEED: the statements are not yours to turn. If you find one false, say at which input.
  Laid BY PROGRAM, IN A SANDBOX (cutbox-rows.mjs): the forced cells as the released guide's own fill.sh prints them over the translation 6be71e6021c024ca… (all of the seat's roots in one cut). By AI agents, Wed Nov 11 2026. No macro, syntax, notation, axiom, sorry.
-/
import Derived.Test.YtbgcfmmkbocpoaaChecked
import GoSem.Claim
import GoSem.ClaimJoined
import GoSem.ClaimMapViews
import Derived.JoinedTies
import Derived.KernelRfl
namespace Go.Proofs.Ytbgcfmmkbocpoaa
/- THE CELL 'sum', in the pinned program and in every row, IS THE sha256 OF THE DUMP (.gsa) THAT YtbgcfmmkbocpoaaProg.lean LOADS. Nothing in Lean hashes anything: it is a label: what it is worth is what the hold of that sum in a sandbox is worth. -/
noncomputable def Try.pinned : Pinned := { name := "ytbgcfmmkbocpoaa", sum := "6be71e6021c024caebdbbb773ed4e993a7710c7b864a5a397877b3be1e16d3b2", checked := Try.checked }
namespace Rows
def none {H : Type} : Left H := { results := [], args := [] }

/-- 'cressetlaw06.TowerPowers': WHATEVER THE INPUT: true; the input reads as it did. -/
def towerPowersSpec : ChangeSpec := { name := "towerPowers", fn := fun _ => fun
  | [d1, d2, d3] => { results := [.lit (.bool true)], args := [d1, d2, d3] }
  | _ => none }
def towerPowersRow : OpenClaim := { program := "ytbgcfmmkbocpoaa", sum := "6be71e6021c024caebdbbb773ed4e993a7710c7b864a5a397877b3be1e16d3b2", func := "cresset/cressetlaw06.TowerPowers", spec := "towerPowers", inPlace := ["math/bits.Add64", "math/bits.Sub64"], apart := false }
def TowerPowersSaid : Prop := towerPowersRow.holds Try.pinned (OpenSpec.ofChange towerPowersSpec)

/-- ITS FALSE NEIGHBOUR: 'it returns false'. Refute it at one input. -/
def towerPowersWrong : ChangeSpec := { name := "towerPowers", fn := fun _ => fun
  | [d1, d2, d3] => { results := [.lit (.bool false)], args := [d1, d2, d3] }
  | _ => none }
def TowerPowersWrongFalsely : Prop := towerPowersRow.holds Try.pinned (OpenSpec.ofChange towerPowersWrong)

/-- 'cressetlaw06.TowerLines': WHATEVER THE INPUT: true; the input reads as it did. -/
def towerLinesSpec : ChangeSpec := { name := "towerLines", fn := fun _ => fun
  | [d1, d2] => { results := [.lit (.bool true)], args := [d1, d2] }
  | _ => none }
def towerLinesRow : OpenClaim := { program := "ytbgcfmmkbocpoaa", sum := "6be71e6021c024caebdbbb773ed4e993a7710c7b864a5a397877b3be1e16d3b2", func := "cresset/cressetlaw06.TowerLines", spec := "towerLines", inPlace := ["math/bits.Add64", "math/bits.Sub64"], apart := false }
def TowerLinesSaid : Prop := towerLinesRow.holds Try.pinned (OpenSpec.ofChange towerLinesSpec)

/-- ITS FALSE NEIGHBOUR: 'it returns false'. Refute it at one input. -/
def towerLinesWrong : ChangeSpec := { name := "towerLines", fn := fun _ => fun
  | [d1, d2] => { results := [.lit (.bool false)], args := [d1, d2] }
  | _ => none }
def TowerLinesWrongFalsely : Prop := towerLinesRow.holds Try.pinned (OpenSpec.ofChange towerLinesWrong)

/-- 'cressetlaw06.TowerReckons': WHATEVER THE INPUT: true; the input reads as it did. -/
def towerReckonsSpec : ChangeSpec := { name := "towerReckons", fn := fun _ => fun
  | [d1, d2] => { results := [.lit (.bool true)], args := [d1, d2] }
  | _ => none }
def towerReckonsRow : OpenClaim := { program := "ytbgcfmmkbocpoaa", sum := "6be71e6021c024caebdbbb773ed4e993a7710c7b864a5a397877b3be1e16d3b2", func := "cresset/cressetlaw06.TowerReckons", spec := "towerReckons", inPlace := ["math/bits.Add64", "math/bits.Sub64"], apart := false }
def TowerReckonsSaid : Prop := towerReckonsRow.holds Try.pinned (OpenSpec.ofChange towerReckonsSpec)

/-- ITS FALSE NEIGHBOUR: 'it returns false'. Refute it at one input. -/
def towerReckonsWrong : ChangeSpec := { name := "towerReckons", fn := fun _ => fun
  | [d1, d2] => { results := [.lit (.bool false)], args := [d1, d2] }
  | _ => none }
def TowerReckonsWrongFalsely : Prop := towerReckonsRow.holds Try.pinned (OpenSpec.ofChange towerReckonsWrong)

/-- 'cressetlaw06.TowerCubics': WHATEVER THE INPUT: true; the input reads as it did. -/
def towerCubicsSpec : ChangeSpec := { name := "towerCubics", fn := fun _ => fun
  | [d1, d2] => { results := [.lit (.bool true)], args := [d1, d2] }
  | _ => none }
def towerCubicsRow : OpenClaim := { program := "ytbgcfmmkbocpoaa", sum := "6be71e6021c024caebdbbb773ed4e993a7710c7b864a5a397877b3be1e16d3b2", func := "cresset/cressetlaw06.TowerCubics", spec := "towerCubics", inPlace := ["math/bits.Add64", "math/bits.Sub64"], apart := false }
def TowerCubicsSaid : Prop := towerCubicsRow.holds Try.pinned (OpenSpec.ofChange towerCubicsSpec)

/-- ITS FALSE NEIGHBOUR: 'it returns false'. Refute it at one input. -/
def towerCubicsWrong : ChangeSpec := { name := "towerCubics", fn := fun _ => fun
  | [d1, d2] => { results := [.lit (.bool false)], args := [d1, d2] }
  | _ => none }
def TowerCubicsWrongFalsely : Prop := towerCubicsRow.holds Try.pinned (OpenSpec.ofChange towerCubicsWrong)

/-- 'cressetlaw06.TowerRules': WHATEVER THE INPUT: true; the input reads as it did. -/
def towerRulesSpec : ChangeSpec := { name := "towerRules", fn := fun _ => fun
  | [d1, d2, d3] => { results := [.lit (.bool true)], args := [d1, d2, d3] }
  | _ => none }
def towerRulesRow : OpenClaim := { program := "ytbgcfmmkbocpoaa", sum := "6be71e6021c024caebdbbb773ed4e993a7710c7b864a5a397877b3be1e16d3b2", func := "cresset/cressetlaw06.TowerRules", spec := "towerRules", inPlace := ["math/bits.Add64", "math/bits.Sub64"], apart := false }
def TowerRulesSaid : Prop := towerRulesRow.holds Try.pinned (OpenSpec.ofChange towerRulesSpec)

/-- ITS FALSE NEIGHBOUR: 'it returns false'. Refute it at one input. -/
def towerRulesWrong : ChangeSpec := { name := "towerRules", fn := fun _ => fun
  | [d1, d2, d3] => { results := [.lit (.bool false)], args := [d1, d2, d3] }
  | _ => none }
def TowerRulesWrongFalsely : Prop := towerRulesRow.holds Try.pinned (OpenSpec.ofChange towerRulesWrong)

/-- 'cressetlaw06.TowerFrob': WHATEVER THE INPUT: true; the input reads as it did. -/
def towerFrobSpec : ChangeSpec := { name := "towerFrob", fn := fun _ => fun
  | [d1, d2] => { results := [.lit (.bool true)], args := [d1, d2] }
  | _ => none }
def towerFrobRow : OpenClaim := { program := "ytbgcfmmkbocpoaa", sum := "6be71e6021c024caebdbbb773ed4e993a7710c7b864a5a397877b3be1e16d3b2", func := "cresset/cressetlaw06.TowerFrob", spec := "towerFrob", inPlace := ["math/bits.Add64", "math/bits.Sub64"], apart := false }
def TowerFrobSaid : Prop := towerFrobRow.holds Try.pinned (OpenSpec.ofChange towerFrobSpec)

/-- ITS FALSE NEIGHBOUR: 'it returns false'. Refute it at one input. -/
def towerFrobWrong : ChangeSpec := { name := "towerFrob", fn := fun _ => fun
  | [d1, d2] => { results := [.lit (.bool false)], args := [d1, d2] }
  | _ => none }
def TowerFrobWrongFalsely : Prop := towerFrobRow.holds Try.pinned (OpenSpec.ofChange towerFrobWrong)

/- THE SECOND FORM. 'bulk': how many values and letters a reading holds, each counted each time it is reached (what is shared counts as often as it is met; a slice's spare places count too). A statement '..UptoSaid' is the law's where the arguments, and the package variables that the reading takes, are together of bulk at most 1048576: NARROWER than '..Said'. Prove '..Said' where nothing that the law and all that it calls make is longer than what came in: it says more and counts as full. Else prove '..UptoSaid'. A law counts once. -/
mutual
def uptoBulk {H : Type} : DataW H → Nat
  | .lit (.string bytes) => bytes.length + 1
  | .lit _ => 1
  | .nil => 1
  | .ptr d => uptoBulk d + 1
  | .slice elems spare => uptoBulkAll elems + uptoBulkAll spare + 1
  | .agg parts => uptoBulkAll parts + 1
  | .iface _ d => uptoBulk d + 1
  | .map entries => uptoBulkEntries entries + 1
  | .held _ => 1
def uptoBulkAll {H : Type} : List (DataW H) → Nat
  | [] => 0
  | d :: r => uptoBulk d + uptoBulkAll r
def uptoBulkEntries {H : Type} : List (Lit × DataW H) → Nat
  | [] => 0
  | x :: r => uptoBulkEntry x + uptoBulkEntries r
def uptoBulkEntry {H : Type} : Lit × DataW H → Nat
  | (.string bytes, d) => bytes.length + uptoBulk d + 1
  | (_, d) => uptoBulk d + 1
 end
def uptoSmall : (H : Type) → List (DataW H) → Bool := fun _ ds => decide (uptoBulkAll ds ≤ 1048576)
def OpenSpec.upto (s : _root_.Go.ChangeSpec) : _root_.Go.OpenSpec := { _root_.Go.OpenSpec.ofChange s with cond := some uptoSmall }

/-- 'cressetlaw06.TowerPowers', WHERE WHAT IT READS IS OF BULK AT MOST 1048576: true; the input reads as it did. -/
def towerPowersUptoRow : OpenClaim := { program := "ytbgcfmmkbocpoaa", sum := "6be71e6021c024caebdbbb773ed4e993a7710c7b864a5a397877b3be1e16d3b2", func := "cresset/cressetlaw06.TowerPowers", spec := "towerPowers", inPlace := ["math/bits.Add64", "math/bits.Sub64"], apart := false, narrowed := true }
def TowerPowersUptoSaid : Prop := towerPowersUptoRow.holds Try.pinned (OpenSpec.upto towerPowersSpec)

/-- 'cressetlaw06.TowerLines', WHERE WHAT IT READS IS OF BULK AT MOST 1048576: true; the input reads as it did. -/
def towerLinesUptoRow : OpenClaim := { program := "ytbgcfmmkbocpoaa", sum := "6be71e6021c024caebdbbb773ed4e993a7710c7b864a5a397877b3be1e16d3b2", func := "cresset/cressetlaw06.TowerLines", spec := "towerLines", inPlace := ["math/bits.Add64", "math/bits.Sub64"], apart := false, narrowed := true }
def TowerLinesUptoSaid : Prop := towerLinesUptoRow.holds Try.pinned (OpenSpec.upto towerLinesSpec)

/-- 'cressetlaw06.TowerReckons', WHERE WHAT IT READS IS OF BULK AT MOST 1048576: true; the input reads as it did. -/
def towerReckonsUptoRow : OpenClaim := { program := "ytbgcfmmkbocpoaa", sum := "6be71e6021c024caebdbbb773ed4e993a7710c7b864a5a397877b3be1e16d3b2", func := "cresset/cressetlaw06.TowerReckons", spec := "towerReckons", inPlace := ["math/bits.Add64", "math/bits.Sub64"], apart := false, narrowed := true }
def TowerReckonsUptoSaid : Prop := towerReckonsUptoRow.holds Try.pinned (OpenSpec.upto towerReckonsSpec)

/-- 'cressetlaw06.TowerCubics', WHERE WHAT IT READS IS OF BULK AT MOST 1048576: true; the input reads as it did. -/
def towerCubicsUptoRow : OpenClaim := { program := "ytbgcfmmkbocpoaa", sum := "6be71e6021c024caebdbbb773ed4e993a7710c7b864a5a397877b3be1e16d3b2", func := "cresset/cressetlaw06.TowerCubics", spec := "towerCubics", inPlace := ["math/bits.Add64", "math/bits.Sub64"], apart := false, narrowed := true }
def TowerCubicsUptoSaid : Prop := towerCubicsUptoRow.holds Try.pinned (OpenSpec.upto towerCubicsSpec)

/-- 'cressetlaw06.TowerRules', WHERE WHAT IT READS IS OF BULK AT MOST 1048576: true; the input reads as it did. -/
def towerRulesUptoRow : OpenClaim := { program := "ytbgcfmmkbocpoaa", sum := "6be71e6021c024caebdbbb773ed4e993a7710c7b864a5a397877b3be1e16d3b2", func := "cresset/cressetlaw06.TowerRules", spec := "towerRules", inPlace := ["math/bits.Add64", "math/bits.Sub64"], apart := false, narrowed := true }
def TowerRulesUptoSaid : Prop := towerRulesUptoRow.holds Try.pinned (OpenSpec.upto towerRulesSpec)

/-- 'cressetlaw06.TowerFrob', WHERE WHAT IT READS IS OF BULK AT MOST 1048576: true; the input reads as it did. -/
def towerFrobUptoRow : OpenClaim := { program := "ytbgcfmmkbocpoaa", sum := "6be71e6021c024caebdbbb773ed4e993a7710c7b864a5a397877b3be1e16d3b2", func := "cresset/cressetlaw06.TowerFrob", spec := "towerFrob", inPlace := ["math/bits.Add64", "math/bits.Sub64"], apart := false, narrowed := true }
def TowerFrobUptoSaid : Prop := towerFrobUptoRow.holds Try.pinned (OpenSpec.upto towerFrobSpec)

end Rows
end Go.Proofs.Ytbgcfmmkbocpoaa
