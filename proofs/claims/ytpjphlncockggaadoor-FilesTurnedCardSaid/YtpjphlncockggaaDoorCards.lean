/-
  DERIVED. GIVEN WITH THE SEED: THE CARDS: each row of YtpjphlncockggaaDoorRows.lean that lists a variable, with what it lists TIED to the program's text (the seventh form; the later family's looks); each row that meets fmt, with fmt's text TOLD by the authors' own Lean function (tested against real Go, not proved from fmt's source: count such statements apart). THE CARD IS WHAT COUNTS. Prove the row's statement (the work); the ties are given (YtpjphlncockggaaDoorTie.lean); close each card by the builder's one call (the guide's Derived/Test/ToyasCard.lean, 'card_holds'). Laid BY PROGRAM, IN A SANDBOX (cutbox-door.mjs). By AI agents, Wed Nov 11 2026. No macro, syntax, notation, axiom, sorry.
-/
import Derived.Test.YtpjphlncockggaaDoorRows
import GoSem.ClaimSeven
namespace Go.Proofs.YtpjphlncockggaaDoor
namespace Rows

/-- THE TIED CARD OF 'cressetlaw19.FilesTurned'. -/
def filesTurnedCard : Claim7 := { stood := { row := filesTurnedRow, standIns := [], harness := (true, "7c31c265aadf3349b4f480266dc2c1818e912ecc87a8d78a34a110a388c58d77"), looks := false }, kinds := [], alts := [], laidByText := true, laidKinds := [.data, .data], laidTests := true, laidLooks := .later }
def FilesTurnedCardSaid : Prop := Claim7.holds Tryd.pinned (.plain (OpenSpec.ofChange filesTurnedSpec)) filesTurnedCard

/-- THE TIED CARD OF 'cressetlaw19.FilesLoads'. -/
def filesLoadsCard : Claim7 := { stood := { row := filesLoadsRow, standIns := [], harness := (true, "7c31c265aadf3349b4f480266dc2c1818e912ecc87a8d78a34a110a388c58d77"), looks := false }, kinds := [], alts := [], laidByText := true, laidKinds := [.data, .data], laidTests := true, laidLooks := .later }
def FilesLoadsCardSaid : Prop := Claim7.holds Tryd.pinned (.plain (OpenSpec.ofChange filesLoadsSpec)) filesLoadsCard

/-- THE TIED CARD OF 'cressetlaw19.FilesSwap'. -/
def filesSwapCard : Claim7 := { stood := { row := filesSwapRow, standIns := [], harness := (true, "7c31c265aadf3349b4f480266dc2c1818e912ecc87a8d78a34a110a388c58d77"), looks := false }, kinds := [], alts := [], laidByText := true, laidKinds := [.data, .data], laidTests := true, laidLooks := .later }
def FilesSwapCardSaid : Prop := Claim7.holds Tryd.pinned (.plain (OpenSpec.ofChange filesSwapSpec)) filesSwapCard

/-- THE SECOND FORM's CARD OF 'cressetlaw19.FilesTurned'. -/
def filesTurnedUptoCard : Claim7 := { stood := { row := filesTurnedUptoRow, standIns := [], harness := (true, "7c31c265aadf3349b4f480266dc2c1818e912ecc87a8d78a34a110a388c58d77"), looks := false }, kinds := [], alts := [], laidByText := true, laidKinds := [.data, .data], laidTests := true, laidLooks := .later }
def FilesTurnedUptoCardSaid : Prop := Claim7.holds Tryd.pinned (.plain (OpenSpec.upto filesTurnedSpec)) filesTurnedUptoCard

/-- THE SECOND FORM's CARD OF 'cressetlaw19.FilesLoads'. -/
def filesLoadsUptoCard : Claim7 := { stood := { row := filesLoadsUptoRow, standIns := [], harness := (true, "7c31c265aadf3349b4f480266dc2c1818e912ecc87a8d78a34a110a388c58d77"), looks := false }, kinds := [], alts := [], laidByText := true, laidKinds := [.data, .data], laidTests := true, laidLooks := .later }
def FilesLoadsUptoCardSaid : Prop := Claim7.holds Tryd.pinned (.plain (OpenSpec.upto filesLoadsSpec)) filesLoadsUptoCard

/-- THE SECOND FORM's CARD OF 'cressetlaw19.FilesSwap'. -/
def filesSwapUptoCard : Claim7 := { stood := { row := filesSwapUptoRow, standIns := [], harness := (true, "7c31c265aadf3349b4f480266dc2c1818e912ecc87a8d78a34a110a388c58d77"), looks := false }, kinds := [], alts := [], laidByText := true, laidKinds := [.data, .data], laidTests := true, laidLooks := .later }
def FilesSwapUptoCardSaid : Prop := Claim7.holds Tryd.pinned (.plain (OpenSpec.upto filesSwapSpec)) filesSwapUptoCard
end Rows
end Go.Proofs.YtpjphlncockggaaDoor
