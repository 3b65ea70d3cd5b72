/-
  DERIVED. GIVEN WITH THE SEED: THE CARDS: each row of YthdhjbmgmfndhaaDoorRows.lean that lists a variable, with what it lists TIED to the program's text (the seventh form; the later family's looks); each row that meets fmt, with fmt's text TOLD by the authors' own Lean function (tested against real Go, not proved from fmt's source: count such statements apart). THE CARD IS WHAT COUNTS. Prove the row's statement (the work); the ties are given (YthdhjbmgmfndhaaDoorTie.lean); close each card by the builder's one call (the guide's Derived/Test/ToyasCard.lean, 'card_holds'). Laid BY PROGRAM, IN A SANDBOX (cutbox-door.mjs). By AI agents, Wed Nov 11 2026. No macro, syntax, notation, axiom, sorry.
-/
import Derived.Test.YthdhjbmgmfndhaaDoorRows
import GoSem.ClaimSeven
namespace Go.Proofs.YthdhjbmgmfndhaaDoor
namespace Rows

/-- THE TIED CARD OF 'cressetlaw18.ChainTwice'. -/
def chainTwiceCard : Claim7 := { stood := { row := chainTwiceRow, standIns := [], harness := (true, "6536aa8526b12f2a58794c647b15c88432bf740d521c0d0cc4a2194ceeab89fd"), looks := false }, kinds := [], alts := [], laidByText := true, laidKinds := [.data, .data], laidTests := true, laidLooks := .later }
def ChainTwiceCardSaid : Prop := Claim7.holds Tryd.pinned (.plain (OpenSpec.ofChange chainTwiceSpec)) chainTwiceCard

/-- THE TIED CARD OF 'cressetlaw18.ChainGrows'. -/
def chainGrowsCard : Claim7 := { stood := { row := chainGrowsRow, standIns := [], harness := (true, "6536aa8526b12f2a58794c647b15c88432bf740d521c0d0cc4a2194ceeab89fd"), looks := false }, kinds := [], alts := [], laidByText := true, laidKinds := [.data, .data], laidTests := true, laidLooks := .later }
def ChainGrowsCardSaid : Prop := Claim7.holds Tryd.pinned (.plain (OpenSpec.ofChange chainGrowsSpec)) chainGrowsCard

/-- THE TIED CARD OF 'cressetlaw18.ChainKeeps'. -/
def chainKeepsCard : Claim7 := { stood := { row := chainKeepsRow, standIns := [], harness := (true, "6536aa8526b12f2a58794c647b15c88432bf740d521c0d0cc4a2194ceeab89fd"), looks := false }, kinds := [], alts := [], laidByText := true, laidKinds := [.data, .data], laidTests := true, laidLooks := .later }
def ChainKeepsCardSaid : Prop := Claim7.holds Tryd.pinned (.plain (OpenSpec.ofChange chainKeepsSpec)) chainKeepsCard

/-- THE TIED CARD OF 'cressetlaw18.ChainTurned'. -/
def chainTurnedCard : Claim7 := { stood := { row := chainTurnedRow, standIns := [], harness := (true, "6536aa8526b12f2a58794c647b15c88432bf740d521c0d0cc4a2194ceeab89fd"), looks := false }, kinds := [], alts := [], laidByText := true, laidKinds := [.data, .data], laidTests := true, laidLooks := .later }
def ChainTurnedCardSaid : Prop := Claim7.holds Tryd.pinned (.plain (OpenSpec.ofChange chainTurnedSpec)) chainTurnedCard

/-- THE TIED CARD OF 'cressetlaw18.ChainOpens'. -/
def chainOpensCard : Claim7 := { stood := { row := chainOpensRow, standIns := [], harness := (true, "6536aa8526b12f2a58794c647b15c88432bf740d521c0d0cc4a2194ceeab89fd"), looks := false }, kinds := [], alts := [], laidByText := true, laidKinds := [.data, .data], laidTests := true, laidLooks := .later }
def ChainOpensCardSaid : Prop := Claim7.holds Tryd.pinned (.plain (OpenSpec.ofChange chainOpensSpec)) chainOpensCard

/-- THE SECOND FORM's CARD OF 'cressetlaw18.ChainTwice'. -/
def chainTwiceUptoCard : Claim7 := { stood := { row := chainTwiceUptoRow, standIns := [], harness := (true, "6536aa8526b12f2a58794c647b15c88432bf740d521c0d0cc4a2194ceeab89fd"), looks := false }, kinds := [], alts := [], laidByText := true, laidKinds := [.data, .data], laidTests := true, laidLooks := .later }
def ChainTwiceUptoCardSaid : Prop := Claim7.holds Tryd.pinned (.plain (OpenSpec.upto chainTwiceSpec)) chainTwiceUptoCard

/-- THE SECOND FORM's CARD OF 'cressetlaw18.ChainGrows'. -/
def chainGrowsUptoCard : Claim7 := { stood := { row := chainGrowsUptoRow, standIns := [], harness := (true, "6536aa8526b12f2a58794c647b15c88432bf740d521c0d0cc4a2194ceeab89fd"), looks := false }, kinds := [], alts := [], laidByText := true, laidKinds := [.data, .data], laidTests := true, laidLooks := .later }
def ChainGrowsUptoCardSaid : Prop := Claim7.holds Tryd.pinned (.plain (OpenSpec.upto chainGrowsSpec)) chainGrowsUptoCard

/-- THE SECOND FORM's CARD OF 'cressetlaw18.ChainKeeps'. -/
def chainKeepsUptoCard : Claim7 := { stood := { row := chainKeepsUptoRow, standIns := [], harness := (true, "6536aa8526b12f2a58794c647b15c88432bf740d521c0d0cc4a2194ceeab89fd"), looks := false }, kinds := [], alts := [], laidByText := true, laidKinds := [.data, .data], laidTests := true, laidLooks := .later }
def ChainKeepsUptoCardSaid : Prop := Claim7.holds Tryd.pinned (.plain (OpenSpec.upto chainKeepsSpec)) chainKeepsUptoCard

/-- THE SECOND FORM's CARD OF 'cressetlaw18.ChainTurned'. -/
def chainTurnedUptoCard : Claim7 := { stood := { row := chainTurnedUptoRow, standIns := [], harness := (true, "6536aa8526b12f2a58794c647b15c88432bf740d521c0d0cc4a2194ceeab89fd"), looks := false }, kinds := [], alts := [], laidByText := true, laidKinds := [.data, .data], laidTests := true, laidLooks := .later }
def ChainTurnedUptoCardSaid : Prop := Claim7.holds Tryd.pinned (.plain (OpenSpec.upto chainTurnedSpec)) chainTurnedUptoCard

/-- THE SECOND FORM's CARD OF 'cressetlaw18.ChainOpens'. -/
def chainOpensUptoCard : Claim7 := { stood := { row := chainOpensUptoRow, standIns := [], harness := (true, "6536aa8526b12f2a58794c647b15c88432bf740d521c0d0cc4a2194ceeab89fd"), looks := false }, kinds := [], alts := [], laidByText := true, laidKinds := [.data, .data], laidTests := true, laidLooks := .later }
def ChainOpensUptoCardSaid : Prop := Claim7.holds Tryd.pinned (.plain (OpenSpec.upto chainOpensSpec)) chainOpensUptoCard
end Rows
end Go.Proofs.YthdhjbmgmfndhaaDoor
