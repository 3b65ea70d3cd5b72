/-
  DERIVED. GIVEN WITH THE SEED: THE CARDS: each row of YtjglidfemgodiaaDoorRows.lean that lists a variable, with what it lists TIED to the program's text (the seventh form; the later family's looks); each row that meets fmt, with fmt's text TOLD by the authors' own Lean function (tested against real Go, not proved from fmt's source: count such statements apart). THE CARD IS WHAT COUNTS. Prove the row's statement (the work); the ties are given (YtjglidfemgodiaaDoorTie.lean); close each card by the builder's one call (the guide's Derived/Test/ToyasCard.lean, 'card_holds'). Laid BY PROGRAM, IN A SANDBOX (cutbox-door.mjs). By AI agents, Wed Nov 11 2026. No macro, syntax, notation, axiom, sorry.
-/
import Derived.Test.YtjglidfemgodiaaDoorRows
import GoSem.ClaimSeven
namespace Go.Proofs.YtjglidfemgodiaaDoor
namespace Rows

/-- THE TIED CARD OF 'cressetlaw01.ShaSums'. -/
def shaSumsCard : Claim7 := { stood := { row := shaSumsRow, standIns := [], harness := (true, "e22b27c1838cf5e9fa3eb7fe871e0f97b132f24cd0414e0b31ac51d05fe6d872"), looks := false }, kinds := [], alts := [], laidByText := true, laidKinds := [.data, .data], laidTests := true, laidLooks := .later }
def ShaSumsCardSaid : Prop := Claim7.holds Tryd.pinned (.plain (OpenSpec.ofChange shaSumsSpec)) shaSumsCard

/-- THE TIED CARD OF 'cressetlaw01.ShaCuts'. -/
def shaCutsCard : Claim7 := { stood := { row := shaCutsRow, standIns := [], harness := (true, "e22b27c1838cf5e9fa3eb7fe871e0f97b132f24cd0414e0b31ac51d05fe6d872"), looks := false }, kinds := [], alts := [], laidByText := true, laidKinds := [.data, .data], laidTests := true, laidLooks := .later }
def ShaCutsCardSaid : Prop := Claim7.holds Tryd.pinned (.plain (OpenSpec.ofChange shaCutsSpec)) shaCutsCard

/-- THE TIED CARD OF 'cressetlaw01.ShaStreams'. -/
def shaStreamsCard : Claim7 := { stood := { row := shaStreamsRow, standIns := [], harness := (true, "e22b27c1838cf5e9fa3eb7fe871e0f97b132f24cd0414e0b31ac51d05fe6d872"), looks := false }, kinds := [], alts := [], laidByText := true, laidKinds := [.data, .data], laidTests := true, laidLooks := .later }
def ShaStreamsCardSaid : Prop := Claim7.holds Tryd.pinned (.plain (OpenSpec.ofChange shaStreamsSpec)) shaStreamsCard

/-- THE TIED CARD OF 'cressetlaw02.HkdfMacs'. -/
def hkdfMacsCard : Claim7 := { stood := { row := hkdfMacsRow, standIns := [], harness := (true, "e22b27c1838cf5e9fa3eb7fe871e0f97b132f24cd0414e0b31ac51d05fe6d872"), looks := false }, kinds := [], alts := [], laidByText := true, laidKinds := [.data, .data], laidTests := true, laidLooks := .later }
def HkdfMacsCardSaid : Prop := Claim7.holds Tryd.pinned (.plain (OpenSpec.ofChange hkdfMacsSpec)) hkdfMacsCard

/-- THE TIED CARD OF 'cressetlaw02.HkdfGrows'. -/
def hkdfGrowsCard : Claim7 := { stood := { row := hkdfGrowsRow, standIns := [], harness := (true, "e22b27c1838cf5e9fa3eb7fe871e0f97b132f24cd0414e0b31ac51d05fe6d872"), looks := false }, kinds := [], alts := [], laidByText := true, laidKinds := [.data, .data], laidTests := true, laidLooks := .later }
def HkdfGrowsCardSaid : Prop := Claim7.holds Tryd.pinned (.plain (OpenSpec.ofChange hkdfGrowsSpec)) hkdfGrowsCard

/-- THE TIED CARD OF 'cressetlaw02.HkdfKeys'. -/
def hkdfKeysCard : Claim7 := { stood := { row := hkdfKeysRow, standIns := [], harness := (true, "e22b27c1838cf5e9fa3eb7fe871e0f97b132f24cd0414e0b31ac51d05fe6d872"), looks := false }, kinds := [], alts := [], laidByText := true, laidKinds := [.data, .data], laidTests := true, laidLooks := .later }
def HkdfKeysCardSaid : Prop := Claim7.holds Tryd.pinned (.plain (OpenSpec.ofChange hkdfKeysSpec)) hkdfKeysCard

/-- THE SECOND FORM's CARD OF 'cressetlaw01.ShaSums'. -/
def shaSumsUptoCard : Claim7 := { stood := { row := shaSumsUptoRow, standIns := [], harness := (true, "e22b27c1838cf5e9fa3eb7fe871e0f97b132f24cd0414e0b31ac51d05fe6d872"), looks := false }, kinds := [], alts := [], laidByText := true, laidKinds := [.data, .data], laidTests := true, laidLooks := .later }
def ShaSumsUptoCardSaid : Prop := Claim7.holds Tryd.pinned (.plain (OpenSpec.upto shaSumsSpec)) shaSumsUptoCard

/-- THE SECOND FORM's CARD OF 'cressetlaw01.ShaCuts'. -/
def shaCutsUptoCard : Claim7 := { stood := { row := shaCutsUptoRow, standIns := [], harness := (true, "e22b27c1838cf5e9fa3eb7fe871e0f97b132f24cd0414e0b31ac51d05fe6d872"), looks := false }, kinds := [], alts := [], laidByText := true, laidKinds := [.data, .data], laidTests := true, laidLooks := .later }
def ShaCutsUptoCardSaid : Prop := Claim7.holds Tryd.pinned (.plain (OpenSpec.upto shaCutsSpec)) shaCutsUptoCard

/-- THE SECOND FORM's CARD OF 'cressetlaw01.ShaStreams'. -/
def shaStreamsUptoCard : Claim7 := { stood := { row := shaStreamsUptoRow, standIns := [], harness := (true, "e22b27c1838cf5e9fa3eb7fe871e0f97b132f24cd0414e0b31ac51d05fe6d872"), looks := false }, kinds := [], alts := [], laidByText := true, laidKinds := [.data, .data], laidTests := true, laidLooks := .later }
def ShaStreamsUptoCardSaid : Prop := Claim7.holds Tryd.pinned (.plain (OpenSpec.upto shaStreamsSpec)) shaStreamsUptoCard

/-- THE SECOND FORM's CARD OF 'cressetlaw02.HkdfMacs'. -/
def hkdfMacsUptoCard : Claim7 := { stood := { row := hkdfMacsUptoRow, standIns := [], harness := (true, "e22b27c1838cf5e9fa3eb7fe871e0f97b132f24cd0414e0b31ac51d05fe6d872"), looks := false }, kinds := [], alts := [], laidByText := true, laidKinds := [.data, .data], laidTests := true, laidLooks := .later }
def HkdfMacsUptoCardSaid : Prop := Claim7.holds Tryd.pinned (.plain (OpenSpec.upto hkdfMacsSpec)) hkdfMacsUptoCard

/-- THE SECOND FORM's CARD OF 'cressetlaw02.HkdfGrows'. -/
def hkdfGrowsUptoCard : Claim7 := { stood := { row := hkdfGrowsUptoRow, standIns := [], harness := (true, "e22b27c1838cf5e9fa3eb7fe871e0f97b132f24cd0414e0b31ac51d05fe6d872"), looks := false }, kinds := [], alts := [], laidByText := true, laidKinds := [.data, .data], laidTests := true, laidLooks := .later }
def HkdfGrowsUptoCardSaid : Prop := Claim7.holds Tryd.pinned (.plain (OpenSpec.upto hkdfGrowsSpec)) hkdfGrowsUptoCard

/-- THE SECOND FORM's CARD OF 'cressetlaw02.HkdfKeys'. -/
def hkdfKeysUptoCard : Claim7 := { stood := { row := hkdfKeysUptoRow, standIns := [], harness := (true, "e22b27c1838cf5e9fa3eb7fe871e0f97b132f24cd0414e0b31ac51d05fe6d872"), looks := false }, kinds := [], alts := [], laidByText := true, laidKinds := [.data, .data], laidTests := true, laidLooks := .later }
def HkdfKeysUptoCardSaid : Prop := Claim7.holds Tryd.pinned (.plain (OpenSpec.upto hkdfKeysSpec)) hkdfKeysUptoCard
end Rows
end Go.Proofs.YtjglidfemgodiaaDoor
