/-
  DERIVED. GIVEN WITH THE SEED: THE CARDS: each row of YtodmjmkakgamlabGreatDoorRows.lean that lists a variable, with what it lists TIED to the program's text (the seventh form; the later family's looks); each row that meets fmt, with fmt's text TOLD by the authors' own Lean function (tested against real Go, not proved from fmt's source: count such statements apart). THE CARD IS WHAT COUNTS. Prove the row's statement (the work); the ties are given (YtodmjmkakgamlabGreatDoorTie.lean); close each card by the builder's one call (the guide's Derived/Test/ToyasCard.lean, 'card_holds'). Laid BY PROGRAM, IN A SANDBOX (cutbox-door.mjs). By AI agents, Wed Nov 11 2026. No macro, syntax, notation, axiom, sorry.
-/
import Derived.Test.YtodmjmkakgamlabGreatDoorRows
import GoSem.ClaimSeven
namespace Go.Proofs.YtodmjmkakgamlabGreatDoor
namespace Rows

/-- THE TIED CARD OF 'laws.FnPackEntry'. -/
def fnPackEntryCard : Claim7 := { stood := { row := fnPackEntryRow, standIns := [], harness := (true, "9ddebe10b92e922fc851bb92f6b13c1e6fca45593327f62ed469587b2e1e2df2"), looks := false }, kinds := [], alts := [], laidByText := true, laidKinds := [.data, .data, .data, .widerDeep], laidTests := true, laidLooks := .later }
def FnPackEntryCardSaid : Prop := Claim7.holds Tryz.pinned (.plain (OpenSpec.ofChange fnPackEntrySpec)) fnPackEntryCard

/-- THE TIED CARD OF 'laws.FnPack'. -/
def fnPackCard : Claim7 := { stood := { row := fnPackRow, standIns := [], harness := (true, "9ddebe10b92e922fc851bb92f6b13c1e6fca45593327f62ed469587b2e1e2df2"), looks := false }, kinds := [], alts := [], laidByText := true, laidKinds := [.data, .data, .data, .widerDeep], laidTests := true, laidLooks := .later }
def FnPackCardSaid : Prop := Claim7.holds Tryz.pinned (.plain (OpenSpec.ofChange fnPackSpec)) fnPackCard

/-- THE TIED CARD OF 'laws.FnPackOpen'. -/
def fnPackOpenCard : Claim7 := { stood := { row := fnPackOpenRow, standIns := [], harness := (true, "9ddebe10b92e922fc851bb92f6b13c1e6fca45593327f62ed469587b2e1e2df2"), looks := false }, kinds := [], alts := [], laidByText := true, laidKinds := [.data, .data, .data, .widerDeep], laidTests := true, laidLooks := .later }
def FnPackOpenCardSaid : Prop := Claim7.holds Tryz.pinned (.plain (OpenSpec.ofChange fnPackOpenSpec)) fnPackOpenCard

/-- THE SECOND FORM's CARD OF 'laws.FnPackEntry'. -/
def fnPackEntryUptoCard : Claim7 := { stood := { row := fnPackEntryUptoRow, standIns := [], harness := (true, "9ddebe10b92e922fc851bb92f6b13c1e6fca45593327f62ed469587b2e1e2df2"), looks := false }, kinds := [], alts := [], laidByText := true, laidKinds := [.data, .data, .data, .widerDeep], laidTests := true, laidLooks := .later }
def FnPackEntryUptoCardSaid : Prop := Claim7.holds Tryz.pinned (.plain (OpenSpec.upto fnPackEntrySpec)) fnPackEntryUptoCard

/-- THE SECOND FORM's CARD OF 'laws.FnPack'. -/
def fnPackUptoCard : Claim7 := { stood := { row := fnPackUptoRow, standIns := [], harness := (true, "9ddebe10b92e922fc851bb92f6b13c1e6fca45593327f62ed469587b2e1e2df2"), looks := false }, kinds := [], alts := [], laidByText := true, laidKinds := [.data, .data, .data, .widerDeep], laidTests := true, laidLooks := .later }
def FnPackUptoCardSaid : Prop := Claim7.holds Tryz.pinned (.plain (OpenSpec.upto fnPackSpec)) fnPackUptoCard

/-- THE SECOND FORM's CARD OF 'laws.FnPackOpen'. -/
def fnPackOpenUptoCard : Claim7 := { stood := { row := fnPackOpenUptoRow, standIns := [], harness := (true, "9ddebe10b92e922fc851bb92f6b13c1e6fca45593327f62ed469587b2e1e2df2"), looks := false }, kinds := [], alts := [], laidByText := true, laidKinds := [.data, .data, .data, .widerDeep], laidTests := true, laidLooks := .later }
def FnPackOpenUptoCardSaid : Prop := Claim7.holds Tryz.pinned (.plain (OpenSpec.upto fnPackOpenSpec)) fnPackOpenUptoCard
end Rows
end Go.Proofs.YtodmjmkakgamlabGreatDoor
