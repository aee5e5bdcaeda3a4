/-
  DERIVED. GIVEN WITH THE SEED: THE CARDS: each row of YtodmjmkakgamlaaGreatDoorRows.lean that lists a variable, with what it lists TIED to the program's text (the seventh form; the later family's looks); each row that meets fmt, with fmt's text TOLD by the authors' own Lean function (tested against real Go, not proved from fmt's source: count such statements apart). THE CARD IS WHAT COUNTS. Prove the row's statement (the work); the ties are given (YtodmjmkakgamlaaGreatDoorTie.lean); close each card by the builder's one call (the guide's Derived/Test/ToyasCard.lean, 'card_holds'). Laid BY PROGRAM, IN A SANDBOX (cutbox-door.mjs). By AI agents, Wed Nov 11 2026. No macro, syntax, notation, axiom, sorry.
-/
import Derived.Test.YtodmjmkakgamlaaGreatDoorRows
import GoSem.ClaimSeven
namespace Go.Proofs.YtodmjmkakgamlaaGreatDoor
namespace Rows

/-- THE TIED CARD OF 'laws.FnPackSame'. -/
def fnPackSameCard : Claim7 := { stood := { row := fnPackSameRow, standIns := [], harness := (true, "61fca474bf1a86b09a55387f61c8fbe619d74ca3b81c33a1f9ce3249cde23810"), looks := false }, kinds := [], alts := [], laidByText := true, laidKinds := [.data, .data, .data, .widerDeep], laidTests := true, laidLooks := .later }
def FnPackSameCardSaid : Prop := Claim7.holds Tryz.pinned (.plain (OpenSpec.ofChange fnPackSameSpec)) fnPackSameCard

/-- THE TIED CARD OF 'laws.FnPackSize'. -/
def fnPackSizeCard : Claim7 := { stood := { row := fnPackSizeRow, standIns := [], harness := (true, "61fca474bf1a86b09a55387f61c8fbe619d74ca3b81c33a1f9ce3249cde23810"), looks := false }, kinds := [], alts := [], laidByText := true, laidKinds := [.data, .data, .data, .widerDeep], laidTests := true, laidLooks := .later }
def FnPackSizeCardSaid : Prop := Claim7.holds Tryz.pinned (.plain (OpenSpec.ofChange fnPackSizeSpec)) fnPackSizeCard

/-- THE SECOND FORM's CARD OF 'laws.FnPackSame'. -/
def fnPackSameUptoCard : Claim7 := { stood := { row := fnPackSameUptoRow, standIns := [], harness := (true, "61fca474bf1a86b09a55387f61c8fbe619d74ca3b81c33a1f9ce3249cde23810"), looks := false }, kinds := [], alts := [], laidByText := true, laidKinds := [.data, .data, .data, .widerDeep], laidTests := true, laidLooks := .later }
def FnPackSameUptoCardSaid : Prop := Claim7.holds Tryz.pinned (.plain (OpenSpec.upto fnPackSameSpec)) fnPackSameUptoCard

/-- THE SECOND FORM's CARD OF 'laws.FnPackSize'. -/
def fnPackSizeUptoCard : Claim7 := { stood := { row := fnPackSizeUptoRow, standIns := [], harness := (true, "61fca474bf1a86b09a55387f61c8fbe619d74ca3b81c33a1f9ce3249cde23810"), looks := false }, kinds := [], alts := [], laidByText := true, laidKinds := [.data, .data, .data, .widerDeep], laidTests := true, laidLooks := .later }
def FnPackSizeUptoCardSaid : Prop := Claim7.holds Tryz.pinned (.plain (OpenSpec.upto fnPackSizeSpec)) fnPackSizeUptoCard
end Rows
end Go.Proofs.YtodmjmkakgamlaaGreatDoor
