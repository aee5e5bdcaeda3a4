/-
  DERIVED. GIVEN WITH THE SEED: THE CARDS: each row of YtodmjmkakgamlaaDoorRows.lean that lists a variable, with what it lists TIED to the program's text (the seventh form; the later family's looks); each row that meets fmt, with fmt's text TOLD by the authors' own Lean function (tested against real Go, not proved from fmt's source: count such statements apart). THE CARD IS WHAT COUNTS. Prove the row's statement (the work); the ties are given (YtodmjmkakgamlaaDoorTie.lean); close each card by the builder's one call (the guide's Derived/Test/ToyasCard.lean, 'card_holds'). Laid BY PROGRAM, IN A SANDBOX (cutbox-door.mjs). By AI agents, Wed Nov 11 2026. No macro, syntax, notation, axiom, sorry.
-/
import Derived.Test.YtodmjmkakgamlaaDoorRows
import GoSem.ClaimSeven
namespace Go.Proofs.YtodmjmkakgamlaaDoor
namespace Rows

/-- THE TIED CARD OF 'laws.FnExactPackText'. -/
def fnExactPackTextCard : Claim7 := { stood := { row := fnExactPackTextRow, standIns := [], harness := (true, "e88acb54a2550d49c858aa2ccd6726c024b1e2e43cd6607487cbfa081071f8dd"), looks := false }, kinds := [], alts := [], laidByText := true, laidKinds := [.data, .data, .data, .widerDeep], laidTests := true, laidLooks := .later }
def FnExactPackTextCardSaid : Prop := Claim7.holds Tryd.pinned (.plain (OpenSpec.ofChange fnExactPackTextSpec)) fnExactPackTextCard

/-- THE SECOND FORM's CARD OF 'laws.FnExactPackText'. -/
def fnExactPackTextUptoCard : Claim7 := { stood := { row := fnExactPackTextUptoRow, standIns := [], harness := (true, "e88acb54a2550d49c858aa2ccd6726c024b1e2e43cd6607487cbfa081071f8dd"), looks := false }, kinds := [], alts := [], laidByText := true, laidKinds := [.data, .data, .data, .widerDeep], laidTests := true, laidLooks := .later }
def FnExactPackTextUptoCardSaid : Prop := Claim7.holds Tryd.pinned (.plain (OpenSpec.upto fnExactPackTextSpec)) fnExactPackTextUptoCard
end Rows
end Go.Proofs.YtodmjmkakgamlaaDoor
