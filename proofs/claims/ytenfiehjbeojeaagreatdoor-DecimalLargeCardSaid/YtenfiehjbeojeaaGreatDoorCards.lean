/-
  DERIVED. GIVEN WITH THE SEED: THE CARDS: each row of YtenfiehjbeojeaaGreatDoorRows.lean that lists a variable, with what it lists TIED to the program's text (the seventh form; the later family's looks); each row that meets fmt, with fmt's text TOLD by the authors' own Lean function (tested against real Go, not proved from fmt's source: count such statements apart). THE CARD IS WHAT COUNTS. Prove the row's statement (the work); the ties are given (YtenfiehjbeojeaaGreatDoorTie.lean); close each card by the builder's one call (the guide's Derived/Test/ToyasCard.lean, 'card_holds'). Laid BY PROGRAM, IN A SANDBOX (cutbox-door.mjs). By AI agents, Wed Nov 11 2026. No macro, syntax, notation, axiom, sorry.
-/
import Derived.Test.YtenfiehjbeojeaaGreatDoorRows
import GoSem.ClaimSeven
namespace Go.Proofs.YtenfiehjbeojeaaGreatDoor
namespace Rows

/-- THE TIED CARD OF 'reckonerlaw16.RoundLarge'. -/
def roundLargeCard : Claim7 := { stood := { row := roundLargeRow, standIns := [], harness := (true, "98df9e1003210a89f40ae30922afaa72e41cb483730375a38ac343b71d59522d"), looks := false }, kinds := [], alts := [], laidByText := true, laidKinds := [.data, .data, .funcs], laidTests := true, laidLooks := .later }
def RoundLargeCardSaid : Prop := Claim7.holds Tryz.pinned (.plain (OpenSpec.ofChange roundLargeSpec)) roundLargeCard

/-- THE TIED CARD OF 'reckonerlaw22.DecimalLarge'. -/
def decimalLargeCard : Claim7 := { stood := { row := decimalLargeRow, standIns := [], harness := (true, "98df9e1003210a89f40ae30922afaa72e41cb483730375a38ac343b71d59522d"), looks := false }, kinds := [], alts := [], laidByText := true, laidKinds := [.data, .data, .funcs], laidTests := true, laidLooks := .later }
def DecimalLargeCardSaid : Prop := Claim7.holds Tryz.pinned (.plain (OpenSpec.ofChange decimalLargeSpec)) decimalLargeCard

/-- THE SECOND FORM's CARD OF 'reckonerlaw16.RoundLarge'. -/
def roundLargeUptoCard : Claim7 := { stood := { row := roundLargeUptoRow, standIns := [], harness := (true, "98df9e1003210a89f40ae30922afaa72e41cb483730375a38ac343b71d59522d"), looks := false }, kinds := [], alts := [], laidByText := true, laidKinds := [.data, .data, .funcs], laidTests := true, laidLooks := .later }
def RoundLargeUptoCardSaid : Prop := Claim7.holds Tryz.pinned (.plain (OpenSpec.upto roundLargeSpec)) roundLargeUptoCard
end Rows
end Go.Proofs.YtenfiehjbeojeaaGreatDoor
