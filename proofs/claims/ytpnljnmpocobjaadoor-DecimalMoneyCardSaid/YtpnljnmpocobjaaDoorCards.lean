/-
  DERIVED. GIVEN WITH THE SEED: THE CARDS: each row of YtpnljnmpocobjaaDoorRows.lean that lists a variable, with what it lists TIED to the program's text (the seventh form; the later family's looks); each row that meets fmt, with fmt's text TOLD by the authors' own Lean function (tested against real Go, not proved from fmt's source: count such statements apart). THE CARD IS WHAT COUNTS. Prove the row's statement (the work); the ties are given (YtpnljnmpocobjaaDoorTie.lean); close each card by the builder's one call (the guide's Derived/Test/ToyasCard.lean, 'card_holds'). Laid BY PROGRAM, IN A SANDBOX (cutbox-door.mjs). By AI agents, Wed Nov 11 2026. No macro, syntax, notation, axiom, sorry.
-/
import Derived.Test.YtpnljnmpocobjaaDoorRows
import GoSem.ClaimSeven
namespace Go.Proofs.YtpnljnmpocobjaaDoor
namespace Rows

/-- THE TIED CARD OF 'reckonerlaw16.RoundWhole'. -/
def roundWholeCard : Claim7 := { stood := { row := roundWholeRow, standIns := [], harness := (true, "3737a99669d692b97bbd776cbdc76718c4e51a3dad9147b75e1e68001d37223f"), looks := false }, kinds := [], alts := [], laidByText := true, laidKinds := [.data, .funcs], laidTests := true, laidLooks := .later }
def RoundWholeCardSaid : Prop := Claim7.holds Tryd.pinned (.plain (OpenSpec.ofChange roundWholeSpec)) roundWholeCard

/-- THE TIED CARD OF 'reckonerlaw16.RoundExact'. -/
def roundExactCard : Claim7 := { stood := { row := roundExactRow, standIns := [], harness := (true, "3737a99669d692b97bbd776cbdc76718c4e51a3dad9147b75e1e68001d37223f"), looks := false }, kinds := [], alts := [], laidByText := true, laidKinds := [.data, .funcs], laidTests := true, laidLooks := .later }
def RoundExactCardSaid : Prop := Claim7.holds Tryd.pinned (.plain (OpenSpec.ofChange roundExactSpec)) roundExactCard

/-- THE TIED CARD OF 'reckonerlaw16.RoundMirror'. -/
def roundMirrorCard : Claim7 := { stood := { row := roundMirrorRow, standIns := [], harness := (true, "3737a99669d692b97bbd776cbdc76718c4e51a3dad9147b75e1e68001d37223f"), looks := false }, kinds := [], alts := [], laidByText := true, laidKinds := [.data, .funcs], laidTests := true, laidLooks := .later }
def RoundMirrorCardSaid : Prop := Claim7.holds Tryd.pinned (.plain (OpenSpec.ofChange roundMirrorSpec)) roundMirrorCard

/-- THE TIED CARD OF 'reckonerlaw16.RoundKeeps'. -/
def roundKeepsCard : Claim7 := { stood := { row := roundKeepsRow, standIns := [], harness := (true, "3737a99669d692b97bbd776cbdc76718c4e51a3dad9147b75e1e68001d37223f"), looks := false }, kinds := [], alts := [], laidByText := true, laidKinds := [.data, .funcs], laidTests := true, laidLooks := .later }
def RoundKeepsCardSaid : Prop := Claim7.holds Tryd.pinned (.plain (OpenSpec.ofChange roundKeepsSpec)) roundKeepsCard

/-- THE TIED CARD OF 'reckonerlaw22.DecimalMoney'. -/
def decimalMoneyCard : Claim7 := { stood := { row := decimalMoneyRow, standIns := [], harness := (true, "3737a99669d692b97bbd776cbdc76718c4e51a3dad9147b75e1e68001d37223f"), looks := false }, kinds := [], alts := [], laidByText := true, laidKinds := [.data, .funcs], laidTests := true, laidLooks := .later }
def DecimalMoneyCardSaid : Prop := Claim7.holds Tryd.pinned (.plain (OpenSpec.ofChange decimalMoneySpec)) decimalMoneyCard

/-- THE TIED CARD OF 'reckonerlaw22.DecimalChecks'. -/
def decimalChecksCard : Claim7 := { stood := { row := decimalChecksRow, standIns := [], harness := (true, "3737a99669d692b97bbd776cbdc76718c4e51a3dad9147b75e1e68001d37223f"), looks := false }, kinds := [], alts := [], laidByText := true, laidKinds := [.data, .funcs], laidTests := true, laidLooks := .later }
def DecimalChecksCardSaid : Prop := Claim7.holds Tryd.pinned (.plain (OpenSpec.ofChange decimalChecksSpec)) decimalChecksCard

/-- THE TIED CARD OF 'reckonerlaw22.DecimalHolds'. -/
def decimalHoldsCard : Claim7 := { stood := { row := decimalHoldsRow, standIns := [], harness := (true, "3737a99669d692b97bbd776cbdc76718c4e51a3dad9147b75e1e68001d37223f"), looks := false }, kinds := [], alts := [], laidByText := true, laidKinds := [.data, .funcs], laidTests := true, laidLooks := .later }
def DecimalHoldsCardSaid : Prop := Claim7.holds Tryd.pinned (.plain (OpenSpec.ofChange decimalHoldsSpec)) decimalHoldsCard

/-- THE TIED CARD OF 'reckonerlaw22.DecimalReduces'. -/
def decimalReducesCard : Claim7 := { stood := { row := decimalReducesRow, standIns := [], harness := (true, "3737a99669d692b97bbd776cbdc76718c4e51a3dad9147b75e1e68001d37223f"), looks := false }, kinds := [], alts := [], laidByText := true, laidKinds := [.data, .funcs], laidTests := true, laidLooks := .later }
def DecimalReducesCardSaid : Prop := Claim7.holds Tryd.pinned (.plain (OpenSpec.ofChange decimalReducesSpec)) decimalReducesCard

/-- THE TIED CARD OF 'reckonerlaw22.DecimalOrder'. -/
def decimalOrderCard : Claim7 := { stood := { row := decimalOrderRow, standIns := [], harness := (true, "3737a99669d692b97bbd776cbdc76718c4e51a3dad9147b75e1e68001d37223f"), looks := false }, kinds := [], alts := [], laidByText := true, laidKinds := [.data, .funcs], laidTests := true, laidLooks := .later }
def DecimalOrderCardSaid : Prop := Claim7.holds Tryd.pinned (.plain (OpenSpec.ofChange decimalOrderSpec)) decimalOrderCard

/-- THE TIED CARD OF 'reckonerlaw22.DecimalCompares'. -/
def decimalComparesCard : Claim7 := { stood := { row := decimalComparesRow, standIns := [], harness := (true, "3737a99669d692b97bbd776cbdc76718c4e51a3dad9147b75e1e68001d37223f"), looks := false }, kinds := [], alts := [], laidByText := true, laidKinds := [.data, .funcs], laidTests := true, laidLooks := .later }
def DecimalComparesCardSaid : Prop := Claim7.holds Tryd.pinned (.plain (OpenSpec.ofChange decimalComparesSpec)) decimalComparesCard

/-- THE TIED CARD OF 'reckonerlaw22.DecimalKeeps'. -/
def decimalKeepsCard : Claim7 := { stood := { row := decimalKeepsRow, standIns := [], harness := (true, "3737a99669d692b97bbd776cbdc76718c4e51a3dad9147b75e1e68001d37223f"), looks := false }, kinds := [], alts := [], laidByText := true, laidKinds := [.data, .funcs], laidTests := true, laidLooks := .later }
def DecimalKeepsCardSaid : Prop := Claim7.holds Tryd.pinned (.plain (OpenSpec.ofChange decimalKeepsSpec)) decimalKeepsCard

/-- THE SECOND FORM's CARD OF 'reckonerlaw16.RoundWhole'. -/
def roundWholeUptoCard : Claim7 := { stood := { row := roundWholeUptoRow, standIns := [], harness := (true, "3737a99669d692b97bbd776cbdc76718c4e51a3dad9147b75e1e68001d37223f"), looks := false }, kinds := [], alts := [], laidByText := true, laidKinds := [.data, .funcs], laidTests := true, laidLooks := .later }
def RoundWholeUptoCardSaid : Prop := Claim7.holds Tryd.pinned (.plain (OpenSpec.upto roundWholeSpec)) roundWholeUptoCard

/-- THE SECOND FORM's CARD OF 'reckonerlaw16.RoundExact'. -/
def roundExactUptoCard : Claim7 := { stood := { row := roundExactUptoRow, standIns := [], harness := (true, "3737a99669d692b97bbd776cbdc76718c4e51a3dad9147b75e1e68001d37223f"), looks := false }, kinds := [], alts := [], laidByText := true, laidKinds := [.data, .funcs], laidTests := true, laidLooks := .later }
def RoundExactUptoCardSaid : Prop := Claim7.holds Tryd.pinned (.plain (OpenSpec.upto roundExactSpec)) roundExactUptoCard

/-- THE SECOND FORM's CARD OF 'reckonerlaw16.RoundMirror'. -/
def roundMirrorUptoCard : Claim7 := { stood := { row := roundMirrorUptoRow, standIns := [], harness := (true, "3737a99669d692b97bbd776cbdc76718c4e51a3dad9147b75e1e68001d37223f"), looks := false }, kinds := [], alts := [], laidByText := true, laidKinds := [.data, .funcs], laidTests := true, laidLooks := .later }
def RoundMirrorUptoCardSaid : Prop := Claim7.holds Tryd.pinned (.plain (OpenSpec.upto roundMirrorSpec)) roundMirrorUptoCard

/-- THE SECOND FORM's CARD OF 'reckonerlaw16.RoundKeeps'. -/
def roundKeepsUptoCard : Claim7 := { stood := { row := roundKeepsUptoRow, standIns := [], harness := (true, "3737a99669d692b97bbd776cbdc76718c4e51a3dad9147b75e1e68001d37223f"), looks := false }, kinds := [], alts := [], laidByText := true, laidKinds := [.data, .funcs], laidTests := true, laidLooks := .later }
def RoundKeepsUptoCardSaid : Prop := Claim7.holds Tryd.pinned (.plain (OpenSpec.upto roundKeepsSpec)) roundKeepsUptoCard

/-- THE SECOND FORM's CARD OF 'reckonerlaw22.DecimalMoney'. -/
def decimalMoneyUptoCard : Claim7 := { stood := { row := decimalMoneyUptoRow, standIns := [], harness := (true, "3737a99669d692b97bbd776cbdc76718c4e51a3dad9147b75e1e68001d37223f"), looks := false }, kinds := [], alts := [], laidByText := true, laidKinds := [.data, .funcs], laidTests := true, laidLooks := .later }
def DecimalMoneyUptoCardSaid : Prop := Claim7.holds Tryd.pinned (.plain (OpenSpec.upto decimalMoneySpec)) decimalMoneyUptoCard

/-- THE SECOND FORM's CARD OF 'reckonerlaw22.DecimalChecks'. -/
def decimalChecksUptoCard : Claim7 := { stood := { row := decimalChecksUptoRow, standIns := [], harness := (true, "3737a99669d692b97bbd776cbdc76718c4e51a3dad9147b75e1e68001d37223f"), looks := false }, kinds := [], alts := [], laidByText := true, laidKinds := [.data, .funcs], laidTests := true, laidLooks := .later }
def DecimalChecksUptoCardSaid : Prop := Claim7.holds Tryd.pinned (.plain (OpenSpec.upto decimalChecksSpec)) decimalChecksUptoCard

/-- THE SECOND FORM's CARD OF 'reckonerlaw22.DecimalHolds'. -/
def decimalHoldsUptoCard : Claim7 := { stood := { row := decimalHoldsUptoRow, standIns := [], harness := (true, "3737a99669d692b97bbd776cbdc76718c4e51a3dad9147b75e1e68001d37223f"), looks := false }, kinds := [], alts := [], laidByText := true, laidKinds := [.data, .funcs], laidTests := true, laidLooks := .later }
def DecimalHoldsUptoCardSaid : Prop := Claim7.holds Tryd.pinned (.plain (OpenSpec.upto decimalHoldsSpec)) decimalHoldsUptoCard

/-- THE SECOND FORM's CARD OF 'reckonerlaw22.DecimalReduces'. -/
def decimalReducesUptoCard : Claim7 := { stood := { row := decimalReducesUptoRow, standIns := [], harness := (true, "3737a99669d692b97bbd776cbdc76718c4e51a3dad9147b75e1e68001d37223f"), looks := false }, kinds := [], alts := [], laidByText := true, laidKinds := [.data, .funcs], laidTests := true, laidLooks := .later }
def DecimalReducesUptoCardSaid : Prop := Claim7.holds Tryd.pinned (.plain (OpenSpec.upto decimalReducesSpec)) decimalReducesUptoCard

/-- THE SECOND FORM's CARD OF 'reckonerlaw22.DecimalOrder'. -/
def decimalOrderUptoCard : Claim7 := { stood := { row := decimalOrderUptoRow, standIns := [], harness := (true, "3737a99669d692b97bbd776cbdc76718c4e51a3dad9147b75e1e68001d37223f"), looks := false }, kinds := [], alts := [], laidByText := true, laidKinds := [.data, .funcs], laidTests := true, laidLooks := .later }
def DecimalOrderUptoCardSaid : Prop := Claim7.holds Tryd.pinned (.plain (OpenSpec.upto decimalOrderSpec)) decimalOrderUptoCard

/-- THE SECOND FORM's CARD OF 'reckonerlaw22.DecimalCompares'. -/
def decimalComparesUptoCard : Claim7 := { stood := { row := decimalComparesUptoRow, standIns := [], harness := (true, "3737a99669d692b97bbd776cbdc76718c4e51a3dad9147b75e1e68001d37223f"), looks := false }, kinds := [], alts := [], laidByText := true, laidKinds := [.data, .funcs], laidTests := true, laidLooks := .later }
def DecimalComparesUptoCardSaid : Prop := Claim7.holds Tryd.pinned (.plain (OpenSpec.upto decimalComparesSpec)) decimalComparesUptoCard

/-- THE SECOND FORM's CARD OF 'reckonerlaw22.DecimalKeeps'. -/
def decimalKeepsUptoCard : Claim7 := { stood := { row := decimalKeepsUptoRow, standIns := [], harness := (true, "3737a99669d692b97bbd776cbdc76718c4e51a3dad9147b75e1e68001d37223f"), looks := false }, kinds := [], alts := [], laidByText := true, laidKinds := [.data, .funcs], laidTests := true, laidLooks := .later }
def DecimalKeepsUptoCardSaid : Prop := Claim7.holds Tryd.pinned (.plain (OpenSpec.upto decimalKeepsSpec)) decimalKeepsUptoCard
end Rows
end Go.Proofs.YtpnljnmpocobjaaDoor
