/-
  DERIVED. GIVEN WITH THE SEED: THE CARDS: each row of YtjlickinmkafbaaDoorRows.lean that lists a variable, with what it lists TIED to the program's text (the seventh form; the later family's looks); each row that meets fmt, with fmt's text TOLD by the authors' own Lean function (tested against real Go, not proved from fmt's source: count such statements apart). THE CARD IS WHAT COUNTS. Prove the row's statement (the work); the ties are given (YtjlickinmkafbaaDoorTie.lean); close each card by the builder's one call (the guide's Derived/Test/ToyasCard.lean, 'card_holds'). Laid BY PROGRAM, IN A SANDBOX (cutbox-door.mjs). By AI agents, Wed Nov 11 2026. No macro, syntax, notation, axiom, sorry.
-/
import Derived.Test.YtjlickinmkafbaaDoorRows
import GoSem.ClaimSeven
namespace Go.Proofs.YtjlickinmkafbaaDoor
namespace Rows

/-- THE TIED CARD OF 'laws.FnExactTripText'. -/
def fnExactTripTextCard : Claim7 := { stood := { row := fnExactTripTextRow, standIns := [], harness := (true, "65844431c362655923680bb715a818c38d777c143d5dc5e924e1f288a3b41b4e"), looks := false }, kinds := [], alts := [], laidByText := true, laidKinds := [.data, .data, .data], laidTests := true, laidLooks := .later }
def FnExactTripTextCardSaid : Prop := Claim7.holds Tryd.pinned (.plain (OpenSpec.ofChange fnExactTripTextSpec)) fnExactTripTextCard

/-- THE TIED CARD OF 'laws.FnExactClockface'. -/
def fnExactClockfaceCard : Claim7 := { stood := { row := fnExactClockfaceRow, standIns := [], harness := (true, "65844431c362655923680bb715a818c38d777c143d5dc5e924e1f288a3b41b4e"), looks := false }, kinds := [], alts := [], laidByText := true, laidKinds := [.data, .data, .data], laidTests := true, laidLooks := .later }
def FnExactClockfaceCardSaid : Prop := Claim7.holds Tryd.pinned (.plain (OpenSpec.ofChange fnExactClockfaceSpec)) fnExactClockfaceCard

/-- THE TIED CARD OF 'laws.FnExactReadTrip'. -/
def fnExactReadTripCard : Claim7 := { stood := { row := fnExactReadTripRow, standIns := [], harness := (true, "65844431c362655923680bb715a818c38d777c143d5dc5e924e1f288a3b41b4e"), looks := false }, kinds := [], alts := [], laidByText := true, laidKinds := [.data, .data, .data, .data, .pinned], laidTests := true, laidLooks := .later }
def FnExactReadTripCardSaid : Prop := Claim7.holds Tryd.pinned (.plain (OpenSpec.ofChange fnExactReadTripSpec)) fnExactReadTripCard

/-- THE TIED CARD OF 'laws.FnTripText'. -/
def fnTripTextCard : Claim7 := { stood := { row := fnTripTextRow, standIns := [], harness := (true, "65844431c362655923680bb715a818c38d777c143d5dc5e924e1f288a3b41b4e"), looks := false }, kinds := [], alts := [], laidByText := true, laidKinds := [.data, .data, .data, .data, .pinned], laidTests := true, laidLooks := .later }
def FnTripTextCardSaid : Prop := Claim7.holds Tryd.pinned (.plain (OpenSpec.ofChange fnTripTextSpec)) fnTripTextCard

/-- THE TIED CARD OF 'laws.FnClockface'. -/
def fnClockfaceCard : Claim7 := { stood := { row := fnClockfaceRow, standIns := [], harness := (true, "65844431c362655923680bb715a818c38d777c143d5dc5e924e1f288a3b41b4e"), looks := false }, kinds := [], alts := [], laidByText := true, laidKinds := [.data, .data, .data, .data, .pinned], laidTests := true, laidLooks := .later }
def FnClockfaceCardSaid : Prop := Claim7.holds Tryd.pinned (.plain (OpenSpec.ofChange fnClockfaceSpec)) fnClockfaceCard

/-- THE SECOND FORM's CARD OF 'laws.FnExactTripText'. -/
def fnExactTripTextUptoCard : Claim7 := { stood := { row := fnExactTripTextUptoRow, standIns := [], harness := (true, "65844431c362655923680bb715a818c38d777c143d5dc5e924e1f288a3b41b4e"), looks := false }, kinds := [], alts := [], laidByText := true, laidKinds := [.data, .data, .data], laidTests := true, laidLooks := .later }
def FnExactTripTextUptoCardSaid : Prop := Claim7.holds Tryd.pinned (.plain (OpenSpec.upto fnExactTripTextSpec)) fnExactTripTextUptoCard

/-- THE SECOND FORM's CARD OF 'laws.FnExactClockface'. -/
def fnExactClockfaceUptoCard : Claim7 := { stood := { row := fnExactClockfaceUptoRow, standIns := [], harness := (true, "65844431c362655923680bb715a818c38d777c143d5dc5e924e1f288a3b41b4e"), looks := false }, kinds := [], alts := [], laidByText := true, laidKinds := [.data, .data, .data], laidTests := true, laidLooks := .later }
def FnExactClockfaceUptoCardSaid : Prop := Claim7.holds Tryd.pinned (.plain (OpenSpec.upto fnExactClockfaceSpec)) fnExactClockfaceUptoCard

/-- THE SECOND FORM's CARD OF 'laws.FnExactReadTrip'. -/
def fnExactReadTripUptoCard : Claim7 := { stood := { row := fnExactReadTripUptoRow, standIns := [], harness := (true, "65844431c362655923680bb715a818c38d777c143d5dc5e924e1f288a3b41b4e"), looks := false }, kinds := [], alts := [], laidByText := true, laidKinds := [.data, .data, .data, .data, .pinned], laidTests := true, laidLooks := .later }
def FnExactReadTripUptoCardSaid : Prop := Claim7.holds Tryd.pinned (.plain (OpenSpec.upto fnExactReadTripSpec)) fnExactReadTripUptoCard

/-- THE SECOND FORM's CARD OF 'laws.FnTripText'. -/
def fnTripTextUptoCard : Claim7 := { stood := { row := fnTripTextUptoRow, standIns := [], harness := (true, "65844431c362655923680bb715a818c38d777c143d5dc5e924e1f288a3b41b4e"), looks := false }, kinds := [], alts := [], laidByText := true, laidKinds := [.data, .data, .data, .data, .pinned], laidTests := true, laidLooks := .later }
def FnTripTextUptoCardSaid : Prop := Claim7.holds Tryd.pinned (.plain (OpenSpec.upto fnTripTextSpec)) fnTripTextUptoCard

/-- THE SECOND FORM's CARD OF 'laws.FnClockface'. -/
def fnClockfaceUptoCard : Claim7 := { stood := { row := fnClockfaceUptoRow, standIns := [], harness := (true, "65844431c362655923680bb715a818c38d777c143d5dc5e924e1f288a3b41b4e"), looks := false }, kinds := [], alts := [], laidByText := true, laidKinds := [.data, .data, .data, .data, .pinned], laidTests := true, laidLooks := .later }
def FnClockfaceUptoCardSaid : Prop := Claim7.holds Tryd.pinned (.plain (OpenSpec.upto fnClockfaceSpec)) fnClockfaceUptoCard
end Rows
end Go.Proofs.YtjlickinmkafbaaDoor
