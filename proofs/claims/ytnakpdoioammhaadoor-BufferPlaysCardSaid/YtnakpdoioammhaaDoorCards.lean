/-
  DERIVED. GIVEN WITH THE SEED: THE CARDS: each row of YtnakpdoioammhaaDoorRows.lean that lists a variable, with what it lists TIED to the program's text (the seventh form; the later family's looks); each row that meets fmt, with fmt's text TOLD by the authors' own Lean function (tested against real Go, not proved from fmt's source: count such statements apart). THE CARD IS WHAT COUNTS. Prove the row's statement (the work); the ties are given (YtnakpdoioammhaaDoorTie.lean); close each card by the builder's one call (the guide's Derived/Test/ToyasCard.lean, 'card_holds'). Laid BY PROGRAM, IN A SANDBOX (cutbox-door.mjs). By AI agents, Wed Nov 11 2026. No macro, syntax, notation, axiom, sorry.
-/
import Derived.Test.YtnakpdoioammhaaDoorRows
import GoSem.ClaimSeven
namespace Go.Proofs.YtnakpdoioammhaaDoor
namespace Rows

/-- THE TIED CARD OF 'tranterlaw11.BufferParts'. -/
def bufferPartsCard : Claim7 := { stood := { row := bufferPartsRow, standIns := [], harness := (true, "2e45b9753dd706227c99543bcbc2160bebacf31981e9ad13d5f577419bc1d53c"), looks := true }, kinds := [], alts := [], laidByText := true, laidKinds := [.data], laidTests := true, laidLooks := .later }
def BufferPartsCardSaid : Prop := Claim7.holds Tryd.pinned (.plain (OpenSpec.ofChange bufferPartsSpec)) bufferPartsCard

/-- THE TIED CARD OF 'tranterlaw11.BufferOrders'. -/
def bufferOrdersCard : Claim7 := { stood := { row := bufferOrdersRow, standIns := [], harness := (true, "2e45b9753dd706227c99543bcbc2160bebacf31981e9ad13d5f577419bc1d53c"), looks := true }, kinds := [], alts := [], laidByText := true, laidKinds := [.data], laidTests := true, laidLooks := .later }
def BufferOrdersCardSaid : Prop := Claim7.holds Tryd.pinned (.plain (OpenSpec.ofChange bufferOrdersSpec)) bufferOrdersCard

/-- THE TIED CARD OF 'tranterlaw11.BufferPlays'. -/
def bufferPlaysCard : Claim7 := { stood := { row := bufferPlaysRow, standIns := [], harness := (true, "2e45b9753dd706227c99543bcbc2160bebacf31981e9ad13d5f577419bc1d53c"), looks := true }, kinds := [], alts := [], laidByText := true, laidKinds := [.data], laidTests := true, laidLooks := .later }
def BufferPlaysCardSaid : Prop := Claim7.holds Tryd.pinned (.plain (OpenSpec.ofChange bufferPlaysSpec)) bufferPlaysCard

/-- THE TIED CARD OF 'tranterlaw11.BufferNone'. -/
def bufferNoneCard : Claim7 := { stood := { row := bufferNoneRow, standIns := [], harness := (true, "2e45b9753dd706227c99543bcbc2160bebacf31981e9ad13d5f577419bc1d53c"), looks := true }, kinds := [], alts := [], laidByText := true, laidKinds := [.data], laidTests := true, laidLooks := .later }
def BufferNoneCardSaid : Prop := Claim7.holds Tryd.pinned (.plain (OpenSpec.ofChange bufferNoneSpec)) bufferNoneCard

/-- THE TIED CARD OF 'tranterlaw11.BufferWhole'. -/
def bufferWholeCard : Claim7 := { stood := { row := bufferWholeRow, standIns := [], harness := (true, "2e45b9753dd706227c99543bcbc2160bebacf31981e9ad13d5f577419bc1d53c"), looks := true }, kinds := [], alts := [], laidByText := true, laidKinds := [.data], laidTests := true, laidLooks := .later }
def BufferWholeCardSaid : Prop := Claim7.holds Tryd.pinned (.plain (OpenSpec.ofChange bufferWholeSpec)) bufferWholeCard

/-- THE SECOND FORM's CARD OF 'tranterlaw11.BufferParts'. -/
def bufferPartsUptoCard : Claim7 := { stood := { row := bufferPartsUptoRow, standIns := [], harness := (true, "2e45b9753dd706227c99543bcbc2160bebacf31981e9ad13d5f577419bc1d53c"), looks := true }, kinds := [], alts := [], laidByText := true, laidKinds := [.data], laidTests := true, laidLooks := .later }
def BufferPartsUptoCardSaid : Prop := Claim7.holds Tryd.pinned (.plain (OpenSpec.upto bufferPartsSpec)) bufferPartsUptoCard

/-- THE SECOND FORM's CARD OF 'tranterlaw11.BufferOrders'. -/
def bufferOrdersUptoCard : Claim7 := { stood := { row := bufferOrdersUptoRow, standIns := [], harness := (true, "2e45b9753dd706227c99543bcbc2160bebacf31981e9ad13d5f577419bc1d53c"), looks := true }, kinds := [], alts := [], laidByText := true, laidKinds := [.data], laidTests := true, laidLooks := .later }
def BufferOrdersUptoCardSaid : Prop := Claim7.holds Tryd.pinned (.plain (OpenSpec.upto bufferOrdersSpec)) bufferOrdersUptoCard

/-- THE SECOND FORM's CARD OF 'tranterlaw11.BufferPlays'. -/
def bufferPlaysUptoCard : Claim7 := { stood := { row := bufferPlaysUptoRow, standIns := [], harness := (true, "2e45b9753dd706227c99543bcbc2160bebacf31981e9ad13d5f577419bc1d53c"), looks := true }, kinds := [], alts := [], laidByText := true, laidKinds := [.data], laidTests := true, laidLooks := .later }
def BufferPlaysUptoCardSaid : Prop := Claim7.holds Tryd.pinned (.plain (OpenSpec.upto bufferPlaysSpec)) bufferPlaysUptoCard

/-- THE SECOND FORM's CARD OF 'tranterlaw11.BufferNone'. -/
def bufferNoneUptoCard : Claim7 := { stood := { row := bufferNoneUptoRow, standIns := [], harness := (true, "2e45b9753dd706227c99543bcbc2160bebacf31981e9ad13d5f577419bc1d53c"), looks := true }, kinds := [], alts := [], laidByText := true, laidKinds := [.data], laidTests := true, laidLooks := .later }
def BufferNoneUptoCardSaid : Prop := Claim7.holds Tryd.pinned (.plain (OpenSpec.upto bufferNoneSpec)) bufferNoneUptoCard

/-- THE SECOND FORM's CARD OF 'tranterlaw11.BufferWhole'. -/
def bufferWholeUptoCard : Claim7 := { stood := { row := bufferWholeUptoRow, standIns := [], harness := (true, "2e45b9753dd706227c99543bcbc2160bebacf31981e9ad13d5f577419bc1d53c"), looks := true }, kinds := [], alts := [], laidByText := true, laidKinds := [.data], laidTests := true, laidLooks := .later }
def BufferWholeUptoCardSaid : Prop := Claim7.holds Tryd.pinned (.plain (OpenSpec.upto bufferWholeSpec)) bufferWholeUptoCard
end Rows
end Go.Proofs.YtnakpdoioammhaaDoor
