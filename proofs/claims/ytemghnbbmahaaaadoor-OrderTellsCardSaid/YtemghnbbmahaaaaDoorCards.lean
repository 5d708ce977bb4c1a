/-
  DERIVED. GIVEN WITH THE SEED: THE CARDS: each row of YtemghnbbmahaaaaDoorRows.lean that lists a variable, with what it lists TIED to the program's text (the seventh form; the later family's looks); each row that meets fmt, with fmt's text TOLD by the authors' own Lean function (tested against real Go, not proved from fmt's source: count such statements apart). THE CARD IS WHAT COUNTS. Prove the row's statement (the work); the ties are given (YtemghnbbmahaaaaDoorTie.lean); close each card by the builder's one call (the guide's Derived/Test/ToyasCard.lean, 'card_holds'). Laid BY PROGRAM, IN A SANDBOX (cutbox-door.mjs). By AI agents, Wed Nov 11 2026. No macro, syntax, notation, axiom, sorry.
-/
import Derived.Test.YtemghnbbmahaaaaDoorRows
import GoSem.ClaimSeven
namespace Go.Proofs.YtemghnbbmahaaaaDoor
namespace Rows

/-- THE TIED CARD OF 'tranterlaw10.OrderBefore'. -/
def orderBeforeCard : Claim7 := { stood := { row := orderBeforeRow, standIns := [], harness := (true, "78ac42be484712746c1715fbde1e852eb21d79e5985a70fcffdcd65ecc1b421a"), looks := false }, kinds := [], alts := [], laidByText := true, laidKinds := [.data], laidTests := true, laidLooks := .later }
def OrderBeforeCardSaid : Prop := Claim7.holds Tryd.pinned (.plain (OpenSpec.ofChange orderBeforeSpec)) orderBeforeCard

/-- THE TIED CARD OF 'tranterlaw10.OrderBegins'. -/
def orderBeginsCard : Claim7 := { stood := { row := orderBeginsRow, standIns := [], harness := (true, "78ac42be484712746c1715fbde1e852eb21d79e5985a70fcffdcd65ecc1b421a"), looks := false }, kinds := [], alts := [], laidByText := true, laidKinds := [.data], laidTests := true, laidLooks := .later }
def OrderBeginsCardSaid : Prop := Claim7.holds Tryd.pinned (.plain (OpenSpec.ofChange orderBeginsSpec)) orderBeginsCard

/-- THE TIED CARD OF 'tranterlaw10.OrderTells'. -/
def orderTellsCard : Claim7 := { stood := { row := orderTellsRow, standIns := [], harness := (true, "78ac42be484712746c1715fbde1e852eb21d79e5985a70fcffdcd65ecc1b421a"), looks := false }, kinds := [], alts := [], laidByText := true, laidKinds := [.data], laidTests := true, laidLooks := .later }
def OrderTellsCardSaid : Prop := Claim7.holds Tryd.pinned (.plain (OpenSpec.ofChange orderTellsSpec)) orderTellsCard

/-- THE TIED CARD OF 'tranterlaw10.OrderParts'. -/
def orderPartsCard : Claim7 := { stood := { row := orderPartsRow, standIns := [], harness := (true, "78ac42be484712746c1715fbde1e852eb21d79e5985a70fcffdcd65ecc1b421a"), looks := false }, kinds := [], alts := [], laidByText := true, laidKinds := [.data], laidTests := true, laidLooks := .later }
def OrderPartsCardSaid : Prop := Claim7.holds Tryd.pinned (.plain (OpenSpec.ofChange orderPartsSpec)) orderPartsCard

/-- THE TIED CARD OF 'tranterlaw10.OrderCuts'. -/
def orderCutsCard : Claim7 := { stood := { row := orderCutsRow, standIns := [], harness := (true, "78ac42be484712746c1715fbde1e852eb21d79e5985a70fcffdcd65ecc1b421a"), looks := false }, kinds := [], alts := [], laidByText := true, laidKinds := [.data], laidTests := true, laidLooks := .later }
def OrderCutsCardSaid : Prop := Claim7.holds Tryd.pinned (.plain (OpenSpec.ofChange orderCutsSpec)) orderCutsCard

/-- THE SECOND FORM's CARD OF 'tranterlaw10.OrderBefore'. -/
def orderBeforeUptoCard : Claim7 := { stood := { row := orderBeforeUptoRow, standIns := [], harness := (true, "78ac42be484712746c1715fbde1e852eb21d79e5985a70fcffdcd65ecc1b421a"), looks := false }, kinds := [], alts := [], laidByText := true, laidKinds := [.data], laidTests := true, laidLooks := .later }
def OrderBeforeUptoCardSaid : Prop := Claim7.holds Tryd.pinned (.plain (OpenSpec.upto orderBeforeSpec)) orderBeforeUptoCard

/-- THE SECOND FORM's CARD OF 'tranterlaw10.OrderBegins'. -/
def orderBeginsUptoCard : Claim7 := { stood := { row := orderBeginsUptoRow, standIns := [], harness := (true, "78ac42be484712746c1715fbde1e852eb21d79e5985a70fcffdcd65ecc1b421a"), looks := false }, kinds := [], alts := [], laidByText := true, laidKinds := [.data], laidTests := true, laidLooks := .later }
def OrderBeginsUptoCardSaid : Prop := Claim7.holds Tryd.pinned (.plain (OpenSpec.upto orderBeginsSpec)) orderBeginsUptoCard

/-- THE SECOND FORM's CARD OF 'tranterlaw10.OrderTells'. -/
def orderTellsUptoCard : Claim7 := { stood := { row := orderTellsUptoRow, standIns := [], harness := (true, "78ac42be484712746c1715fbde1e852eb21d79e5985a70fcffdcd65ecc1b421a"), looks := false }, kinds := [], alts := [], laidByText := true, laidKinds := [.data], laidTests := true, laidLooks := .later }
def OrderTellsUptoCardSaid : Prop := Claim7.holds Tryd.pinned (.plain (OpenSpec.upto orderTellsSpec)) orderTellsUptoCard

/-- THE SECOND FORM's CARD OF 'tranterlaw10.OrderParts'. -/
def orderPartsUptoCard : Claim7 := { stood := { row := orderPartsUptoRow, standIns := [], harness := (true, "78ac42be484712746c1715fbde1e852eb21d79e5985a70fcffdcd65ecc1b421a"), looks := false }, kinds := [], alts := [], laidByText := true, laidKinds := [.data], laidTests := true, laidLooks := .later }
def OrderPartsUptoCardSaid : Prop := Claim7.holds Tryd.pinned (.plain (OpenSpec.upto orderPartsSpec)) orderPartsUptoCard

/-- THE SECOND FORM's CARD OF 'tranterlaw10.OrderCuts'. -/
def orderCutsUptoCard : Claim7 := { stood := { row := orderCutsUptoRow, standIns := [], harness := (true, "78ac42be484712746c1715fbde1e852eb21d79e5985a70fcffdcd65ecc1b421a"), looks := false }, kinds := [], alts := [], laidByText := true, laidKinds := [.data], laidTests := true, laidLooks := .later }
def OrderCutsUptoCardSaid : Prop := Claim7.holds Tryd.pinned (.plain (OpenSpec.upto orderCutsSpec)) orderCutsUptoCard
end Rows
end Go.Proofs.YtemghnbbmahaaaaDoor
