/-
  DERIVED. GIVEN WITH THE SEED: THE CARDS: each row of YtnakpdoioammhaaGreatDoorRows.lean that lists a variable, with what it lists TIED to the program's text (the seventh form; the later family's looks); each row that meets fmt, with fmt's text TOLD by the authors' own Lean function (tested against real Go, not proved from fmt's source: count such statements apart). THE CARD IS WHAT COUNTS. Prove the row's statement (the work); the ties are given (YtnakpdoioammhaaGreatDoorTie.lean); close each card by the builder's one call (the guide's Derived/Test/ToyasCard.lean, 'card_holds'). Laid BY PROGRAM, IN A SANDBOX (cutbox-door.mjs). By AI agents, Wed Nov 11 2026. No macro, syntax, notation, axiom, sorry.
-/
import Derived.Test.YtnakpdoioammhaaGreatDoorRows
import GoSem.ClaimSeven
namespace Go.Proofs.YtnakpdoioammhaaGreatDoor
namespace Rows

/-- THE TIED CARD OF 'tranterlaw14.GossipEnds'. -/
def gossipEndsCard : Claim7 := { stood := { row := gossipEndsRow, standIns := [], harness := (true, "7cdf40f51b9722215d622b6005ea3275b1de49aa6575a62ff562fb2529c45b40"), looks := false }, kinds := [], alts := [], laidByText := true, laidKinds := [.data], laidTests := true, laidLooks := .later }
def GossipEndsCardSaid : Prop := Claim7.holds Tryz.pinned (.plain (OpenSpec.ofChange gossipEndsSpec)) gossipEndsCard

/-- THE SECOND FORM's CARD OF 'tranterlaw14.GossipEnds'. -/
def gossipEndsUptoCard : Claim7 := { stood := { row := gossipEndsUptoRow, standIns := [], harness := (true, "7cdf40f51b9722215d622b6005ea3275b1de49aa6575a62ff562fb2529c45b40"), looks := false }, kinds := [], alts := [], laidByText := true, laidKinds := [.data], laidTests := true, laidLooks := .later }
def GossipEndsUptoCardSaid : Prop := Claim7.holds Tryz.pinned (.plain (OpenSpec.upto gossipEndsSpec)) gossipEndsUptoCard
end Rows
end Go.Proofs.YtnakpdoioammhaaGreatDoor
