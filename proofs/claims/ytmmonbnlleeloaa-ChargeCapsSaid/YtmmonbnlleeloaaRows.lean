/-
  No cell of these rows narrows 'for every input' (looked for: loops, veiled, ifaces, maps, wideKeys, modest, calm, conditions, laid).
  DERIVED. THE GIVEN ROWS OF THIS SEAT. 17 by the template 'for every input the law returns true; each argument reads behind the call as it read before'; 0 by the template 'total and deterministic' (their statements: YtmmonbnlleeloaaTotals.lean).
  GIVEN WITH THE SEED: the statements are not yours to turn. If you find one false, say at which input.
  Laid BY PROGRAM, IN A SANDBOX (cutbox-rows.mjs): the forced cells as the released guide's own fill.sh prints them over the translation 76b26614f1e9b979… (all of the seat's roots in one cut). By AI agents, Wed Nov 11 2026. No macro, syntax, notation, axiom, sorry.
-/
import Derived.Test.YtmmonbnlleeloaaChecked
import GoSem.Claim
import GoSem.ClaimJoined
import GoSem.ClaimMapViews
import Derived.JoinedTies
import Derived.KernelRfl
namespace Go.Proofs.Ytmmonbnlleeloaa
/- THE CELL 'sum', in the pinned program and in every row, IS THE sha256 OF THE DUMP (.gsa) THAT YtmmonbnlleeloaaProg.lean LOADS. Nothing in Lean hashes anything: it is a label: what it is worth is what the hold of that sum in a sandbox is worth. -/
noncomputable def Try.pinned : Pinned := { name := "ytmmonbnlleeloaa", sum := "76b26614f1e9b979989d9b0fa69fc0dd50b74f528421e751ab8f3e0ba4a933d7", checked := Try.checked }
namespace Rows
def none {H : Type} : Left H := { results := [], args := [] }

/-- 'tranterlaw16.TreeNarrows': WHATEVER THE INPUT: true; the input reads as it did. -/
def treeNarrowsSpec : ChangeSpec := { name := "treeNarrows", fn := fun _ => fun
  | [d] => { results := [.lit (.bool true)], args := [d] }
  | _ => none }
def treeNarrowsRow : OpenClaim := { program := "ytmmonbnlleeloaa", sum := "76b26614f1e9b979989d9b0fa69fc0dd50b74f528421e751ab8f3e0ba4a933d7", func := "tranter/tranterlaw16.TreeNarrows", spec := "treeNarrows", unfollowed := true, recurses := true, plainKeys := false, apart := false }
def TreeNarrowsSaid : Prop := treeNarrowsRow.holds Try.pinned (OpenSpec.ofChange treeNarrowsSpec)

/-- ITS FALSE NEIGHBOUR: 'it returns false'. Refute it at one input. -/
def treeNarrowsWrong : ChangeSpec := { name := "treeNarrows", fn := fun _ => fun
  | [d] => { results := [.lit (.bool false)], args := [d] }
  | _ => none }
def TreeNarrowsWrongFalsely : Prop := treeNarrowsRow.holds Try.pinned (OpenSpec.ofChange treeNarrowsWrong)

/-- 'tranterlaw16.TreeBegins': WHATEVER THE INPUT: true; the input reads as it did. -/
def treeBeginsSpec : ChangeSpec := { name := "treeBegins", fn := fun _ => fun
  | [d1, d2, d3] => { results := [.lit (.bool true)], args := [d1, d2, d3] }
  | _ => none }
def treeBeginsRow : OpenClaim := { program := "ytmmonbnlleeloaa", sum := "76b26614f1e9b979989d9b0fa69fc0dd50b74f528421e751ab8f3e0ba4a933d7", func := "tranter/tranterlaw16.TreeBegins", spec := "treeBegins", unfollowed := true, recurses := true, plainKeys := false, apart := false }
def TreeBeginsSaid : Prop := treeBeginsRow.holds Try.pinned (OpenSpec.ofChange treeBeginsSpec)

/-- ITS FALSE NEIGHBOUR: 'it returns false'. Refute it at one input. -/
def treeBeginsWrong : ChangeSpec := { name := "treeBegins", fn := fun _ => fun
  | [d1, d2, d3] => { results := [.lit (.bool false)], args := [d1, d2, d3] }
  | _ => none }
def TreeBeginsWrongFalsely : Prop := treeBeginsRow.holds Try.pinned (OpenSpec.ofChange treeBeginsWrong)

/-- 'tranterlaw17.ShapeStays': WHATEVER THE INPUT: true; the input reads as it did. -/
def shapeStaysSpec : ChangeSpec := { name := "shapeStays", fn := fun _ => fun
  | [d1, d2, d3] => { results := [.lit (.bool true)], args := [d1, d2, d3] }
  | _ => none }
def shapeStaysRow : OpenClaim := { program := "ytmmonbnlleeloaa", sum := "76b26614f1e9b979989d9b0fa69fc0dd50b74f528421e751ab8f3e0ba4a933d7", func := "tranter/tranterlaw17.ShapeStays", spec := "shapeStays", unfollowed := true, recurses := true, plainKeys := false, apart := false }
def ShapeStaysSaid : Prop := shapeStaysRow.holds Try.pinned (OpenSpec.ofChange shapeStaysSpec)

/-- ITS FALSE NEIGHBOUR: 'it returns false'. Refute it at one input. -/
def shapeStaysWrong : ChangeSpec := { name := "shapeStays", fn := fun _ => fun
  | [d1, d2, d3] => { results := [.lit (.bool false)], args := [d1, d2, d3] }
  | _ => none }
def ShapeStaysWrongFalsely : Prop := shapeStaysRow.holds Try.pinned (OpenSpec.ofChange shapeStaysWrong)

/-- 'tranterlaw17.ShapeCarts': WHATEVER THE INPUT: true; the input reads as it did. -/
def shapeCartsSpec : ChangeSpec := { name := "shapeCarts", fn := fun _ => fun
  | [d1, d2] => { results := [.lit (.bool true)], args := [d1, d2] }
  | _ => none }
def shapeCartsRow : OpenClaim := { program := "ytmmonbnlleeloaa", sum := "76b26614f1e9b979989d9b0fa69fc0dd50b74f528421e751ab8f3e0ba4a933d7", func := "tranter/tranterlaw17.ShapeCarts", spec := "shapeCarts", unfollowed := true, recurses := true, plainKeys := false, apart := false }
def ShapeCartsSaid : Prop := shapeCartsRow.holds Try.pinned (OpenSpec.ofChange shapeCartsSpec)

/-- ITS FALSE NEIGHBOUR: 'it returns false'. Refute it at one input. -/
def shapeCartsWrong : ChangeSpec := { name := "shapeCarts", fn := fun _ => fun
  | [d1, d2] => { results := [.lit (.bool false)], args := [d1, d2] }
  | _ => none }
def ShapeCartsWrongFalsely : Prop := shapeCartsRow.holds Try.pinned (OpenSpec.ofChange shapeCartsWrong)

/-- 'tranterlaw16.TreeTells': WHATEVER THE INPUT: true; the input reads as it did. -/
def treeTellsSpec : ChangeSpec := { name := "treeTells", fn := fun _ => fun
  | [d1, d2] => { results := [.lit (.bool true)], args := [d1, d2] }
  | _ => none }
def treeTellsRow : OpenClaim := { program := "ytmmonbnlleeloaa", sum := "76b26614f1e9b979989d9b0fa69fc0dd50b74f528421e751ab8f3e0ba4a933d7", func := "tranter/tranterlaw16.TreeTells", spec := "treeTells", unfollowed := true, recurses := true, plainKeys := false, apart := false }
def TreeTellsSaid : Prop := treeTellsRow.holds Try.pinned (OpenSpec.ofChange treeTellsSpec)

/-- ITS FALSE NEIGHBOUR: 'it returns false'. Refute it at one input. -/
def treeTellsWrong : ChangeSpec := { name := "treeTells", fn := fun _ => fun
  | [d1, d2] => { results := [.lit (.bool false)], args := [d1, d2] }
  | _ => none }
def TreeTellsWrongFalsely : Prop := treeTellsRow.holds Try.pinned (OpenSpec.ofChange treeTellsWrong)

/-- 'tranterlaw16.TreeNone': WHATEVER THE INPUT: true; the input reads as it did. -/
def treeNoneSpec : ChangeSpec := { name := "treeNone", fn := fun _ => fun
  | [d] => { results := [.lit (.bool true)], args := [d] }
  | _ => none }
def treeNoneRow : OpenClaim := { program := "ytmmonbnlleeloaa", sum := "76b26614f1e9b979989d9b0fa69fc0dd50b74f528421e751ab8f3e0ba4a933d7", func := "tranter/tranterlaw16.TreeNone", spec := "treeNone", unfollowed := true, recurses := true, plainKeys := false, apart := false }
def TreeNoneSaid : Prop := treeNoneRow.holds Try.pinned (OpenSpec.ofChange treeNoneSpec)

/-- ITS FALSE NEIGHBOUR: 'it returns false'. Refute it at one input. -/
def treeNoneWrong : ChangeSpec := { name := "treeNone", fn := fun _ => fun
  | [d] => { results := [.lit (.bool false)], args := [d] }
  | _ => none }
def TreeNoneWrongFalsely : Prop := treeNoneRow.holds Try.pinned (OpenSpec.ofChange treeNoneWrong)

/-- 'tranterlaw16.TreeHeld': WHATEVER THE INPUT: true; the input reads as it did. -/
def treeHeldSpec : ChangeSpec := { name := "treeHeld", fn := fun _ => fun
  | [d] => { results := [.lit (.bool true)], args := [d] }
  | _ => none }
def treeHeldRow : OpenClaim := { program := "ytmmonbnlleeloaa", sum := "76b26614f1e9b979989d9b0fa69fc0dd50b74f528421e751ab8f3e0ba4a933d7", func := "tranter/tranterlaw16.TreeHeld", spec := "treeHeld", unfollowed := true, recurses := true, plainKeys := false, apart := false }
def TreeHeldSaid : Prop := treeHeldRow.holds Try.pinned (OpenSpec.ofChange treeHeldSpec)

/-- ITS FALSE NEIGHBOUR: 'it returns false'. Refute it at one input. -/
def treeHeldWrong : ChangeSpec := { name := "treeHeld", fn := fun _ => fun
  | [d] => { results := [.lit (.bool false)], args := [d] }
  | _ => none }
def TreeHeldWrongFalsely : Prop := treeHeldRow.holds Try.pinned (OpenSpec.ofChange treeHeldWrong)

/-- 'tranterlaw22.ChargeTurned': WHATEVER THE INPUT: true; the input reads as it did. -/
def chargeTurnedSpec : ChangeSpec := { name := "chargeTurned", fn := fun _ => fun
  | [d1, d2, d3] => { results := [.lit (.bool true)], args := [d1, d2, d3] }
  | _ => none }
def chargeTurnedRow : OpenClaim := { program := "ytmmonbnlleeloaa", sum := "76b26614f1e9b979989d9b0fa69fc0dd50b74f528421e751ab8f3e0ba4a933d7", func := "tranter/tranterlaw22.ChargeTurned", spec := "chargeTurned", unfollowed := true, recurses := true, plainKeys := false, apart := false }
def ChargeTurnedSaid : Prop := chargeTurnedRow.holds Try.pinned (OpenSpec.ofChange chargeTurnedSpec)

/-- ITS FALSE NEIGHBOUR: 'it returns false'. Refute it at one input. -/
def chargeTurnedWrong : ChangeSpec := { name := "chargeTurned", fn := fun _ => fun
  | [d1, d2, d3] => { results := [.lit (.bool false)], args := [d1, d2, d3] }
  | _ => none }
def ChargeTurnedWrongFalsely : Prop := chargeTurnedRow.holds Try.pinned (OpenSpec.ofChange chargeTurnedWrong)

/-- 'tranterlaw22.ChargeParts': WHATEVER THE INPUT: true; the input reads as it did. -/
def chargePartsSpec : ChangeSpec := { name := "chargeParts", fn := fun _ => fun
  | [d1, d2, d3] => { results := [.lit (.bool true)], args := [d1, d2, d3] }
  | _ => none }
def chargePartsRow : OpenClaim := { program := "ytmmonbnlleeloaa", sum := "76b26614f1e9b979989d9b0fa69fc0dd50b74f528421e751ab8f3e0ba4a933d7", func := "tranter/tranterlaw22.ChargeParts", spec := "chargeParts", unfollowed := true, recurses := true, plainKeys := false, apart := false }
def ChargePartsSaid : Prop := chargePartsRow.holds Try.pinned (OpenSpec.ofChange chargePartsSpec)

/-- ITS FALSE NEIGHBOUR: 'it returns false'. Refute it at one input. -/
def chargePartsWrong : ChangeSpec := { name := "chargeParts", fn := fun _ => fun
  | [d1, d2, d3] => { results := [.lit (.bool false)], args := [d1, d2, d3] }
  | _ => none }
def ChargePartsWrongFalsely : Prop := chargePartsRow.holds Try.pinned (OpenSpec.ofChange chargePartsWrong)

/-- 'tranterlaw22.ChargeTells': WHATEVER THE INPUT: true; the input reads as it did. -/
def chargeTellsSpec : ChangeSpec := { name := "chargeTells", fn := fun _ => fun
  | [d1, d2, d3] => { results := [.lit (.bool true)], args := [d1, d2, d3] }
  | _ => none }
def chargeTellsRow : OpenClaim := { program := "ytmmonbnlleeloaa", sum := "76b26614f1e9b979989d9b0fa69fc0dd50b74f528421e751ab8f3e0ba4a933d7", func := "tranter/tranterlaw22.ChargeTells", spec := "chargeTells", unfollowed := true, recurses := true, plainKeys := false, apart := false }
def ChargeTellsSaid : Prop := chargeTellsRow.holds Try.pinned (OpenSpec.ofChange chargeTellsSpec)

/-- ITS FALSE NEIGHBOUR: 'it returns false'. Refute it at one input. -/
def chargeTellsWrong : ChangeSpec := { name := "chargeTells", fn := fun _ => fun
  | [d1, d2, d3] => { results := [.lit (.bool false)], args := [d1, d2, d3] }
  | _ => none }
def ChargeTellsWrongFalsely : Prop := chargeTellsRow.holds Try.pinned (OpenSpec.ofChange chargeTellsWrong)

/-- 'tranterlaw22.ChargeCaps': WHATEVER THE INPUT: true; the input reads as it did. -/
def chargeCapsSpec : ChangeSpec := { name := "chargeCaps", fn := fun _ => fun
  | [d1, d2] => { results := [.lit (.bool true)], args := [d1, d2] }
  | _ => none }
def chargeCapsRow : OpenClaim := { program := "ytmmonbnlleeloaa", sum := "76b26614f1e9b979989d9b0fa69fc0dd50b74f528421e751ab8f3e0ba4a933d7", func := "tranter/tranterlaw22.ChargeCaps", spec := "chargeCaps", unfollowed := true, recurses := true, plainKeys := false, apart := false }
def ChargeCapsSaid : Prop := chargeCapsRow.holds Try.pinned (OpenSpec.ofChange chargeCapsSpec)

/-- ITS FALSE NEIGHBOUR: 'it returns false'. Refute it at one input. -/
def chargeCapsWrong : ChangeSpec := { name := "chargeCaps", fn := fun _ => fun
  | [d1, d2] => { results := [.lit (.bool false)], args := [d1, d2] }
  | _ => none }
def ChargeCapsWrongFalsely : Prop := chargeCapsRow.holds Try.pinned (OpenSpec.ofChange chargeCapsWrong)

/-- 'tranterlaw23.ClaimOnce': WHATEVER THE INPUT: true; the input reads as it did. -/
def claimOnceSpec : ChangeSpec := { name := "claimOnce", fn := fun _ => fun
  | [d1, d2, d3] => { results := [.lit (.bool true)], args := [d1, d2, d3] }
  | _ => none }
def claimOnceRow : OpenClaim := { program := "ytmmonbnlleeloaa", sum := "76b26614f1e9b979989d9b0fa69fc0dd50b74f528421e751ab8f3e0ba4a933d7", func := "tranter/tranterlaw23.ClaimOnce", spec := "claimOnce", unfollowed := true, recurses := true, plainKeys := false, apart := false }
def ClaimOnceSaid : Prop := claimOnceRow.holds Try.pinned (OpenSpec.ofChange claimOnceSpec)

/-- ITS FALSE NEIGHBOUR: 'it returns false'. Refute it at one input. -/
def claimOnceWrong : ChangeSpec := { name := "claimOnce", fn := fun _ => fun
  | [d1, d2, d3] => { results := [.lit (.bool false)], args := [d1, d2, d3] }
  | _ => none }
def ClaimOnceWrongFalsely : Prop := claimOnceRow.holds Try.pinned (OpenSpec.ofChange claimOnceWrong)

/-- 'tranterlaw23.ClaimEyes': WHATEVER THE INPUT: true; the input reads as it did. -/
def claimEyesSpec : ChangeSpec := { name := "claimEyes", fn := fun _ => fun
  | [d1, d2, d3] => { results := [.lit (.bool true)], args := [d1, d2, d3] }
  | _ => none }
def claimEyesRow : OpenClaim := { program := "ytmmonbnlleeloaa", sum := "76b26614f1e9b979989d9b0fa69fc0dd50b74f528421e751ab8f3e0ba4a933d7", func := "tranter/tranterlaw23.ClaimEyes", spec := "claimEyes", unfollowed := true, recurses := true, plainKeys := false, apart := false }
def ClaimEyesSaid : Prop := claimEyesRow.holds Try.pinned (OpenSpec.ofChange claimEyesSpec)

/-- ITS FALSE NEIGHBOUR: 'it returns false'. Refute it at one input. -/
def claimEyesWrong : ChangeSpec := { name := "claimEyes", fn := fun _ => fun
  | [d1, d2, d3] => { results := [.lit (.bool false)], args := [d1, d2, d3] }
  | _ => none }
def ClaimEyesWrongFalsely : Prop := claimEyesRow.holds Try.pinned (OpenSpec.ofChange claimEyesWrong)

/-- 'tranterlaw23.ClaimTurned': WHATEVER THE INPUT: true; the input reads as it did. -/
def claimTurnedSpec : ChangeSpec := { name := "claimTurned", fn := fun _ => fun
  | [d1, d2, d3] => { results := [.lit (.bool true)], args := [d1, d2, d3] }
  | _ => none }
def claimTurnedRow : OpenClaim := { program := "ytmmonbnlleeloaa", sum := "76b26614f1e9b979989d9b0fa69fc0dd50b74f528421e751ab8f3e0ba4a933d7", func := "tranter/tranterlaw23.ClaimTurned", spec := "claimTurned", unfollowed := true, recurses := true, plainKeys := false, apart := false }
def ClaimTurnedSaid : Prop := claimTurnedRow.holds Try.pinned (OpenSpec.ofChange claimTurnedSpec)

/-- ITS FALSE NEIGHBOUR: 'it returns false'. Refute it at one input. -/
def claimTurnedWrong : ChangeSpec := { name := "claimTurned", fn := fun _ => fun
  | [d1, d2, d3] => { results := [.lit (.bool false)], args := [d1, d2, d3] }
  | _ => none }
def ClaimTurnedWrongFalsely : Prop := claimTurnedRow.holds Try.pinned (OpenSpec.ofChange claimTurnedWrong)

/-- 'tranterlaw17.ShapeNames': WHATEVER THE INPUT: true; the input reads as it did. -/
def shapeNamesSpec : ChangeSpec := { name := "shapeNames", fn := fun _ => fun
  | [d] => { results := [.lit (.bool true)], args := [d] }
  | _ => none }
def shapeNamesRow : OpenClaim := { program := "ytmmonbnlleeloaa", sum := "76b26614f1e9b979989d9b0fa69fc0dd50b74f528421e751ab8f3e0ba4a933d7", func := "tranter/tranterlaw17.ShapeNames", spec := "shapeNames", unfollowed := true, recurses := true, plainKeys := false, apart := false }
def ShapeNamesSaid : Prop := shapeNamesRow.holds Try.pinned (OpenSpec.ofChange shapeNamesSpec)

/-- ITS FALSE NEIGHBOUR: 'it returns false'. Refute it at one input. -/
def shapeNamesWrong : ChangeSpec := { name := "shapeNames", fn := fun _ => fun
  | [d] => { results := [.lit (.bool false)], args := [d] }
  | _ => none }
def ShapeNamesWrongFalsely : Prop := shapeNamesRow.holds Try.pinned (OpenSpec.ofChange shapeNamesWrong)

/-- 'tranterlaw17.ShapeNone': WHATEVER THE INPUT: true; the input reads as it did. -/
def shapeNoneSpec : ChangeSpec := { name := "shapeNone", fn := fun _ => fun
  | [d] => { results := [.lit (.bool true)], args := [d] }
  | _ => none }
def shapeNoneRow : OpenClaim := { program := "ytmmonbnlleeloaa", sum := "76b26614f1e9b979989d9b0fa69fc0dd50b74f528421e751ab8f3e0ba4a933d7", func := "tranter/tranterlaw17.ShapeNone", spec := "shapeNone", unfollowed := true, recurses := true, plainKeys := false, apart := false }
def ShapeNoneSaid : Prop := shapeNoneRow.holds Try.pinned (OpenSpec.ofChange shapeNoneSpec)

/-- ITS FALSE NEIGHBOUR: 'it returns false'. Refute it at one input. -/
def shapeNoneWrong : ChangeSpec := { name := "shapeNone", fn := fun _ => fun
  | [d] => { results := [.lit (.bool false)], args := [d] }
  | _ => none }
def ShapeNoneWrongFalsely : Prop := shapeNoneRow.holds Try.pinned (OpenSpec.ofChange shapeNoneWrong)

/-- 'tranterlaw18.RevokeNone': WHATEVER THE INPUT: true; the input reads as it did. -/
def revokeNoneSpec : ChangeSpec := { name := "revokeNone", fn := fun _ => fun
  | [d] => { results := [.lit (.bool true)], args := [d] }
  | _ => none }
def revokeNoneRow : OpenClaim := { program := "ytmmonbnlleeloaa", sum := "76b26614f1e9b979989d9b0fa69fc0dd50b74f528421e751ab8f3e0ba4a933d7", func := "tranter/tranterlaw18.RevokeNone", spec := "revokeNone", unfollowed := true, recurses := true, plainKeys := false, apart := false }
def RevokeNoneSaid : Prop := revokeNoneRow.holds Try.pinned (OpenSpec.ofChange revokeNoneSpec)

/-- ITS FALSE NEIGHBOUR: 'it returns false'. Refute it at one input. -/
def revokeNoneWrong : ChangeSpec := { name := "revokeNone", fn := fun _ => fun
  | [d] => { results := [.lit (.bool false)], args := [d] }
  | _ => none }
def RevokeNoneWrongFalsely : Prop := revokeNoneRow.holds Try.pinned (OpenSpec.ofChange revokeNoneWrong)

/- THE SECOND FORM. 'bulk': how many values and letters a reading holds, each counted each time it is reached (what is shared counts as often as it is met; a slice's spare places count too). A statement '..UptoSaid' is the law's where the arguments, and the package variables that the reading takes, are together of bulk at most 1048576: NARROWER than '..Said'. Prove '..Said' where nothing that the law and all that it calls make is longer than what came in: it says more and counts as full. Else prove '..UptoSaid'. A law counts once. -/
mutual
def uptoBulk {H : Type} : DataW H → Nat
  | .lit (.string bytes) => bytes.length + 1
  | .lit _ => 1
  | .nil => 1
  | .ptr d => uptoBulk d + 1
  | .slice elems spare => uptoBulkAll elems + uptoBulkAll spare + 1
  | .agg parts => uptoBulkAll parts + 1
  | .iface _ d => uptoBulk d + 1
  | .map entries => uptoBulkEntries entries + 1
  | .held _ => 1
def uptoBulkAll {H : Type} : List (DataW H) → Nat
  | [] => 0
  | d :: r => uptoBulk d + uptoBulkAll r
def uptoBulkEntries {H : Type} : List (Lit × DataW H) → Nat
  | [] => 0
  | x :: r => uptoBulkEntry x + uptoBulkEntries r
def uptoBulkEntry {H : Type} : Lit × DataW H → Nat
  | (.string bytes, d) => bytes.length + uptoBulk d + 1
  | (_, d) => uptoBulk d + 1
 end
def uptoSmall : (H : Type) → List (DataW H) → Bool := fun _ ds => decide (uptoBulkAll ds ≤ 1048576)
def OpenSpec.upto (s : _root_.Go.ChangeSpec) : _root_.Go.OpenSpec := { _root_.Go.OpenSpec.ofChange s with cond := some uptoSmall }

/-- 'tranterlaw16.TreeNarrows', WHERE WHAT IT READS IS OF BULK AT MOST 1048576: true; the input reads as it did. -/
def treeNarrowsUptoRow : OpenClaim := { program := "ytmmonbnlleeloaa", sum := "76b26614f1e9b979989d9b0fa69fc0dd50b74f528421e751ab8f3e0ba4a933d7", func := "tranter/tranterlaw16.TreeNarrows", spec := "treeNarrows", unfollowed := true, recurses := true, plainKeys := false, apart := false, narrowed := true }
def TreeNarrowsUptoSaid : Prop := treeNarrowsUptoRow.holds Try.pinned (OpenSpec.upto treeNarrowsSpec)

/-- 'tranterlaw16.TreeBegins', WHERE WHAT IT READS IS OF BULK AT MOST 1048576: true; the input reads as it did. -/
def treeBeginsUptoRow : OpenClaim := { program := "ytmmonbnlleeloaa", sum := "76b26614f1e9b979989d9b0fa69fc0dd50b74f528421e751ab8f3e0ba4a933d7", func := "tranter/tranterlaw16.TreeBegins", spec := "treeBegins", unfollowed := true, recurses := true, plainKeys := false, apart := false, narrowed := true }
def TreeBeginsUptoSaid : Prop := treeBeginsUptoRow.holds Try.pinned (OpenSpec.upto treeBeginsSpec)

/-- 'tranterlaw17.ShapeStays', WHERE WHAT IT READS IS OF BULK AT MOST 1048576: true; the input reads as it did. -/
def shapeStaysUptoRow : OpenClaim := { program := "ytmmonbnlleeloaa", sum := "76b26614f1e9b979989d9b0fa69fc0dd50b74f528421e751ab8f3e0ba4a933d7", func := "tranter/tranterlaw17.ShapeStays", spec := "shapeStays", unfollowed := true, recurses := true, plainKeys := false, apart := false, narrowed := true }
def ShapeStaysUptoSaid : Prop := shapeStaysUptoRow.holds Try.pinned (OpenSpec.upto shapeStaysSpec)

/-- 'tranterlaw17.ShapeCarts', WHERE WHAT IT READS IS OF BULK AT MOST 1048576: true; the input reads as it did. -/
def shapeCartsUptoRow : OpenClaim := { program := "ytmmonbnlleeloaa", sum := "76b26614f1e9b979989d9b0fa69fc0dd50b74f528421e751ab8f3e0ba4a933d7", func := "tranter/tranterlaw17.ShapeCarts", spec := "shapeCarts", unfollowed := true, recurses := true, plainKeys := false, apart := false, narrowed := true }
def ShapeCartsUptoSaid : Prop := shapeCartsUptoRow.holds Try.pinned (OpenSpec.upto shapeCartsSpec)

/-- 'tranterlaw16.TreeTells', WHERE WHAT IT READS IS OF BULK AT MOST 1048576: true; the input reads as it did. -/
def treeTellsUptoRow : OpenClaim := { program := "ytmmonbnlleeloaa", sum := "76b26614f1e9b979989d9b0fa69fc0dd50b74f528421e751ab8f3e0ba4a933d7", func := "tranter/tranterlaw16.TreeTells", spec := "treeTells", unfollowed := true, recurses := true, plainKeys := false, apart := false, narrowed := true }
def TreeTellsUptoSaid : Prop := treeTellsUptoRow.holds Try.pinned (OpenSpec.upto treeTellsSpec)

/-- 'tranterlaw16.TreeNone', WHERE WHAT IT READS IS OF BULK AT MOST 1048576: true; the input reads as it did. -/
def treeNoneUptoRow : OpenClaim := { program := "ytmmonbnlleeloaa", sum := "76b26614f1e9b979989d9b0fa69fc0dd50b74f528421e751ab8f3e0ba4a933d7", func := "tranter/tranterlaw16.TreeNone", spec := "treeNone", unfollowed := true, recurses := true, plainKeys := false, apart := false, narrowed := true }
def TreeNoneUptoSaid : Prop := treeNoneUptoRow.holds Try.pinned (OpenSpec.upto treeNoneSpec)

/-- 'tranterlaw16.TreeHeld', WHERE WHAT IT READS IS OF BULK AT MOST 1048576: true; the input reads as it did. -/
def treeHeldUptoRow : OpenClaim := { program := "ytmmonbnlleeloaa", sum := "76b26614f1e9b979989d9b0fa69fc0dd50b74f528421e751ab8f3e0ba4a933d7", func := "tranter/tranterlaw16.TreeHeld", spec := "treeHeld", unfollowed := true, recurses := true, plainKeys := false, apart := false, narrowed := true }
def TreeHeldUptoSaid : Prop := treeHeldUptoRow.holds Try.pinned (OpenSpec.upto treeHeldSpec)

/-- 'tranterlaw22.ChargeTurned', WHERE WHAT IT READS IS OF BULK AT MOST 1048576: true; the input reads as it did. -/
def chargeTurnedUptoRow : OpenClaim := { program := "ytmmonbnlleeloaa", sum := "76b26614f1e9b979989d9b0fa69fc0dd50b74f528421e751ab8f3e0ba4a933d7", func := "tranter/tranterlaw22.ChargeTurned", spec := "chargeTurned", unfollowed := true, recurses := true, plainKeys := false, apart := false, narrowed := true }
def ChargeTurnedUptoSaid : Prop := chargeTurnedUptoRow.holds Try.pinned (OpenSpec.upto chargeTurnedSpec)

/-- 'tranterlaw22.ChargeParts', WHERE WHAT IT READS IS OF BULK AT MOST 1048576: true; the input reads as it did. -/
def chargePartsUptoRow : OpenClaim := { program := "ytmmonbnlleeloaa", sum := "76b26614f1e9b979989d9b0fa69fc0dd50b74f528421e751ab8f3e0ba4a933d7", func := "tranter/tranterlaw22.ChargeParts", spec := "chargeParts", unfollowed := true, recurses := true, plainKeys := false, apart := false, narrowed := true }
def ChargePartsUptoSaid : Prop := chargePartsUptoRow.holds Try.pinned (OpenSpec.upto chargePartsSpec)

/-- 'tranterlaw22.ChargeTells', WHERE WHAT IT READS IS OF BULK AT MOST 1048576: true; the input reads as it did. -/
def chargeTellsUptoRow : OpenClaim := { program := "ytmmonbnlleeloaa", sum := "76b26614f1e9b979989d9b0fa69fc0dd50b74f528421e751ab8f3e0ba4a933d7", func := "tranter/tranterlaw22.ChargeTells", spec := "chargeTells", unfollowed := true, recurses := true, plainKeys := false, apart := false, narrowed := true }
def ChargeTellsUptoSaid : Prop := chargeTellsUptoRow.holds Try.pinned (OpenSpec.upto chargeTellsSpec)

/-- 'tranterlaw22.ChargeCaps', WHERE WHAT IT READS IS OF BULK AT MOST 1048576: true; the input reads as it did. -/
def chargeCapsUptoRow : OpenClaim := { program := "ytmmonbnlleeloaa", sum := "76b26614f1e9b979989d9b0fa69fc0dd50b74f528421e751ab8f3e0ba4a933d7", func := "tranter/tranterlaw22.ChargeCaps", spec := "chargeCaps", unfollowed := true, recurses := true, plainKeys := false, apart := false, narrowed := true }
def ChargeCapsUptoSaid : Prop := chargeCapsUptoRow.holds Try.pinned (OpenSpec.upto chargeCapsSpec)

/-- 'tranterlaw23.ClaimOnce', WHERE WHAT IT READS IS OF BULK AT MOST 1048576: true; the input reads as it did. -/
def claimOnceUptoRow : OpenClaim := { program := "ytmmonbnlleeloaa", sum := "76b26614f1e9b979989d9b0fa69fc0dd50b74f528421e751ab8f3e0ba4a933d7", func := "tranter/tranterlaw23.ClaimOnce", spec := "claimOnce", unfollowed := true, recurses := true, plainKeys := false, apart := false, narrowed := true }
def ClaimOnceUptoSaid : Prop := claimOnceUptoRow.holds Try.pinned (OpenSpec.upto claimOnceSpec)

/-- 'tranterlaw23.ClaimEyes', WHERE WHAT IT READS IS OF BULK AT MOST 1048576: true; the input reads as it did. -/
def claimEyesUptoRow : OpenClaim := { program := "ytmmonbnlleeloaa", sum := "76b26614f1e9b979989d9b0fa69fc0dd50b74f528421e751ab8f3e0ba4a933d7", func := "tranter/tranterlaw23.ClaimEyes", spec := "claimEyes", unfollowed := true, recurses := true, plainKeys := false, apart := false, narrowed := true }
def ClaimEyesUptoSaid : Prop := claimEyesUptoRow.holds Try.pinned (OpenSpec.upto claimEyesSpec)

/-- 'tranterlaw23.ClaimTurned', WHERE WHAT IT READS IS OF BULK AT MOST 1048576: true; the input reads as it did. -/
def claimTurnedUptoRow : OpenClaim := { program := "ytmmonbnlleeloaa", sum := "76b26614f1e9b979989d9b0fa69fc0dd50b74f528421e751ab8f3e0ba4a933d7", func := "tranter/tranterlaw23.ClaimTurned", spec := "claimTurned", unfollowed := true, recurses := true, plainKeys := false, apart := false, narrowed := true }
def ClaimTurnedUptoSaid : Prop := claimTurnedUptoRow.holds Try.pinned (OpenSpec.upto claimTurnedSpec)

/-- 'tranterlaw17.ShapeNames', WHERE WHAT IT READS IS OF BULK AT MOST 1048576: true; the input reads as it did. -/
def shapeNamesUptoRow : OpenClaim := { program := "ytmmonbnlleeloaa", sum := "76b26614f1e9b979989d9b0fa69fc0dd50b74f528421e751ab8f3e0ba4a933d7", func := "tranter/tranterlaw17.ShapeNames", spec := "shapeNames", unfollowed := true, recurses := true, plainKeys := false, apart := false, narrowed := true }
def ShapeNamesUptoSaid : Prop := shapeNamesUptoRow.holds Try.pinned (OpenSpec.upto shapeNamesSpec)

/-- 'tranterlaw17.ShapeNone', WHERE WHAT IT READS IS OF BULK AT MOST 1048576: true; the input reads as it did. -/
def shapeNoneUptoRow : OpenClaim := { program := "ytmmonbnlleeloaa", sum := "76b26614f1e9b979989d9b0fa69fc0dd50b74f528421e751ab8f3e0ba4a933d7", func := "tranter/tranterlaw17.ShapeNone", spec := "shapeNone", unfollowed := true, recurses := true, plainKeys := false, apart := false, narrowed := true }
def ShapeNoneUptoSaid : Prop := shapeNoneUptoRow.holds Try.pinned (OpenSpec.upto shapeNoneSpec)

/-- 'tranterlaw18.RevokeNone', WHERE WHAT IT READS IS OF BULK AT MOST 1048576: true; the input reads as it did. -/
def revokeNoneUptoRow : OpenClaim := { program := "ytmmonbnlleeloaa", sum := "76b26614f1e9b979989d9b0fa69fc0dd50b74f528421e751ab8f3e0ba4a933d7", func := "tranter/tranterlaw18.RevokeNone", spec := "revokeNone", unfollowed := true, recurses := true, plainKeys := false, apart := false, narrowed := true }
def RevokeNoneUptoSaid : Prop := revokeNoneUptoRow.holds Try.pinned (OpenSpec.upto revokeNoneSpec)

end Rows
end Go.Proofs.Ytmmonbnlleeloaa
