/-
  No cell of these rows narrows 'for every input' (looked for: loops, veiled, ifaces, maps, wideKeys, modest, calm, conditions, laid).
  DERIVED. THE GIVEN ROWS OF THIS SEAT. 6 by the template 'for every input the law returns true; each argument reads behind the call as it read before'; 0 by the template 'total and deterministic' (their statements: YtacdkgkpoelhdaaTotals.lean).
  GIVEN WITH THE SEED: the statements are not yours to turn. If you find one false, say at which input.
  Laid BY PROGRAM, IN A SANDBOX (cutbox-rows.mjs): the forced cells as the released guide's own fill.sh prints them over the translation 48f1f69c8823dcd5… (all of the seat's roots in one cut). By AI agents, Wed Nov 11 2026. No macro, syntax, notation, axiom, sorry.
-/
import Derived.Test.YtacdkgkpoelhdaaChecked
import GoSem.Claim
import GoSem.ClaimJoined
import GoSem.ClaimMapViews
import Derived.JoinedTies
import Derived.KernelRfl
namespace Go.Proofs.Ytacdkgkpoelhdaa
/- THE CELL 'sum', in the pinned program and in every row, IS THE sha256 OF THE DUMP (.gsa) THAT YtacdkgkpoelhdaaProg.lean LOADS. Nothing in Lean hashes anything: it is a label: what it is worth is what the hold of that sum in a sandbox is worth. -/
noncomputable def Try.pinned : Pinned := { name := "ytacdkgkpoelhdaa", sum := "48f1f69c8823dcd55ee414ece46e3f339db769ed23cf7c8d46dd9a627fcf1ffe", checked := Try.checked }
namespace Rows
def none {H : Type} : Left H := { results := [], args := [] }

/-- 'tranterlaw12.StableSafe': WHATEVER THE INPUT: true; the input reads as it did. -/
def stableSafeSpec : ChangeSpec := { name := "stableSafe", fn := fun _ => fun
  | [d1, d2, d3] => { results := [.lit (.bool true)], args := [d1, d2, d3] }
  | _ => none }
def stableSafeRow : OpenClaim := { program := "ytacdkgkpoelhdaa", sum := "48f1f69c8823dcd55ee414ece46e3f339db769ed23cf7c8d46dd9a627fcf1ffe", func := "tranter/tranterlaw12.StableSafe", spec := "stableSafe", unfollowed := true, recurses := true, plainKeys := false, apart := false }
def StableSafeSaid : Prop := stableSafeRow.holds Try.pinned (OpenSpec.ofChange stableSafeSpec)

/-- ITS FALSE NEIGHBOUR: 'it returns false'. Refute it at one input. -/
def stableSafeWrong : ChangeSpec := { name := "stableSafe", fn := fun _ => fun
  | [d1, d2, d3] => { results := [.lit (.bool false)], args := [d1, d2, d3] }
  | _ => none }
def StableSafeWrongFalsely : Prop := stableSafeRow.holds Try.pinned (OpenSpec.ofChange stableSafeWrong)

/-- 'tranterlaw16.TreeBegins': WHATEVER THE INPUT: true; the input reads as it did. -/
def treeBeginsSpec : ChangeSpec := { name := "treeBegins", fn := fun _ => fun
  | [d1, d2, d3] => { results := [.lit (.bool true)], args := [d1, d2, d3] }
  | _ => none }
def treeBeginsRow : OpenClaim := { program := "ytacdkgkpoelhdaa", sum := "48f1f69c8823dcd55ee414ece46e3f339db769ed23cf7c8d46dd9a627fcf1ffe", func := "tranter/tranterlaw16.TreeBegins", spec := "treeBegins", unfollowed := true, recurses := true, plainKeys := false, apart := false }
def TreeBeginsSaid : Prop := treeBeginsRow.holds Try.pinned (OpenSpec.ofChange treeBeginsSpec)

/-- ITS FALSE NEIGHBOUR: 'it returns false'. Refute it at one input. -/
def treeBeginsWrong : ChangeSpec := { name := "treeBegins", fn := fun _ => fun
  | [d1, d2, d3] => { results := [.lit (.bool false)], args := [d1, d2, d3] }
  | _ => none }
def TreeBeginsWrongFalsely : Prop := treeBeginsRow.holds Try.pinned (OpenSpec.ofChange treeBeginsWrong)

/-- 'tranterlaw12.StableGrows': WHATEVER THE INPUT: true; the input reads as it did. -/
def stableGrowsSpec : ChangeSpec := { name := "stableGrows", fn := fun _ => fun
  | [d1, d2, d3] => { results := [.lit (.bool true)], args := [d1, d2, d3] }
  | _ => none }
def stableGrowsRow : OpenClaim := { program := "ytacdkgkpoelhdaa", sum := "48f1f69c8823dcd55ee414ece46e3f339db769ed23cf7c8d46dd9a627fcf1ffe", func := "tranter/tranterlaw12.StableGrows", spec := "stableGrows", inPlace := ["maps.clone"], unfollowed := true, recurses := true, plainKeys := false, apart := false }
def StableGrowsSaid : Prop := stableGrowsRow.holds Try.pinned (OpenSpec.ofChange stableGrowsSpec)

/-- ITS FALSE NEIGHBOUR: 'it returns false'. Refute it at one input. -/
def stableGrowsWrong : ChangeSpec := { name := "stableGrows", fn := fun _ => fun
  | [d1, d2, d3] => { results := [.lit (.bool false)], args := [d1, d2, d3] }
  | _ => none }
def StableGrowsWrongFalsely : Prop := stableGrowsRow.holds Try.pinned (OpenSpec.ofChange stableGrowsWrong)

/-- 'tranterlaw12.StablePlays': WHATEVER THE INPUT: true; the input reads as it did. -/
def stablePlaysSpec : ChangeSpec := { name := "stablePlays", fn := fun _ => fun
  | [d1, d2, d3] => { results := [.lit (.bool true)], args := [d1, d2, d3] }
  | _ => none }
def stablePlaysRow : OpenClaim := { program := "ytacdkgkpoelhdaa", sum := "48f1f69c8823dcd55ee414ece46e3f339db769ed23cf7c8d46dd9a627fcf1ffe", func := "tranter/tranterlaw12.StablePlays", spec := "stablePlays", inPlace := ["maps.clone"], unfollowed := true, recurses := true, plainKeys := false, apart := false }
def StablePlaysSaid : Prop := stablePlaysRow.holds Try.pinned (OpenSpec.ofChange stablePlaysSpec)

/-- ITS FALSE NEIGHBOUR: 'it returns false'. Refute it at one input. -/
def stablePlaysWrong : ChangeSpec := { name := "stablePlays", fn := fun _ => fun
  | [d1, d2, d3] => { results := [.lit (.bool false)], args := [d1, d2, d3] }
  | _ => none }
def StablePlaysWrongFalsely : Prop := stablePlaysRow.holds Try.pinned (OpenSpec.ofChange stablePlaysWrong)

/-- 'tranterlaw17.ShapeStays': WHATEVER THE INPUT: true; the input reads as it did. -/
def shapeStaysSpec : ChangeSpec := { name := "shapeStays", fn := fun _ => fun
  | [d1, d2, d3] => { results := [.lit (.bool true)], args := [d1, d2, d3] }
  | _ => none }
def shapeStaysRow : OpenClaim := { program := "ytacdkgkpoelhdaa", sum := "48f1f69c8823dcd55ee414ece46e3f339db769ed23cf7c8d46dd9a627fcf1ffe", func := "tranter/tranterlaw17.ShapeStays", spec := "shapeStays", unfollowed := true, recurses := true, plainKeys := false, apart := false }
def ShapeStaysSaid : Prop := shapeStaysRow.holds Try.pinned (OpenSpec.ofChange shapeStaysSpec)

/-- ITS FALSE NEIGHBOUR: 'it returns false'. Refute it at one input. -/
def shapeStaysWrong : ChangeSpec := { name := "shapeStays", fn := fun _ => fun
  | [d1, d2, d3] => { results := [.lit (.bool false)], args := [d1, d2, d3] }
  | _ => none }
def ShapeStaysWrongFalsely : Prop := shapeStaysRow.holds Try.pinned (OpenSpec.ofChange shapeStaysWrong)

/-- 'tranterlaw17.ShapeCarts': WHATEVER THE INPUT: true; the input reads as it did. -/
def shapeCartsSpec : ChangeSpec := { name := "shapeCarts", fn := fun _ => fun
  | [d1, d2] => { results := [.lit (.bool true)], args := [d1, d2] }
  | _ => none }
def shapeCartsRow : OpenClaim := { program := "ytacdkgkpoelhdaa", sum := "48f1f69c8823dcd55ee414ece46e3f339db769ed23cf7c8d46dd9a627fcf1ffe", func := "tranter/tranterlaw17.ShapeCarts", spec := "shapeCarts", unfollowed := true, recurses := true, plainKeys := false, apart := false }
def ShapeCartsSaid : Prop := shapeCartsRow.holds Try.pinned (OpenSpec.ofChange shapeCartsSpec)

/-- ITS FALSE NEIGHBOUR: 'it returns false'. Refute it at one input. -/
def shapeCartsWrong : ChangeSpec := { name := "shapeCarts", fn := fun _ => fun
  | [d1, d2] => { results := [.lit (.bool false)], args := [d1, d2] }
  | _ => none }
def ShapeCartsWrongFalsely : Prop := shapeCartsRow.holds Try.pinned (OpenSpec.ofChange shapeCartsWrong)

/- THE SECOND FORM. 'bulk': how many values and letters a reading holds, each counted each time it is reached (what is shared counts as often as it is met; a slice's spare places count too). A statement '..UptoSaid' is the law's where the arguments, and the package variables that the reading takes, are together of bulk at most 1048576: NARROWER than '..Said'. Prove '..Said' where nothing that the law and all that it calls make is longer than what came in: it says more and counts as full. Else prove '..UptoSaid'. A law counts once. -/
mutual
def uptoBulk {H : Type} : DataW H → Nat
  | .lit (.string bytes) => bytes.length + 1
  | .lit _ => 1
  | .nil => 1
  | .ptr d => uptoBulk d + 1
  | .slice elems spare => uptoBulkAll elems + uptoBulkAll spare + 1
  | .agg parts => uptoBulkAll parts + 1
  | .iface _ d => uptoBulk d + 1
  | .map entries => uptoBulkEntries entries + 1
  | .held _ => 1
def uptoBulkAll {H : Type} : List (DataW H) → Nat
  | [] => 0
  | d :: r => uptoBulk d + uptoBulkAll r
def uptoBulkEntries {H : Type} : List (Lit × DataW H) → Nat
  | [] => 0
  | x :: r => uptoBulkEntry x + uptoBulkEntries r
def uptoBulkEntry {H : Type} : Lit × DataW H → Nat
  | (.string bytes, d) => bytes.length + uptoBulk d + 1
  | (_, d) => uptoBulk d + 1
 end
def uptoSmall : (H : Type) → List (DataW H) → Bool := fun _ ds => decide (uptoBulkAll ds ≤ 1048576)
def OpenSpec.upto (s : _root_.Go.ChangeSpec) : _root_.Go.OpenSpec := { _root_.Go.OpenSpec.ofChange s with cond := some uptoSmall }

/-- 'tranterlaw12.StableSafe', WHERE WHAT IT READS IS OF BULK AT MOST 1048576: true; the input reads as it did. -/
def stableSafeUptoRow : OpenClaim := { program := "ytacdkgkpoelhdaa", sum := "48f1f69c8823dcd55ee414ece46e3f339db769ed23cf7c8d46dd9a627fcf1ffe", func := "tranter/tranterlaw12.StableSafe", spec := "stableSafe", unfollowed := true, recurses := true, plainKeys := false, apart := false, narrowed := true }
def StableSafeUptoSaid : Prop := stableSafeUptoRow.holds Try.pinned (OpenSpec.upto stableSafeSpec)

/-- 'tranterlaw16.TreeBegins', WHERE WHAT IT READS IS OF BULK AT MOST 1048576: true; the input reads as it did. -/
def treeBeginsUptoRow : OpenClaim := { program := "ytacdkgkpoelhdaa", sum := "48f1f69c8823dcd55ee414ece46e3f339db769ed23cf7c8d46dd9a627fcf1ffe", func := "tranter/tranterlaw16.TreeBegins", spec := "treeBegins", unfollowed := true, recurses := true, plainKeys := false, apart := false, narrowed := true }
def TreeBeginsUptoSaid : Prop := treeBeginsUptoRow.holds Try.pinned (OpenSpec.upto treeBeginsSpec)

/-- 'tranterlaw12.StableGrows', WHERE WHAT IT READS IS OF BULK AT MOST 1048576: true; the input reads as it did. -/
def stableGrowsUptoRow : OpenClaim := { program := "ytacdkgkpoelhdaa", sum := "48f1f69c8823dcd55ee414ece46e3f339db769ed23cf7c8d46dd9a627fcf1ffe", func := "tranter/tranterlaw12.StableGrows", spec := "stableGrows", inPlace := ["maps.clone"], unfollowed := true, recurses := true, plainKeys := false, apart := false, narrowed := true }
def StableGrowsUptoSaid : Prop := stableGrowsUptoRow.holds Try.pinned (OpenSpec.upto stableGrowsSpec)

/-- 'tranterlaw12.StablePlays', WHERE WHAT IT READS IS OF BULK AT MOST 1048576: true; the input reads as it did. -/
def stablePlaysUptoRow : OpenClaim := { program := "ytacdkgkpoelhdaa", sum := "48f1f69c8823dcd55ee414ece46e3f339db769ed23cf7c8d46dd9a627fcf1ffe", func := "tranter/tranterlaw12.StablePlays", spec := "stablePlays", inPlace := ["maps.clone"], unfollowed := true, recurses := true, plainKeys := false, apart := false, narrowed := true }
def StablePlaysUptoSaid : Prop := stablePlaysUptoRow.holds Try.pinned (OpenSpec.upto stablePlaysSpec)

/-- 'tranterlaw17.ShapeStays', WHERE WHAT IT READS IS OF BULK AT MOST 1048576: true; the input reads as it did. -/
def shapeStaysUptoRow : OpenClaim := { program := "ytacdkgkpoelhdaa", sum := "48f1f69c8823dcd55ee414ece46e3f339db769ed23cf7c8d46dd9a627fcf1ffe", func := "tranter/tranterlaw17.ShapeStays", spec := "shapeStays", unfollowed := true, recurses := true, plainKeys := false, apart := false, narrowed := true }
def ShapeStaysUptoSaid : Prop := shapeStaysUptoRow.holds Try.pinned (OpenSpec.upto shapeStaysSpec)

/-- 'tranterlaw17.ShapeCarts', WHERE WHAT IT READS IS OF BULK AT MOST 1048576: true; the input reads as it did. -/
def shapeCartsUptoRow : OpenClaim := { program := "ytacdkgkpoelhdaa", sum := "48f1f69c8823dcd55ee414ece46e3f339db769ed23cf7c8d46dd9a627fcf1ffe", func := "tranter/tranterlaw17.ShapeCarts", spec := "shapeCarts", unfollowed := true, recurses := true, plainKeys := false, apart := false, narrowed := true }
def ShapeCartsUptoSaid : Prop := shapeCartsUptoRow.holds Try.pinned (OpenSpec.upto shapeCartsSpec)

end Rows
end Go.Proofs.Ytacdkgkpoelhdaa
