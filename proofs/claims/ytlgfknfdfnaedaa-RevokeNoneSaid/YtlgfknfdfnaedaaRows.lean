/-
  No cell of these rows narrows 'for every input' (looked for: loops, veiled, ifaces, maps, wideKeys, modest, calm, conditions, laid).
  DERIVED. THE GIVEN ROWS OF THIS SEAT. 3 by the template 'for every input the law returns true; each argument reads behind the call as it read before'; 0 by the template 'total and deterministic' (their statements: YtlgfknfdfnaedaaTotals.lean).
  GIVEN WITH THE SEED: the statements are not yours to turn. If you find one false, say at which input.
  Laid BY PROGRAM, IN A SANDBOX (cutbox-rows.mjs): the forced cells as the released guide's own fill.sh prints them over the translation 0a3b408c747dbe86… (all of the seat's roots in one cut). By AI agents, Wed Nov 11 2026. No macro, syntax, notation, axiom, sorry.
-/
import Derived.Test.YtlgfknfdfnaedaaChecked
import GoSem.Claim
import GoSem.ClaimJoined
import GoSem.ClaimMapViews
import Derived.JoinedTies
import Derived.KernelRfl
namespace Go.Proofs.Ytlgfknfdfnaedaa
/- THE CELL 'sum', in the pinned program and in every row, IS THE sha256 OF THE DUMP (.gsa) THAT YtlgfknfdfnaedaaProg.lean LOADS. Nothing in Lean hashes anything: it is a label: what it is worth is what the hold of that sum in a sandbox is worth. -/
noncomputable def Try.pinned : Pinned := { name := "ytlgfknfdfnaedaa", sum := "0a3b408c747dbe860fb1d424b0592ef61418d45033f72f43868f91fcb764e222", checked := Try.checked }
namespace Rows
def none {H : Type} : Left H := { results := [], args := [] }

/-- 'tranterlaw17.ShapeNames': WHATEVER THE INPUT: true; the input reads as it did. -/
def shapeNamesSpec : ChangeSpec := { name := "shapeNames", fn := fun _ => fun
  | [d] => { results := [.lit (.bool true)], args := [d] }
  | _ => none }
def shapeNamesRow : OpenClaim := { program := "ytlgfknfdfnaedaa", sum := "0a3b408c747dbe860fb1d424b0592ef61418d45033f72f43868f91fcb764e222", func := "tranter/tranterlaw17.ShapeNames", spec := "shapeNames", unfollowed := true, recurses := true, plainKeys := false, apart := false }
def ShapeNamesSaid : Prop := shapeNamesRow.holds Try.pinned (OpenSpec.ofChange shapeNamesSpec)

/-- ITS FALSE NEIGHBOUR: 'it returns false'. Refute it at one input. -/
def shapeNamesWrong : ChangeSpec := { name := "shapeNames", fn := fun _ => fun
  | [d] => { results := [.lit (.bool false)], args := [d] }
  | _ => none }
def ShapeNamesWrongFalsely : Prop := shapeNamesRow.holds Try.pinned (OpenSpec.ofChange shapeNamesWrong)

/-- 'tranterlaw17.ShapeNone': WHATEVER THE INPUT: true; the input reads as it did. -/
def shapeNoneSpec : ChangeSpec := { name := "shapeNone", fn := fun _ => fun
  | [d] => { results := [.lit (.bool true)], args := [d] }
  | _ => none }
def shapeNoneRow : OpenClaim := { program := "ytlgfknfdfnaedaa", sum := "0a3b408c747dbe860fb1d424b0592ef61418d45033f72f43868f91fcb764e222", func := "tranter/tranterlaw17.ShapeNone", spec := "shapeNone", unfollowed := true, recurses := true, plainKeys := false, apart := false }
def ShapeNoneSaid : Prop := shapeNoneRow.holds Try.pinned (OpenSpec.ofChange shapeNoneSpec)

/-- ITS FALSE NEIGHBOUR: 'it returns false'. Refute it at one input. -/
def shapeNoneWrong : ChangeSpec := { name := "shapeNone", fn := fun _ => fun
  | [d] => { results := [.lit (.bool false)], args := [d] }
  | _ => none }
def ShapeNoneWrongFalsely : Prop := shapeNoneRow.holds Try.pinned (OpenSpec.ofChange shapeNoneWrong)

/-- 'tranterlaw18.RevokeNone': WHATEVER THE INPUT: true; the input reads as it did. -/
def revokeNoneSpec : ChangeSpec := { name := "revokeNone", fn := fun _ => fun
  | [d] => { results := [.lit (.bool true)], args := [d] }
  | _ => none }
def revokeNoneRow : OpenClaim := { program := "ytlgfknfdfnaedaa", sum := "0a3b408c747dbe860fb1d424b0592ef61418d45033f72f43868f91fcb764e222", func := "tranter/tranterlaw18.RevokeNone", spec := "revokeNone", unfollowed := true, recurses := true, plainKeys := false, apart := false }
def RevokeNoneSaid : Prop := revokeNoneRow.holds Try.pinned (OpenSpec.ofChange revokeNoneSpec)

/-- ITS FALSE NEIGHBOUR: 'it returns false'. Refute it at one input. -/
def revokeNoneWrong : ChangeSpec := { name := "revokeNone", fn := fun _ => fun
  | [d] => { results := [.lit (.bool false)], args := [d] }
  | _ => none }
def RevokeNoneWrongFalsely : Prop := revokeNoneRow.holds Try.pinned (OpenSpec.ofChange revokeNoneWrong)

/- THE SECOND FORM. 'bulk': how many values and letters a reading holds, each counted each time it is reached (what is shared counts as often as it is met; a slice's spare places count too). A statement '..UptoSaid' is the law's where the arguments, and the package variables that the reading takes, are together of bulk at most 1048576: NARROWER than '..Said'. Prove '..Said' where nothing that the law and all that it calls make is longer than what came in: it says more and counts as full. Else prove '..UptoSaid'. A law counts once. -/
mutual
def uptoBulk {H : Type} : DataW H → Nat
  | .lit (.string bytes) => bytes.length + 1
  | .lit _ => 1
  | .nil => 1
  | .ptr d => uptoBulk d + 1
  | .slice elems spare => uptoBulkAll elems + uptoBulkAll spare + 1
  | .agg parts => uptoBulkAll parts + 1
  | .iface _ d => uptoBulk d + 1
  | .map entries => uptoBulkEntries entries + 1
  | .held _ => 1
def uptoBulkAll {H : Type} : List (DataW H) → Nat
  | [] => 0
  | d :: r => uptoBulk d + uptoBulkAll r
def uptoBulkEntries {H : Type} : List (Lit × DataW H) → Nat
  | [] => 0
  | x :: r => uptoBulkEntry x + uptoBulkEntries r
def uptoBulkEntry {H : Type} : Lit × DataW H → Nat
  | (.string bytes, d) => bytes.length + uptoBulk d + 1
  | (_, d) => uptoBulk d + 1
 end
def uptoSmall : (H : Type) → List (DataW H) → Bool := fun _ ds => decide (uptoBulkAll ds ≤ 1048576)
def OpenSpec.upto (s : _root_.Go.ChangeSpec) : _root_.Go.OpenSpec := { _root_.Go.OpenSpec.ofChange s with cond := some uptoSmall }

/-- 'tranterlaw17.ShapeNames', WHERE WHAT IT READS IS OF BULK AT MOST 1048576: true; the input reads as it did. -/
def shapeNamesUptoRow : OpenClaim := { program := "ytlgfknfdfnaedaa", sum := "0a3b408c747dbe860fb1d424b0592ef61418d45033f72f43868f91fcb764e222", func := "tranter/tranterlaw17.ShapeNames", spec := "shapeNames", unfollowed := true, recurses := true, plainKeys := false, apart := false, narrowed := true }
def ShapeNamesUptoSaid : Prop := shapeNamesUptoRow.holds Try.pinned (OpenSpec.upto shapeNamesSpec)

/-- 'tranterlaw17.ShapeNone', WHERE WHAT IT READS IS OF BULK AT MOST 1048576: true; the input reads as it did. -/
def shapeNoneUptoRow : OpenClaim := { program := "ytlgfknfdfnaedaa", sum := "0a3b408c747dbe860fb1d424b0592ef61418d45033f72f43868f91fcb764e222", func := "tranter/tranterlaw17.ShapeNone", spec := "shapeNone", unfollowed := true, recurses := true, plainKeys := false, apart := false, narrowed := true }
def ShapeNoneUptoSaid : Prop := shapeNoneUptoRow.holds Try.pinned (OpenSpec.upto shapeNoneSpec)

/-- 'tranterlaw18.RevokeNone', WHERE WHAT IT READS IS OF BULK AT MOST 1048576: true; the input reads as it did. -/
def revokeNoneUptoRow : OpenClaim := { program := "ytlgfknfdfnaedaa", sum := "0a3b408c747dbe860fb1d424b0592ef61418d45033f72f43868f91fcb764e222", func := "tranter/tranterlaw18.RevokeNone", spec := "revokeNone", unfollowed := true, recurses := true, plainKeys := false, apart := false, narrowed := true }
def RevokeNoneUptoSaid : Prop := revokeNoneUptoRow.holds Try.pinned (OpenSpec.upto revokeNoneSpec)

end Rows
end Go.Proofs.Ytlgfknfdfnaedaa
