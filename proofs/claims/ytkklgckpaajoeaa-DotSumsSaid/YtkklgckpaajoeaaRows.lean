/-
  No cell of these rows narrows 'for every input' (looked for: loops, veiled, ifaces, maps, wideKeys, modest, calm, conditions, laid).
  DERIVED. THE GIVEN ROWS OF THIS SEAT. 5 by the template 'for every input the law returns true; each argument reads behind the call as it read before'; 0 by the template 'total and deterministic' (their statements: YtkklgckpaajoeaaTotals.lean).
  GIVEN WITH THE SEED: the statements are not yours to turn. If you find one false, say at which input.
  Laid BY PROGRAM, IN A SANDBOX (cutbox-rows.mjs): the forced cells as the released guide's own fill.sh prints them over the translation 0a969aa1711777b0… (all of the seat's roots in one cut). By AI agents, Wed Nov 11 2026. No macro, syntax, notation, axiom, sorry.
-/
import Derived.Test.YtkklgckpaajoeaaChecked
import GoSem.Claim
import GoSem.ClaimJoined
import GoSem.ClaimMapViews
import Derived.JoinedTies
import Derived.KernelRfl
namespace Go.Proofs.Ytkklgckpaajoeaa
/- THE CELL 'sum', in the pinned program and in every row, IS THE sha256 OF THE DUMP (.gsa) THAT YtkklgckpaajoeaaProg.lean LOADS. Nothing in Lean hashes anything: it is a label: what it is worth is what the hold of that sum in a sandbox is worth. -/
noncomputable def Try.pinned : Pinned := { name := "ytkklgckpaajoeaa", sum := "0a969aa1711777b04d52230740f57449fc19ccd05336f81aa60973b0261456fb", checked := Try.checked }
namespace Rows
def none {H : Type} : Left H := { results := [], args := [] }

/-- 'tranterlaw03.DotKeys': WHATEVER THE INPUT: true; the input reads as it did. -/
def dotKeysSpec : ChangeSpec := { name := "dotKeys", fn := fun _ => fun
  | [d1, d2, d3] => { results := [.lit (.bool true)], args := [d1, d2, d3] }
  | _ => none }
def dotKeysRow : OpenClaim := { program := "ytkklgckpaajoeaa", sum := "0a969aa1711777b04d52230740f57449fc19ccd05336f81aa60973b0261456fb", func := "tranter/tranterlaw03.DotKeys", spec := "dotKeys", unfollowed := true, recurses := true, plainKeys := false, apart := false }
def DotKeysSaid : Prop := dotKeysRow.holds Try.pinned (OpenSpec.ofChange dotKeysSpec)

/-- ITS FALSE NEIGHBOUR: 'it returns false'. Refute it at one input. -/
def dotKeysWrong : ChangeSpec := { name := "dotKeys", fn := fun _ => fun
  | [d1, d2, d3] => { results := [.lit (.bool false)], args := [d1, d2, d3] }
  | _ => none }
def DotKeysWrongFalsely : Prop := dotKeysRow.holds Try.pinned (OpenSpec.ofChange dotKeysWrong)

/-- 'tranterlaw03.DotRange': WHATEVER THE INPUT: true; the input reads as it did. -/
def dotRangeSpec : ChangeSpec := { name := "dotRange", fn := fun _ => fun
  | [d1, d2, d3] => { results := [.lit (.bool true)], args := [d1, d2, d3] }
  | _ => none }
def dotRangeRow : OpenClaim := { program := "ytkklgckpaajoeaa", sum := "0a969aa1711777b04d52230740f57449fc19ccd05336f81aa60973b0261456fb", func := "tranter/tranterlaw03.DotRange", spec := "dotRange", unfollowed := true, recurses := true, plainKeys := false, apart := false }
def DotRangeSaid : Prop := dotRangeRow.holds Try.pinned (OpenSpec.ofChange dotRangeSpec)

/-- ITS FALSE NEIGHBOUR: 'it returns false'. Refute it at one input. -/
def dotRangeWrong : ChangeSpec := { name := "dotRange", fn := fun _ => fun
  | [d1, d2, d3] => { results := [.lit (.bool false)], args := [d1, d2, d3] }
  | _ => none }
def DotRangeWrongFalsely : Prop := dotRangeRow.holds Try.pinned (OpenSpec.ofChange dotRangeWrong)

/-- 'tranterlaw03.DotOrder': WHATEVER THE INPUT: true; the input reads as it did. -/
def dotOrderSpec : ChangeSpec := { name := "dotOrder", fn := fun _ => fun
  | [d1, d2, d3] => { results := [.lit (.bool true)], args := [d1, d2, d3] }
  | _ => none }
def dotOrderRow : OpenClaim := { program := "ytkklgckpaajoeaa", sum := "0a969aa1711777b04d52230740f57449fc19ccd05336f81aa60973b0261456fb", func := "tranter/tranterlaw03.DotOrder", spec := "dotOrder", unfollowed := true, recurses := true, plainKeys := false, apart := false }
def DotOrderSaid : Prop := dotOrderRow.holds Try.pinned (OpenSpec.ofChange dotOrderSpec)

/-- ITS FALSE NEIGHBOUR: 'it returns false'. Refute it at one input. -/
def dotOrderWrong : ChangeSpec := { name := "dotOrder", fn := fun _ => fun
  | [d1, d2, d3] => { results := [.lit (.bool false)], args := [d1, d2, d3] }
  | _ => none }
def DotOrderWrongFalsely : Prop := dotOrderRow.holds Try.pinned (OpenSpec.ofChange dotOrderWrong)

/-- 'tranterlaw03.DotSets': WHATEVER THE INPUT: true; the input reads as it did. -/
def dotSetsSpec : ChangeSpec := { name := "dotSets", fn := fun _ => fun
  | [d1, d2] => { results := [.lit (.bool true)], args := [d1, d2] }
  | _ => none }
def dotSetsRow : OpenClaim := { program := "ytkklgckpaajoeaa", sum := "0a969aa1711777b04d52230740f57449fc19ccd05336f81aa60973b0261456fb", func := "tranter/tranterlaw03.DotSets", spec := "dotSets", unfollowed := true, recurses := true, plainKeys := false, apart := false }
def DotSetsSaid : Prop := dotSetsRow.holds Try.pinned (OpenSpec.ofChange dotSetsSpec)

/-- ITS FALSE NEIGHBOUR: 'it returns false'. Refute it at one input. -/
def dotSetsWrong : ChangeSpec := { name := "dotSets", fn := fun _ => fun
  | [d1, d2] => { results := [.lit (.bool false)], args := [d1, d2] }
  | _ => none }
def DotSetsWrongFalsely : Prop := dotSetsRow.holds Try.pinned (OpenSpec.ofChange dotSetsWrong)

/-- 'tranterlaw03.DotSums': WHATEVER THE INPUT: true; the input reads as it did. -/
def dotSumsSpec : ChangeSpec := { name := "dotSums", fn := fun _ => fun
  | [d1, d2] => { results := [.lit (.bool true)], args := [d1, d2] }
  | _ => none }
def dotSumsRow : OpenClaim := { program := "ytkklgckpaajoeaa", sum := "0a969aa1711777b04d52230740f57449fc19ccd05336f81aa60973b0261456fb", func := "tranter/tranterlaw03.DotSums", spec := "dotSums", unfollowed := true, recurses := true, plainKeys := false, apart := false }
def DotSumsSaid : Prop := dotSumsRow.holds Try.pinned (OpenSpec.ofChange dotSumsSpec)

/-- ITS FALSE NEIGHBOUR: 'it returns false'. Refute it at one input. -/
def dotSumsWrong : ChangeSpec := { name := "dotSums", fn := fun _ => fun
  | [d1, d2] => { results := [.lit (.bool false)], args := [d1, d2] }
  | _ => none }
def DotSumsWrongFalsely : Prop := dotSumsRow.holds Try.pinned (OpenSpec.ofChange dotSumsWrong)

/- THE SECOND FORM. 'bulk': how many values and letters a reading holds, each counted each time it is reached (what is shared counts as often as it is met; a slice's spare places count too). A statement '..UptoSaid' is the law's where the arguments, and the package variables that the reading takes, are together of bulk at most 1048576: NARROWER than '..Said'. Prove '..Said' where nothing that the law and all that it calls make is longer than what came in: it says more and counts as full. Else prove '..UptoSaid'. A law counts once. -/
mutual
def uptoBulk {H : Type} : DataW H → Nat
  | .lit (.string bytes) => bytes.length + 1
  | .lit _ => 1
  | .nil => 1
  | .ptr d => uptoBulk d + 1
  | .slice elems spare => uptoBulkAll elems + uptoBulkAll spare + 1
  | .agg parts => uptoBulkAll parts + 1
  | .iface _ d => uptoBulk d + 1
  | .map entries => uptoBulkEntries entries + 1
  | .held _ => 1
def uptoBulkAll {H : Type} : List (DataW H) → Nat
  | [] => 0
  | d :: r => uptoBulk d + uptoBulkAll r
def uptoBulkEntries {H : Type} : List (Lit × DataW H) → Nat
  | [] => 0
  | x :: r => uptoBulkEntry x + uptoBulkEntries r
def uptoBulkEntry {H : Type} : Lit × DataW H → Nat
  | (.string bytes, d) => bytes.length + uptoBulk d + 1
  | (_, d) => uptoBulk d + 1
 end
def uptoSmall : (H : Type) → List (DataW H) → Bool := fun _ ds => decide (uptoBulkAll ds ≤ 1048576)
def OpenSpec.upto (s : _root_.Go.ChangeSpec) : _root_.Go.OpenSpec := { _root_.Go.OpenSpec.ofChange s with cond := some uptoSmall }

/-- 'tranterlaw03.DotKeys', WHERE WHAT IT READS IS OF BULK AT MOST 1048576: true; the input reads as it did. -/
def dotKeysUptoRow : OpenClaim := { program := "ytkklgckpaajoeaa", sum := "0a969aa1711777b04d52230740f57449fc19ccd05336f81aa60973b0261456fb", func := "tranter/tranterlaw03.DotKeys", spec := "dotKeys", unfollowed := true, recurses := true, plainKeys := false, apart := false, narrowed := true }
def DotKeysUptoSaid : Prop := dotKeysUptoRow.holds Try.pinned (OpenSpec.upto dotKeysSpec)

/-- 'tranterlaw03.DotRange', WHERE WHAT IT READS IS OF BULK AT MOST 1048576: true; the input reads as it did. -/
def dotRangeUptoRow : OpenClaim := { program := "ytkklgckpaajoeaa", sum := "0a969aa1711777b04d52230740f57449fc19ccd05336f81aa60973b0261456fb", func := "tranter/tranterlaw03.DotRange", spec := "dotRange", unfollowed := true, recurses := true, plainKeys := false, apart := false, narrowed := true }
def DotRangeUptoSaid : Prop := dotRangeUptoRow.holds Try.pinned (OpenSpec.upto dotRangeSpec)

/-- 'tranterlaw03.DotOrder', WHERE WHAT IT READS IS OF BULK AT MOST 1048576: true; the input reads as it did. -/
def dotOrderUptoRow : OpenClaim := { program := "ytkklgckpaajoeaa", sum := "0a969aa1711777b04d52230740f57449fc19ccd05336f81aa60973b0261456fb", func := "tranter/tranterlaw03.DotOrder", spec := "dotOrder", unfollowed := true, recurses := true, plainKeys := false, apart := false, narrowed := true }
def DotOrderUptoSaid : Prop := dotOrderUptoRow.holds Try.pinned (OpenSpec.upto dotOrderSpec)

/-- 'tranterlaw03.DotSets', WHERE WHAT IT READS IS OF BULK AT MOST 1048576: true; the input reads as it did. -/
def dotSetsUptoRow : OpenClaim := { program := "ytkklgckpaajoeaa", sum := "0a969aa1711777b04d52230740f57449fc19ccd05336f81aa60973b0261456fb", func := "tranter/tranterlaw03.DotSets", spec := "dotSets", unfollowed := true, recurses := true, plainKeys := false, apart := false, narrowed := true }
def DotSetsUptoSaid : Prop := dotSetsUptoRow.holds Try.pinned (OpenSpec.upto dotSetsSpec)

/-- 'tranterlaw03.DotSums', WHERE WHAT IT READS IS OF BULK AT MOST 1048576: true; the input reads as it did. -/
def dotSumsUptoRow : OpenClaim := { program := "ytkklgckpaajoeaa", sum := "0a969aa1711777b04d52230740f57449fc19ccd05336f81aa60973b0261456fb", func := "tranter/tranterlaw03.DotSums", spec := "dotSums", unfollowed := true, recurses := true, plainKeys := false, apart := false, narrowed := true }
def DotSumsUptoSaid : Prop := dotSumsUptoRow.holds Try.pinned (OpenSpec.upto dotSumsSpec)

end Rows
end Go.Proofs.Ytkklgckpaajoeaa
