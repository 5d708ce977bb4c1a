/-
  NARROWER THAN 'FOR EVERY INPUT', by the rows' own cells (each row's printed sentence says how): BufferParts: laid · BufferOrders: laid · BufferPlays: laid · BufferNone: laid · BufferWhole: laid.
  DERIVED. THE GIVEN ROWS OF THIS SEAT. 5 by the template 'for every input the law returns true; each argument reads behind the call as it read before'; 0 by the template 'total and deterministic' (their statements: YtnakpdoioammhaaDoorTotals.lean).
  GIVEN WITH THE SEED: the statements are not yours to turn. If you find one false, say at which input.
  Laid BY PROGRAM, IN A SANDBOX (cutbox-rows.mjs): the forced cells as the released guide's own fill.sh prints them over the translation 871c05cb6c22e99f… (all of the seat's roots in one cut). By AI agents, Wed Nov 11 2026. No macro, syntax, notation, axiom, sorry.
-/
import Derived.Test.YtnakpdoioammhaaDoorChecked
import GoSem.Claim
import GoSem.ClaimJoined
import GoSem.ClaimMapViews
import Derived.JoinedTies
import Derived.KernelRfl
namespace Go.Proofs.YtnakpdoioammhaaDoor
/- THE CELL 'sum', in the pinned program and in every row, IS THE sha256 OF THE DUMP (.gsa) THAT YtnakpdoioammhaaDoorProg.lean LOADS. Nothing in Lean hashes anything: it is a label: what it is worth is what the hold of that sum in a sandbox is worth. -/
noncomputable def Tryd.pinned : Pinned := { name := "ytnakpdoioammhaadoor", sum := "871c05cb6c22e99f7b5bf012d7ffca078ae2a8c3863e7a6f5710c2311979a409", checked := Tryd.checked }
namespace Rows
def none {H : Type} : Left H := { results := [], args := [] }

/- WHAT THE LISTED PACKAGE-LEVEL VARIABLES READ AS WHEN THE CALL BEGINS. Each datum BY PROGRAM (the guide's laid-datum.mjs) off the statement by which the dump's own 'gosem.cut.vars' lays the variable. In a bare row this is a premise. The card (YtnakpdoioammhaaDoorCards.lean) ties it to the program's text. -/
def laid_tranter_op_kinds {H : Type} : DataW H := .agg [.lit (.int .u8 0), .lit (.int .u8 3), .lit (.int .u8 5), .lit (.int .u8 49), .lit (.int .u8 37), .lit (.int .u8 5), .lit (.int .u8 13), .lit (.int .u8 13), .lit (.int .u8 65)]

/-- 'tranterlaw11.BufferParts': WHATEVER THE INPUT: true; the input reads as it did. -/
def bufferPartsSpec : ChangeSpec := { name := "bufferParts", fn := fun _ => fun
  | [d1, d2, d3] => { results := [.lit (.bool true)], args := [d1, d2, d3] }
  | _ => none }
def bufferPartsRow : OpenClaim := { program := "ytnakpdoioammhaadoor", sum := "871c05cb6c22e99f7b5bf012d7ffca078ae2a8c3863e7a6f5710c2311979a409", func := "tranter/tranterlaw11.BufferParts", spec := "bufferParts", unfollowed := true, recurses := true, named := ["tranter/op.kinds"], plainKeys := false, apart := false, laid := [("tranter/op.kinds", laid_tranter_op_kinds)] }
def BufferPartsSaid : Prop := bufferPartsRow.holds Tryd.pinned (OpenSpec.ofChange bufferPartsSpec)

/-- ITS FALSE NEIGHBOUR: 'it returns false'. Refute it at one input. -/
def bufferPartsWrong : ChangeSpec := { name := "bufferParts", fn := fun _ => fun
  | [d1, d2, d3] => { results := [.lit (.bool false)], args := [d1, d2, d3] }
  | _ => none }
def BufferPartsWrongFalsely : Prop := bufferPartsRow.holds Tryd.pinned (OpenSpec.ofChange bufferPartsWrong)

/-- 'tranterlaw11.BufferOrders': WHATEVER THE INPUT: true; the input reads as it did. -/
def bufferOrdersSpec : ChangeSpec := { name := "bufferOrders", fn := fun _ => fun
  | [d1, d2, d3] => { results := [.lit (.bool true)], args := [d1, d2, d3] }
  | _ => none }
def bufferOrdersRow : OpenClaim := { program := "ytnakpdoioammhaadoor", sum := "871c05cb6c22e99f7b5bf012d7ffca078ae2a8c3863e7a6f5710c2311979a409", func := "tranter/tranterlaw11.BufferOrders", spec := "bufferOrders", unfollowed := true, recurses := true, named := ["tranter/op.kinds"], plainKeys := false, apart := false, laid := [("tranter/op.kinds", laid_tranter_op_kinds)] }
def BufferOrdersSaid : Prop := bufferOrdersRow.holds Tryd.pinned (OpenSpec.ofChange bufferOrdersSpec)

/-- ITS FALSE NEIGHBOUR: 'it returns false'. Refute it at one input. -/
def bufferOrdersWrong : ChangeSpec := { name := "bufferOrders", fn := fun _ => fun
  | [d1, d2, d3] => { results := [.lit (.bool false)], args := [d1, d2, d3] }
  | _ => none }
def BufferOrdersWrongFalsely : Prop := bufferOrdersRow.holds Tryd.pinned (OpenSpec.ofChange bufferOrdersWrong)

/-- 'tranterlaw11.BufferPlays': WHATEVER THE INPUT: true; the input reads as it did. -/
def bufferPlaysSpec : ChangeSpec := { name := "bufferPlays", fn := fun _ => fun
  | [d1, d2, d3] => { results := [.lit (.bool true)], args := [d1, d2, d3] }
  | _ => none }
def bufferPlaysRow : OpenClaim := { program := "ytnakpdoioammhaadoor", sum := "871c05cb6c22e99f7b5bf012d7ffca078ae2a8c3863e7a6f5710c2311979a409", func := "tranter/tranterlaw11.BufferPlays", spec := "bufferPlays", inPlace := ["maps.clone"], unfollowed := true, recurses := true, named := ["tranter/op.kinds"], plainKeys := false, apart := false, laid := [("tranter/op.kinds", laid_tranter_op_kinds)] }
def BufferPlaysSaid : Prop := bufferPlaysRow.holds Tryd.pinned (OpenSpec.ofChange bufferPlaysSpec)

/-- ITS FALSE NEIGHBOUR: 'it returns false'. Refute it at one input. -/
def bufferPlaysWrong : ChangeSpec := { name := "bufferPlays", fn := fun _ => fun
  | [d1, d2, d3] => { results := [.lit (.bool false)], args := [d1, d2, d3] }
  | _ => none }
def BufferPlaysWrongFalsely : Prop := bufferPlaysRow.holds Tryd.pinned (OpenSpec.ofChange bufferPlaysWrong)

/-- 'tranterlaw11.BufferNone': WHATEVER THE INPUT: true; the input reads as it did. -/
def bufferNoneSpec : ChangeSpec := { name := "bufferNone", fn := fun _ => fun
  | [d] => { results := [.lit (.bool true)], args := [d] }
  | _ => none }
def bufferNoneRow : OpenClaim := { program := "ytnakpdoioammhaadoor", sum := "871c05cb6c22e99f7b5bf012d7ffca078ae2a8c3863e7a6f5710c2311979a409", func := "tranter/tranterlaw11.BufferNone", spec := "bufferNone", inPlace := ["maps.clone"], unfollowed := true, recurses := true, named := ["tranter/op.kinds"], plainKeys := false, apart := false, laid := [("tranter/op.kinds", laid_tranter_op_kinds)] }
def BufferNoneSaid : Prop := bufferNoneRow.holds Tryd.pinned (OpenSpec.ofChange bufferNoneSpec)

/-- ITS FALSE NEIGHBOUR: 'it returns false'. Refute it at one input. -/
def bufferNoneWrong : ChangeSpec := { name := "bufferNone", fn := fun _ => fun
  | [d] => { results := [.lit (.bool false)], args := [d] }
  | _ => none }
def BufferNoneWrongFalsely : Prop := bufferNoneRow.holds Tryd.pinned (OpenSpec.ofChange bufferNoneWrong)

/-- 'tranterlaw11.BufferWhole': WHATEVER THE INPUT: true; the input reads as it did. -/
def bufferWholeSpec : ChangeSpec := { name := "bufferWhole", fn := fun _ => fun
  | [d1, d2, d3] => { results := [.lit (.bool true)], args := [d1, d2, d3] }
  | _ => none }
def bufferWholeRow : OpenClaim := { program := "ytnakpdoioammhaadoor", sum := "871c05cb6c22e99f7b5bf012d7ffca078ae2a8c3863e7a6f5710c2311979a409", func := "tranter/tranterlaw11.BufferWhole", spec := "bufferWhole", unfollowed := true, recurses := true, named := ["tranter/op.kinds"], plainKeys := false, apart := false, laid := [("tranter/op.kinds", laid_tranter_op_kinds)] }
def BufferWholeSaid : Prop := bufferWholeRow.holds Tryd.pinned (OpenSpec.ofChange bufferWholeSpec)

/-- ITS FALSE NEIGHBOUR: 'it returns false'. Refute it at one input. -/
def bufferWholeWrong : ChangeSpec := { name := "bufferWhole", fn := fun _ => fun
  | [d1, d2, d3] => { results := [.lit (.bool false)], args := [d1, d2, d3] }
  | _ => none }
def BufferWholeWrongFalsely : Prop := bufferWholeRow.holds Tryd.pinned (OpenSpec.ofChange bufferWholeWrong)

/- THE SECOND FORM. 'bulk': how many values and letters a reading holds, each counted each time it is reached (what is shared counts as often as it is met; a slice's spare places count too). A statement '..UptoSaid' is the law's where the arguments, and the package variables that the reading takes, are together of bulk at most 1048576: NARROWER than '..Said'. Prove '..Said' where nothing that the law and all that it calls make is longer than what came in: it says more and counts as full. Else prove '..UptoSaid'. A law counts once. -/
mutual
def uptoBulk {H : Type} : DataW H → Nat
  | .lit (.string bytes) => bytes.length + 1
  | .lit _ => 1
  | .nil => 1
  | .ptr d => uptoBulk d + 1
  | .slice elems spare => uptoBulkAll elems + uptoBulkAll spare + 1
  | .agg parts => uptoBulkAll parts + 1
  | .iface _ d => uptoBulk d + 1
  | .map entries => uptoBulkEntries entries + 1
  | .held _ => 1
def uptoBulkAll {H : Type} : List (DataW H) → Nat
  | [] => 0
  | d :: r => uptoBulk d + uptoBulkAll r
def uptoBulkEntries {H : Type} : List (Lit × DataW H) → Nat
  | [] => 0
  | x :: r => uptoBulkEntry x + uptoBulkEntries r
def uptoBulkEntry {H : Type} : Lit × DataW H → Nat
  | (.string bytes, d) => bytes.length + uptoBulk d + 1
  | (_, d) => uptoBulk d + 1
 end
def uptoSmall : (H : Type) → List (DataW H) → Bool := fun _ ds => decide (uptoBulkAll ds ≤ 1048576)
def OpenSpec.upto (s : _root_.Go.ChangeSpec) : _root_.Go.OpenSpec := { _root_.Go.OpenSpec.ofChange s with cond := some uptoSmall }

/-- 'tranterlaw11.BufferParts', WHERE WHAT IT READS IS OF BULK AT MOST 1048576: true; the input reads as it did. -/
def bufferPartsUptoRow : OpenClaim := { program := "ytnakpdoioammhaadoor", sum := "871c05cb6c22e99f7b5bf012d7ffca078ae2a8c3863e7a6f5710c2311979a409", func := "tranter/tranterlaw11.BufferParts", spec := "bufferParts", unfollowed := true, recurses := true, named := ["tranter/op.kinds"], plainKeys := false, apart := false, laid := [("tranter/op.kinds", laid_tranter_op_kinds)], narrowed := true }
def BufferPartsUptoSaid : Prop := bufferPartsUptoRow.holds Tryd.pinned (OpenSpec.upto bufferPartsSpec)

/-- 'tranterlaw11.BufferOrders', WHERE WHAT IT READS IS OF BULK AT MOST 1048576: true; the input reads as it did. -/
def bufferOrdersUptoRow : OpenClaim := { program := "ytnakpdoioammhaadoor", sum := "871c05cb6c22e99f7b5bf012d7ffca078ae2a8c3863e7a6f5710c2311979a409", func := "tranter/tranterlaw11.BufferOrders", spec := "bufferOrders", unfollowed := true, recurses := true, named := ["tranter/op.kinds"], plainKeys := false, apart := false, laid := [("tranter/op.kinds", laid_tranter_op_kinds)], narrowed := true }
def BufferOrdersUptoSaid : Prop := bufferOrdersUptoRow.holds Tryd.pinned (OpenSpec.upto bufferOrdersSpec)

/-- 'tranterlaw11.BufferPlays', WHERE WHAT IT READS IS OF BULK AT MOST 1048576: true; the input reads as it did. -/
def bufferPlaysUptoRow : OpenClaim := { program := "ytnakpdoioammhaadoor", sum := "871c05cb6c22e99f7b5bf012d7ffca078ae2a8c3863e7a6f5710c2311979a409", func := "tranter/tranterlaw11.BufferPlays", spec := "bufferPlays", inPlace := ["maps.clone"], unfollowed := true, recurses := true, named := ["tranter/op.kinds"], plainKeys := false, apart := false, laid := [("tranter/op.kinds", laid_tranter_op_kinds)], narrowed := true }
def BufferPlaysUptoSaid : Prop := bufferPlaysUptoRow.holds Tryd.pinned (OpenSpec.upto bufferPlaysSpec)

/-- 'tranterlaw11.BufferNone', WHERE WHAT IT READS IS OF BULK AT MOST 1048576: true; the input reads as it did. -/
def bufferNoneUptoRow : OpenClaim := { program := "ytnakpdoioammhaadoor", sum := "871c05cb6c22e99f7b5bf012d7ffca078ae2a8c3863e7a6f5710c2311979a409", func := "tranter/tranterlaw11.BufferNone", spec := "bufferNone", inPlace := ["maps.clone"], unfollowed := true, recurses := true, named := ["tranter/op.kinds"], plainKeys := false, apart := false, laid := [("tranter/op.kinds", laid_tranter_op_kinds)], narrowed := true }
def BufferNoneUptoSaid : Prop := bufferNoneUptoRow.holds Tryd.pinned (OpenSpec.upto bufferNoneSpec)

/-- 'tranterlaw11.BufferWhole', WHERE WHAT IT READS IS OF BULK AT MOST 1048576: true; the input reads as it did. -/
def bufferWholeUptoRow : OpenClaim := { program := "ytnakpdoioammhaadoor", sum := "871c05cb6c22e99f7b5bf012d7ffca078ae2a8c3863e7a6f5710c2311979a409", func := "tranter/tranterlaw11.BufferWhole", spec := "bufferWhole", unfollowed := true, recurses := true, named := ["tranter/op.kinds"], plainKeys := false, apart := false, laid := [("tranter/op.kinds", laid_tranter_op_kinds)], narrowed := true }
def BufferWholeUptoSaid : Prop := bufferWholeUptoRow.holds Tryd.pinned (OpenSpec.upto bufferWholeSpec)

end Rows
end Go.Proofs.YtnakpdoioammhaaDoor
