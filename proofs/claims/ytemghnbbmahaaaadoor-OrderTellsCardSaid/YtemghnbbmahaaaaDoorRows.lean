/-
  NARROWER THAN 'FOR EVERY INPUT', by the rows' own cells (each row's printed sentence says how): OrderBefore: laid · OrderBegins: laid · OrderTells: laid · OrderParts: laid · OrderCuts: laid.
  DERIVED. THE GIVEN ROWS OF THIS SEAT. 5 by the template 'for every input the law returns true; each argument reads behind the call as it read before'; 0 by the template 'total and deterministic' (their statements: YtemghnbbmahaaaaDoorTotals.lean).
  GIVEN WITH THE SEED: the statements are not yours to turn. If you find one false, say at which input.
  Laid BY PROGRAM, IN A SANDBOX (cutbox-rows.mjs): the forced cells as the released guide's own fill.sh prints them over the translation e9643107ea30a2a3… (all of the seat's roots in one cut). By AI agents, Wed Nov 11 2026. No macro, syntax, notation, axiom, sorry.
-/
import Derived.Test.YtemghnbbmahaaaaDoorChecked
import GoSem.Claim
import GoSem.ClaimJoined
import GoSem.ClaimMapViews
import Derived.JoinedTies
import Derived.KernelRfl
namespace Go.Proofs.YtemghnbbmahaaaaDoor
/- THE CELL 'sum', in the pinned program and in every row, IS THE sha256 OF THE DUMP (.gsa) THAT YtemghnbbmahaaaaDoorProg.lean LOADS. Nothing in Lean hashes anything: it is a label: what it is worth is what the hold of that sum in a sandbox is worth. -/
noncomputable def Tryd.pinned : Pinned := { name := "ytemghnbbmahaaaadoor", sum := "e9643107ea30a2a3389d56b3a51ddf368d0d1c94e8ab958ba0860179785817d6", checked := Tryd.checked }
namespace Rows
def none {H : Type} : Left H := { results := [], args := [] }

/- WHAT THE LISTED PACKAGE-LEVEL VARIABLES READ AS WHEN THE CALL BEGINS. Each datum BY PROGRAM (the guide's laid-datum.mjs) off the statement by which the dump's own 'gosem.cut.vars' lays the variable. In a bare row this is a premise. The card (YtemghnbbmahaaaaDoorCards.lean) ties it to the program's text. -/
def laid_tranter_op_kinds {H : Type} : DataW H := .agg [.lit (.int .u8 0), .lit (.int .u8 3), .lit (.int .u8 5), .lit (.int .u8 49), .lit (.int .u8 37), .lit (.int .u8 5), .lit (.int .u8 13), .lit (.int .u8 13), .lit (.int .u8 65)]

/-- 'tranterlaw10.OrderBefore': WHATEVER THE INPUT: true; the input reads as it did. -/
def orderBeforeSpec : ChangeSpec := { name := "orderBefore", fn := fun _ => fun
  | [d1, d2] => { results := [.lit (.bool true)], args := [d1, d2] }
  | _ => none }
def orderBeforeRow : OpenClaim := { program := "ytemghnbbmahaaaadoor", sum := "e9643107ea30a2a3389d56b3a51ddf368d0d1c94e8ab958ba0860179785817d6", func := "tranter/tranterlaw10.OrderBefore", spec := "orderBefore", unfollowed := true, recurses := true, named := ["tranter/op.kinds"], plainKeys := false, apart := false, laid := [("tranter/op.kinds", laid_tranter_op_kinds)] }
def OrderBeforeSaid : Prop := orderBeforeRow.holds Tryd.pinned (OpenSpec.ofChange orderBeforeSpec)

/-- ITS FALSE NEIGHBOUR: 'it returns false'. Refute it at one input. -/
def orderBeforeWrong : ChangeSpec := { name := "orderBefore", fn := fun _ => fun
  | [d1, d2] => { results := [.lit (.bool false)], args := [d1, d2] }
  | _ => none }
def OrderBeforeWrongFalsely : Prop := orderBeforeRow.holds Tryd.pinned (OpenSpec.ofChange orderBeforeWrong)

/-- 'tranterlaw10.OrderBegins': WHATEVER THE INPUT: true; the input reads as it did. -/
def orderBeginsSpec : ChangeSpec := { name := "orderBegins", fn := fun _ => fun
  | [d1, d2, d3] => { results := [.lit (.bool true)], args := [d1, d2, d3] }
  | _ => none }
def orderBeginsRow : OpenClaim := { program := "ytemghnbbmahaaaadoor", sum := "e9643107ea30a2a3389d56b3a51ddf368d0d1c94e8ab958ba0860179785817d6", func := "tranter/tranterlaw10.OrderBegins", spec := "orderBegins", unfollowed := true, recurses := true, named := ["tranter/op.kinds"], plainKeys := false, apart := false, laid := [("tranter/op.kinds", laid_tranter_op_kinds)] }
def OrderBeginsSaid : Prop := orderBeginsRow.holds Tryd.pinned (OpenSpec.ofChange orderBeginsSpec)

/-- ITS FALSE NEIGHBOUR: 'it returns false'. Refute it at one input. -/
def orderBeginsWrong : ChangeSpec := { name := "orderBegins", fn := fun _ => fun
  | [d1, d2, d3] => { results := [.lit (.bool false)], args := [d1, d2, d3] }
  | _ => none }
def OrderBeginsWrongFalsely : Prop := orderBeginsRow.holds Tryd.pinned (OpenSpec.ofChange orderBeginsWrong)

/-- 'tranterlaw10.OrderTells': WHATEVER THE INPUT: true; the input reads as it did. -/
def orderTellsSpec : ChangeSpec := { name := "orderTells", fn := fun _ => fun
  | [d1, d2, d3] => { results := [.lit (.bool true)], args := [d1, d2, d3] }
  | _ => none }
def orderTellsRow : OpenClaim := { program := "ytemghnbbmahaaaadoor", sum := "e9643107ea30a2a3389d56b3a51ddf368d0d1c94e8ab958ba0860179785817d6", func := "tranter/tranterlaw10.OrderTells", spec := "orderTells", unfollowed := true, recurses := true, named := ["tranter/op.kinds"], plainKeys := false, apart := false, laid := [("tranter/op.kinds", laid_tranter_op_kinds)] }
def OrderTellsSaid : Prop := orderTellsRow.holds Tryd.pinned (OpenSpec.ofChange orderTellsSpec)

/-- ITS FALSE NEIGHBOUR: 'it returns false'. Refute it at one input. -/
def orderTellsWrong : ChangeSpec := { name := "orderTells", fn := fun _ => fun
  | [d1, d2, d3] => { results := [.lit (.bool false)], args := [d1, d2, d3] }
  | _ => none }
def OrderTellsWrongFalsely : Prop := orderTellsRow.holds Tryd.pinned (OpenSpec.ofChange orderTellsWrong)

/-- 'tranterlaw10.OrderParts': WHATEVER THE INPUT: true; the input reads as it did. -/
def orderPartsSpec : ChangeSpec := { name := "orderParts", fn := fun _ => fun
  | [d1, d2, d3] => { results := [.lit (.bool true)], args := [d1, d2, d3] }
  | _ => none }
def orderPartsRow : OpenClaim := { program := "ytemghnbbmahaaaadoor", sum := "e9643107ea30a2a3389d56b3a51ddf368d0d1c94e8ab958ba0860179785817d6", func := "tranter/tranterlaw10.OrderParts", spec := "orderParts", unfollowed := true, recurses := true, named := ["tranter/op.kinds"], plainKeys := false, apart := false, laid := [("tranter/op.kinds", laid_tranter_op_kinds)] }
def OrderPartsSaid : Prop := orderPartsRow.holds Tryd.pinned (OpenSpec.ofChange orderPartsSpec)

/-- ITS FALSE NEIGHBOUR: 'it returns false'. Refute it at one input. -/
def orderPartsWrong : ChangeSpec := { name := "orderParts", fn := fun _ => fun
  | [d1, d2, d3] => { results := [.lit (.bool false)], args := [d1, d2, d3] }
  | _ => none }
def OrderPartsWrongFalsely : Prop := orderPartsRow.holds Tryd.pinned (OpenSpec.ofChange orderPartsWrong)

/-- 'tranterlaw10.OrderCuts': WHATEVER THE INPUT: true; the input reads as it did. -/
def orderCutsSpec : ChangeSpec := { name := "orderCuts", fn := fun _ => fun
  | [d1, d2] => { results := [.lit (.bool true)], args := [d1, d2] }
  | _ => none }
def orderCutsRow : OpenClaim := { program := "ytemghnbbmahaaaadoor", sum := "e9643107ea30a2a3389d56b3a51ddf368d0d1c94e8ab958ba0860179785817d6", func := "tranter/tranterlaw10.OrderCuts", spec := "orderCuts", unfollowed := true, recurses := true, named := ["tranter/op.kinds"], plainKeys := false, apart := false, laid := [("tranter/op.kinds", laid_tranter_op_kinds)] }
def OrderCutsSaid : Prop := orderCutsRow.holds Tryd.pinned (OpenSpec.ofChange orderCutsSpec)

/-- ITS FALSE NEIGHBOUR: 'it returns false'. Refute it at one input. -/
def orderCutsWrong : ChangeSpec := { name := "orderCuts", fn := fun _ => fun
  | [d1, d2] => { results := [.lit (.bool false)], args := [d1, d2] }
  | _ => none }
def OrderCutsWrongFalsely : Prop := orderCutsRow.holds Tryd.pinned (OpenSpec.ofChange orderCutsWrong)

/- THE SECOND FORM. 'bulk': how many values and letters a reading holds, each counted each time it is reached (what is shared counts as often as it is met; a slice's spare places count too). A statement '..UptoSaid' is the law's where the arguments, and the package variables that the reading takes, are together of bulk at most 1048576: NARROWER than '..Said'. Prove '..Said' where nothing that the law and all that it calls make is longer than what came in: it says more and counts as full. Else prove '..UptoSaid'. A law counts once. -/
mutual
def uptoBulk {H : Type} : DataW H → Nat
  | .lit (.string bytes) => bytes.length + 1
  | .lit _ => 1
  | .nil => 1
  | .ptr d => uptoBulk d + 1
  | .slice elems spare => uptoBulkAll elems + uptoBulkAll spare + 1
  | .agg parts => uptoBulkAll parts + 1
  | .iface _ d => uptoBulk d + 1
  | .map entries => uptoBulkEntries entries + 1
  | .held _ => 1
def uptoBulkAll {H : Type} : List (DataW H) → Nat
  | [] => 0
  | d :: r => uptoBulk d + uptoBulkAll r
def uptoBulkEntries {H : Type} : List (Lit × DataW H) → Nat
  | [] => 0
  | x :: r => uptoBulkEntry x + uptoBulkEntries r
def uptoBulkEntry {H : Type} : Lit × DataW H → Nat
  | (.string bytes, d) => bytes.length + uptoBulk d + 1
  | (_, d) => uptoBulk d + 1
 end
def uptoSmall : (H : Type) → List (DataW H) → Bool := fun _ ds => decide (uptoBulkAll ds ≤ 1048576)
def OpenSpec.upto (s : _root_.Go.ChangeSpec) : _root_.Go.OpenSpec := { _root_.Go.OpenSpec.ofChange s with cond := some uptoSmall }

/-- 'tranterlaw10.OrderBefore', WHERE WHAT IT READS IS OF BULK AT MOST 1048576: true; the input reads as it did. -/
def orderBeforeUptoRow : OpenClaim := { program := "ytemghnbbmahaaaadoor", sum := "e9643107ea30a2a3389d56b3a51ddf368d0d1c94e8ab958ba0860179785817d6", func := "tranter/tranterlaw10.OrderBefore", spec := "orderBefore", unfollowed := true, recurses := true, named := ["tranter/op.kinds"], plainKeys := false, apart := false, laid := [("tranter/op.kinds", laid_tranter_op_kinds)], narrowed := true }
def OrderBeforeUptoSaid : Prop := orderBeforeUptoRow.holds Tryd.pinned (OpenSpec.upto orderBeforeSpec)

/-- 'tranterlaw10.OrderBegins', WHERE WHAT IT READS IS OF BULK AT MOST 1048576: true; the input reads as it did. -/
def orderBeginsUptoRow : OpenClaim := { program := "ytemghnbbmahaaaadoor", sum := "e9643107ea30a2a3389d56b3a51ddf368d0d1c94e8ab958ba0860179785817d6", func := "tranter/tranterlaw10.OrderBegins", spec := "orderBegins", unfollowed := true, recurses := true, named := ["tranter/op.kinds"], plainKeys := false, apart := false, laid := [("tranter/op.kinds", laid_tranter_op_kinds)], narrowed := true }
def OrderBeginsUptoSaid : Prop := orderBeginsUptoRow.holds Tryd.pinned (OpenSpec.upto orderBeginsSpec)

/-- 'tranterlaw10.OrderTells', WHERE WHAT IT READS IS OF BULK AT MOST 1048576: true; the input reads as it did. -/
def orderTellsUptoRow : OpenClaim := { program := "ytemghnbbmahaaaadoor", sum := "e9643107ea30a2a3389d56b3a51ddf368d0d1c94e8ab958ba0860179785817d6", func := "tranter/tranterlaw10.OrderTells", spec := "orderTells", unfollowed := true, recurses := true, named := ["tranter/op.kinds"], plainKeys := false, apart := false, laid := [("tranter/op.kinds", laid_tranter_op_kinds)], narrowed := true }
def OrderTellsUptoSaid : Prop := orderTellsUptoRow.holds Tryd.pinned (OpenSpec.upto orderTellsSpec)

/-- 'tranterlaw10.OrderParts', WHERE WHAT IT READS IS OF BULK AT MOST 1048576: true; the input reads as it did. -/
def orderPartsUptoRow : OpenClaim := { program := "ytemghnbbmahaaaadoor", sum := "e9643107ea30a2a3389d56b3a51ddf368d0d1c94e8ab958ba0860179785817d6", func := "tranter/tranterlaw10.OrderParts", spec := "orderParts", unfollowed := true, recurses := true, named := ["tranter/op.kinds"], plainKeys := false, apart := false, laid := [("tranter/op.kinds", laid_tranter_op_kinds)], narrowed := true }
def OrderPartsUptoSaid : Prop := orderPartsUptoRow.holds Tryd.pinned (OpenSpec.upto orderPartsSpec)

/-- 'tranterlaw10.OrderCuts', WHERE WHAT IT READS IS OF BULK AT MOST 1048576: true; the input reads as it did. -/
def orderCutsUptoRow : OpenClaim := { program := "ytemghnbbmahaaaadoor", sum := "e9643107ea30a2a3389d56b3a51ddf368d0d1c94e8ab958ba0860179785817d6", func := "tranter/tranterlaw10.OrderCuts", spec := "orderCuts", unfollowed := true, recurses := true, named := ["tranter/op.kinds"], plainKeys := false, apart := false, laid := [("tranter/op.kinds", laid_tranter_op_kinds)], narrowed := true }
def OrderCutsUptoSaid : Prop := orderCutsUptoRow.holds Tryd.pinned (OpenSpec.upto orderCutsSpec)

end Rows
end Go.Proofs.YtemghnbbmahaaaaDoor
