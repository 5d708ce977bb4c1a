/-
  No cell of these rows narrows 'for every input' (looked for: loops, veiled, ifaces, maps, wideKeys, modest, calm, conditions, laid).
  DERIVED. THE GIVEN ROWS OF THIS SEAT. 3 by the template 'for every input the law returns true; each argument reads behind the call as it read before'; 0 by the template 'total and deterministic' (their statements: YtefjaphfnkbbkaaTotals.lean).
  GIVEN WITH THE SEED: the statements are not yours to turn. If you find one false, say at which input.
  Laid BY PROGRAM, IN A SANDBOX (cutbox-rows.mjs): the forced cells as the released guide's own fill.sh prints them over the translation eb72512dc75064c3… (all of the seat's roots in one cut). By AI agents, Wed Nov 11 2026. No macro, syntax, notation, axiom, sorry.
-/
import Derived.Test.YtefjaphfnkbbkaaChecked
import GoSem.Claim
import GoSem.ClaimJoined
import GoSem.ClaimMapViews
import Derived.JoinedTies
import Derived.KernelRfl
namespace Go.Proofs.Ytefjaphfnkbbkaa
/- THE CELL 'sum', in the pinned program and in every row, IS THE sha256 OF THE DUMP (.gsa) THAT YtefjaphfnkbbkaaProg.lean LOADS. Nothing in Lean hashes anything: it is a label: what it is worth is what the hold of that sum in a sandbox is worth. -/
noncomputable def Try.pinned : Pinned := { name := "ytefjaphfnkbbkaa", sum := "eb72512dc75064c3dd33ed4e907d84bcee950a06e0b483be7016bd59ebc25684", checked := Try.checked }
namespace Rows
def none {H : Type} : Left H := { results := [], args := [] }

/-- 'tranterlaw23.ClaimOnce': WHATEVER THE INPUT: true; the input reads as it did. -/
def claimOnceSpec : ChangeSpec := { name := "claimOnce", fn := fun _ => fun
  | [d1, d2, d3] => { results := [.lit (.bool true)], args := [d1, d2, d3] }
  | _ => none }
def claimOnceRow : OpenClaim := { program := "ytefjaphfnkbbkaa", sum := "eb72512dc75064c3dd33ed4e907d84bcee950a06e0b483be7016bd59ebc25684", func := "tranter/tranterlaw23.ClaimOnce", spec := "claimOnce", unfollowed := true, recurses := true, plainKeys := false, apart := false }
def ClaimOnceSaid : Prop := claimOnceRow.holds Try.pinned (OpenSpec.ofChange claimOnceSpec)

/-- ITS FALSE NEIGHBOUR: 'it returns false'. Refute it at one input. -/
def claimOnceWrong : ChangeSpec := { name := "claimOnce", fn := fun _ => fun
  | [d1, d2, d3] => { results := [.lit (.bool false)], args := [d1, d2, d3] }
  | _ => none }
def ClaimOnceWrongFalsely : Prop := claimOnceRow.holds Try.pinned (OpenSpec.ofChange claimOnceWrong)

/-- 'tranterlaw23.ClaimEyes': WHATEVER THE INPUT: true; the input reads as it did. -/
def claimEyesSpec : ChangeSpec := { name := "claimEyes", fn := fun _ => fun
  | [d1, d2, d3] => { results := [.lit (.bool true)], args := [d1, d2, d3] }
  | _ => none }
def claimEyesRow : OpenClaim := { program := "ytefjaphfnkbbkaa", sum := "eb72512dc75064c3dd33ed4e907d84bcee950a06e0b483be7016bd59ebc25684", func := "tranter/tranterlaw23.ClaimEyes", spec := "claimEyes", unfollowed := true, recurses := true, plainKeys := false, apart := false }
def ClaimEyesSaid : Prop := claimEyesRow.holds Try.pinned (OpenSpec.ofChange claimEyesSpec)

/-- ITS FALSE NEIGHBOUR: 'it returns false'. Refute it at one input. -/
def claimEyesWrong : ChangeSpec := { name := "claimEyes", fn := fun _ => fun
  | [d1, d2, d3] => { results := [.lit (.bool false)], args := [d1, d2, d3] }
  | _ => none }
def ClaimEyesWrongFalsely : Prop := claimEyesRow.holds Try.pinned (OpenSpec.ofChange claimEyesWrong)

/-- 'tranterlaw23.ClaimTurned': WHATEVER THE INPUT: true; the input reads as it did. -/
def claimTurnedSpec : ChangeSpec := { name := "claimTurned", fn := fun _ => fun
  | [d1, d2, d3] => { results := [.lit (.bool true)], args := [d1, d2, d3] }
  | _ => none }
def claimTurnedRow : OpenClaim := { program := "ytefjaphfnkbbkaa", sum := "eb72512dc75064c3dd33ed4e907d84bcee950a06e0b483be7016bd59ebc25684", func := "tranter/tranterlaw23.ClaimTurned", spec := "claimTurned", unfollowed := true, recurses := true, plainKeys := false, apart := false }
def ClaimTurnedSaid : Prop := claimTurnedRow.holds Try.pinned (OpenSpec.ofChange claimTurnedSpec)

/-- ITS FALSE NEIGHBOUR: 'it returns false'. Refute it at one input. -/
def claimTurnedWrong : ChangeSpec := { name := "claimTurned", fn := fun _ => fun
  | [d1, d2, d3] => { results := [.lit (.bool false)], args := [d1, d2, d3] }
  | _ => none }
def ClaimTurnedWrongFalsely : Prop := claimTurnedRow.holds Try.pinned (OpenSpec.ofChange claimTurnedWrong)

/- THE SECOND FORM. 'bulk': how many values and letters a reading holds, each counted each time it is reached (what is shared counts as often as it is met; a slice's spare places count too). A statement '..UptoSaid' is the law's where the arguments, and the package variables that the reading takes, are together of bulk at most 1048576: NARROWER than '..Said'. Prove '..Said' where nothing that the law and all that it calls make is longer than what came in: it says more and counts as full. Else prove '..UptoSaid'. A law counts once. -/
mutual
def uptoBulk {H : Type} : DataW H → Nat
  | .lit (.string bytes) => bytes.length + 1
  | .lit _ => 1
  | .nil => 1
  | .ptr d => uptoBulk d + 1
  | .slice elems spare => uptoBulkAll elems + uptoBulkAll spare + 1
  | .agg parts => uptoBulkAll parts + 1
  | .iface _ d => uptoBulk d + 1
  | .map entries => uptoBulkEntries entries + 1
  | .held _ => 1
def uptoBulkAll {H : Type} : List (DataW H) → Nat
  | [] => 0
  | d :: r => uptoBulk d + uptoBulkAll r
def uptoBulkEntries {H : Type} : List (Lit × DataW H) → Nat
  | [] => 0
  | x :: r => uptoBulkEntry x + uptoBulkEntries r
def uptoBulkEntry {H : Type} : Lit × DataW H → Nat
  | (.string bytes, d) => bytes.length + uptoBulk d + 1
  | (_, d) => uptoBulk d + 1
 end
def uptoSmall : (H : Type) → List (DataW H) → Bool := fun _ ds => decide (uptoBulkAll ds ≤ 1048576)
def OpenSpec.upto (s : _root_.Go.ChangeSpec) : _root_.Go.OpenSpec := { _root_.Go.OpenSpec.ofChange s with cond := some uptoSmall }

/-- 'tranterlaw23.ClaimOnce', WHERE WHAT IT READS IS OF BULK AT MOST 1048576: true; the input reads as it did. -/
def claimOnceUptoRow : OpenClaim := { program := "ytefjaphfnkbbkaa", sum := "eb72512dc75064c3dd33ed4e907d84bcee950a06e0b483be7016bd59ebc25684", func := "tranter/tranterlaw23.ClaimOnce", spec := "claimOnce", unfollowed := true, recurses := true, plainKeys := false, apart := false, narrowed := true }
def ClaimOnceUptoSaid : Prop := claimOnceUptoRow.holds Try.pinned (OpenSpec.upto claimOnceSpec)

/-- 'tranterlaw23.ClaimEyes', WHERE WHAT IT READS IS OF BULK AT MOST 1048576: true; the input reads as it did. -/
def claimEyesUptoRow : OpenClaim := { program := "ytefjaphfnkbbkaa", sum := "eb72512dc75064c3dd33ed4e907d84bcee950a06e0b483be7016bd59ebc25684", func := "tranter/tranterlaw23.ClaimEyes", spec := "claimEyes", unfollowed := true, recurses := true, plainKeys := false, apart := false, narrowed := true }
def ClaimEyesUptoSaid : Prop := claimEyesUptoRow.holds Try.pinned (OpenSpec.upto claimEyesSpec)

/-- 'tranterlaw23.ClaimTurned', WHERE WHAT IT READS IS OF BULK AT MOST 1048576: true; the input reads as it did. -/
def claimTurnedUptoRow : OpenClaim := { program := "ytefjaphfnkbbkaa", sum := "eb72512dc75064c3dd33ed4e907d84bcee950a06e0b483be7016bd59ebc25684", func := "tranter/tranterlaw23.ClaimTurned", spec := "claimTurned", unfollowed := true, recurses := true, plainKeys := false, apart := false, narrowed := true }
def ClaimTurnedUptoSaid : Prop := claimTurnedUptoRow.holds Try.pinned (OpenSpec.upto claimTurnedSpec)

end Rows
end Go.Proofs.Ytefjaphfnkbbkaa
