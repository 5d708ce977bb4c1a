/-
  No cell of these rows narrows 'for every input' (looked for: loops, veiled, ifaces, maps, wideKeys, modest, calm, conditions, laid).
  DERIVED. THE GIVEN ROWS OF THIS SEAT. 4 by the template 'for every input the law returns true; each argument reads behind the call as it read before'; 0 by the template 'total and deterministic' (their statements: YtlgfknfdfnaedaaGreatTotals.lean).
  GIVEN WITH THE SEED: the statements are not yours to turn. If you find one false, say at which input.
  Laid BY PROGRAM, IN A SANDBOX (cutbox-rows.mjs): the forced cells as the released guide's own fill.sh prints them over the translation df5923e162c989a8… (all of the seat's roots in one cut). By AI agents, Wed Nov 11 2026. No macro, syntax, notation, axiom, sorry.
-/
import Derived.Test.YtlgfknfdfnaedaaGreatChecked
import GoSem.Claim
import GoSem.ClaimJoined
import GoSem.ClaimMapViews
import Derived.JoinedTies
import Derived.KernelRfl
namespace Go.Proofs.YtlgfknfdfnaedaaGreat
/- THE CELL 'sum', in the pinned program and in every row, IS THE sha256 OF THE DUMP (.gsa) THAT YtlgfknfdfnaedaaGreatProg.lean LOADS. Nothing in Lean hashes anything: it is a label: what it is worth is what the hold of that sum in a sandbox is worth. -/
noncomputable def Tryz.pinned : Pinned := { name := "ytlgfknfdfnaedaagreat", sum := "df5923e162c989a84f5d010251a05947fce1ea2e777edc6a364bfdd613546189", checked := Tryz.checked }
namespace Rows
def none {H : Type} : Left H := { results := [], args := [] }

/-- 'tranterlaw17.ShapeTells': WHATEVER THE INPUT: true; the input reads as it did. -/
def shapeTellsSpec : ChangeSpec := { name := "shapeTells", fn := fun _ => fun
  | [d1, d2, d3] => { results := [.lit (.bool true)], args := [d1, d2, d3] }
  | _ => none }
def shapeTellsRow : OpenClaim := { program := "ytlgfknfdfnaedaagreat", sum := "df5923e162c989a84f5d010251a05947fce1ea2e777edc6a364bfdd613546189", func := "tranter/tranterlaw17.ShapeTells", spec := "shapeTells", unfollowed := true, recurses := true, plainKeys := false, apart := false }
def ShapeTellsSaid : Prop := shapeTellsRow.holds Tryz.pinned (OpenSpec.ofChange shapeTellsSpec)

/-- ITS FALSE NEIGHBOUR: 'it returns false'. Refute it at one input. -/
def shapeTellsWrong : ChangeSpec := { name := "shapeTells", fn := fun _ => fun
  | [d1, d2, d3] => { results := [.lit (.bool false)], args := [d1, d2, d3] }
  | _ => none }
def ShapeTellsWrongFalsely : Prop := shapeTellsRow.holds Tryz.pinned (OpenSpec.ofChange shapeTellsWrong)

/-- 'tranterlaw18.RevokeLevels': WHATEVER THE INPUT: true; the input reads as it did. -/
def revokeLevelsSpec : ChangeSpec := { name := "revokeLevels", fn := fun _ => fun
  | [d] => { results := [.lit (.bool true)], args := [d] }
  | _ => none }
def revokeLevelsRow : OpenClaim := { program := "ytlgfknfdfnaedaagreat", sum := "df5923e162c989a84f5d010251a05947fce1ea2e777edc6a364bfdd613546189", func := "tranter/tranterlaw18.RevokeLevels", spec := "revokeLevels", unfollowed := true, recurses := true, plainKeys := false, apart := false }
def RevokeLevelsSaid : Prop := revokeLevelsRow.holds Tryz.pinned (OpenSpec.ofChange revokeLevelsSpec)

/-- ITS FALSE NEIGHBOUR: 'it returns false'. Refute it at one input. -/
def revokeLevelsWrong : ChangeSpec := { name := "revokeLevels", fn := fun _ => fun
  | [d] => { results := [.lit (.bool false)], args := [d] }
  | _ => none }
def RevokeLevelsWrongFalsely : Prop := revokeLevelsRow.holds Tryz.pinned (OpenSpec.ofChange revokeLevelsWrong)

/-- 'tranterlaw18.RevokeMore': WHATEVER THE INPUT: true; the input reads as it did. -/
def revokeMoreSpec : ChangeSpec := { name := "revokeMore", fn := fun _ => fun
  | [d1, d2, d3] => { results := [.lit (.bool true)], args := [d1, d2, d3] }
  | _ => none }
def revokeMoreRow : OpenClaim := { program := "ytlgfknfdfnaedaagreat", sum := "df5923e162c989a84f5d010251a05947fce1ea2e777edc6a364bfdd613546189", func := "tranter/tranterlaw18.RevokeMore", spec := "revokeMore", unfollowed := true, recurses := true, plainKeys := false, apart := false }
def RevokeMoreSaid : Prop := revokeMoreRow.holds Tryz.pinned (OpenSpec.ofChange revokeMoreSpec)

/-- ITS FALSE NEIGHBOUR: 'it returns false'. Refute it at one input. -/
def revokeMoreWrong : ChangeSpec := { name := "revokeMore", fn := fun _ => fun
  | [d1, d2, d3] => { results := [.lit (.bool false)], args := [d1, d2, d3] }
  | _ => none }
def RevokeMoreWrongFalsely : Prop := revokeMoreRow.holds Tryz.pinned (OpenSpec.ofChange revokeMoreWrong)

/-- 'tranterlaw18.RevokeTells': WHATEVER THE INPUT: true; the input reads as it did. -/
def revokeTellsSpec : ChangeSpec := { name := "revokeTells", fn := fun _ => fun
  | [d1, d2] => { results := [.lit (.bool true)], args := [d1, d2] }
  | _ => none }
def revokeTellsRow : OpenClaim := { program := "ytlgfknfdfnaedaagreat", sum := "df5923e162c989a84f5d010251a05947fce1ea2e777edc6a364bfdd613546189", func := "tranter/tranterlaw18.RevokeTells", spec := "revokeTells", unfollowed := true, recurses := true, plainKeys := false, apart := false }
def RevokeTellsSaid : Prop := revokeTellsRow.holds Tryz.pinned (OpenSpec.ofChange revokeTellsSpec)

/-- ITS FALSE NEIGHBOUR: 'it returns false'. Refute it at one input. -/
def revokeTellsWrong : ChangeSpec := { name := "revokeTells", fn := fun _ => fun
  | [d1, d2] => { results := [.lit (.bool false)], args := [d1, d2] }
  | _ => none }
def RevokeTellsWrongFalsely : Prop := revokeTellsRow.holds Tryz.pinned (OpenSpec.ofChange revokeTellsWrong)

/- THE SECOND FORM. 'bulk': how many values and letters a reading holds, each counted each time it is reached (what is shared counts as often as it is met; a slice's spare places count too). A statement '..UptoSaid' is the law's where the arguments, and the package variables that the reading takes, are together of bulk at most 1048576: NARROWER than '..Said'. Prove '..Said' where nothing that the law and all that it calls make is longer than what came in: it says more and counts as full. Else prove '..UptoSaid'. A law counts once. -/
mutual
def uptoBulk {H : Type} : DataW H → Nat
  | .lit (.string bytes) => bytes.length + 1
  | .lit _ => 1
  | .nil => 1
  | .ptr d => uptoBulk d + 1
  | .slice elems spare => uptoBulkAll elems + uptoBulkAll spare + 1
  | .agg parts => uptoBulkAll parts + 1
  | .iface _ d => uptoBulk d + 1
  | .map entries => uptoBulkEntries entries + 1
  | .held _ => 1
def uptoBulkAll {H : Type} : List (DataW H) → Nat
  | [] => 0
  | d :: r => uptoBulk d + uptoBulkAll r
def uptoBulkEntries {H : Type} : List (Lit × DataW H) → Nat
  | [] => 0
  | x :: r => uptoBulkEntry x + uptoBulkEntries r
def uptoBulkEntry {H : Type} : Lit × DataW H → Nat
  | (.string bytes, d) => bytes.length + uptoBulk d + 1
  | (_, d) => uptoBulk d + 1
 end
def uptoSmall : (H : Type) → List (DataW H) → Bool := fun _ ds => decide (uptoBulkAll ds ≤ 1048576)
def OpenSpec.upto (s : _root_.Go.ChangeSpec) : _root_.Go.OpenSpec := { _root_.Go.OpenSpec.ofChange s with cond := some uptoSmall }

/-- 'tranterlaw17.ShapeTells', WHERE WHAT IT READS IS OF BULK AT MOST 1048576: true; the input reads as it did. -/
def shapeTellsUptoRow : OpenClaim := { program := "ytlgfknfdfnaedaagreat", sum := "df5923e162c989a84f5d010251a05947fce1ea2e777edc6a364bfdd613546189", func := "tranter/tranterlaw17.ShapeTells", spec := "shapeTells", unfollowed := true, recurses := true, plainKeys := false, apart := false, narrowed := true }
def ShapeTellsUptoSaid : Prop := shapeTellsUptoRow.holds Tryz.pinned (OpenSpec.upto shapeTellsSpec)

/-- 'tranterlaw18.RevokeLevels', WHERE WHAT IT READS IS OF BULK AT MOST 1048576: true; the input reads as it did. -/
def revokeLevelsUptoRow : OpenClaim := { program := "ytlgfknfdfnaedaagreat", sum := "df5923e162c989a84f5d010251a05947fce1ea2e777edc6a364bfdd613546189", func := "tranter/tranterlaw18.RevokeLevels", spec := "revokeLevels", unfollowed := true, recurses := true, plainKeys := false, apart := false, narrowed := true }
def RevokeLevelsUptoSaid : Prop := revokeLevelsUptoRow.holds Tryz.pinned (OpenSpec.upto revokeLevelsSpec)

/-- 'tranterlaw18.RevokeMore', WHERE WHAT IT READS IS OF BULK AT MOST 1048576: true; the input reads as it did. -/
def revokeMoreUptoRow : OpenClaim := { program := "ytlgfknfdfnaedaagreat", sum := "df5923e162c989a84f5d010251a05947fce1ea2e777edc6a364bfdd613546189", func := "tranter/tranterlaw18.RevokeMore", spec := "revokeMore", unfollowed := true, recurses := true, plainKeys := false, apart := false, narrowed := true }
def RevokeMoreUptoSaid : Prop := revokeMoreUptoRow.holds Tryz.pinned (OpenSpec.upto revokeMoreSpec)

/-- 'tranterlaw18.RevokeTells', WHERE WHAT IT READS IS OF BULK AT MOST 1048576: true; the input reads as it did. -/
def revokeTellsUptoRow : OpenClaim := { program := "ytlgfknfdfnaedaagreat", sum := "df5923e162c989a84f5d010251a05947fce1ea2e777edc6a364bfdd613546189", func := "tranter/tranterlaw18.RevokeTells", spec := "revokeTells", unfollowed := true, recurses := true, plainKeys := false, apart := false, narrowed := true }
def RevokeTellsUptoSaid : Prop := revokeTellsUptoRow.holds Tryz.pinned (OpenSpec.upto revokeTellsSpec)

end Rows
end Go.Proofs.YtlgfknfdfnaedaaGreat
