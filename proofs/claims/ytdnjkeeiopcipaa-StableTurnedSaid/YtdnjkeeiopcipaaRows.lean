/-
  No cell of these rows narrows 'for every input' (looked for: loops, veiled, ifaces, maps, wideKeys, modest, calm, conditions, laid).
  DERIVED. THE GIVEN ROWS OF THIS SEAT. 10 by the template 'for every input the law returns true; each argument reads behind the call as it read before'; 0 by the template 'total and deterministic' (their statements: YtdnjkeeiopcipaaTotals.lean).
  GIVEN WITH THE SEED: the statements are not yours to turn. If you find one false, say at which input.
  Laid BY PROGRAM, IN A SANDBOX (cutbox-rows.mjs): the forced cells as the released guide's own fill.sh prints them over the translation fce14a24573924fa… (all of the seat's roots in one cut). By AI agents, Wed Nov 11 2026. No macro, syntax, notation, axiom, sorry.
-/
import Derived.Test.YtdnjkeeiopcipaaChecked
import GoSem.Claim
import GoSem.ClaimJoined
import GoSem.ClaimMapViews
import Derived.JoinedTies
import Derived.KernelRfl
namespace Go.Proofs.Ytdnjkeeiopcipaa
/- THE CELL 'sum', in the pinned program and in every row, IS THE sha256 OF THE DUMP (.gsa) THAT YtdnjkeeiopcipaaProg.lean LOADS. Nothing in Lean hashes anything: it is a label: what it is worth is what the hold of that sum in a sandbox is worth. -/
noncomputable def Try.pinned : Pinned := { name := "ytdnjkeeiopcipaa", sum := "fce14a24573924fa94df7844fbbb627acd69adf1ec665183ed44d4c852a2b846", checked := Try.checked }
namespace Rows
def none {H : Type} : Left H := { results := [], args := [] }

/-- 'tranterlaw12.StableTurned': WHATEVER THE INPUT: true; the input reads as it did. -/
def stableTurnedSpec : ChangeSpec := { name := "stableTurned", fn := fun _ => fun
  | [d1, d2, d3] => { results := [.lit (.bool true)], args := [d1, d2, d3] }
  | _ => none }
def stableTurnedRow : OpenClaim := { program := "ytdnjkeeiopcipaa", sum := "fce14a24573924fa94df7844fbbb627acd69adf1ec665183ed44d4c852a2b846", func := "tranter/tranterlaw12.StableTurned", spec := "stableTurned", unfollowed := true, recurses := true, plainKeys := false, apart := false }
def StableTurnedSaid : Prop := stableTurnedRow.holds Try.pinned (OpenSpec.ofChange stableTurnedSpec)

/-- ITS FALSE NEIGHBOUR: 'it returns false'. Refute it at one input. -/
def stableTurnedWrong : ChangeSpec := { name := "stableTurned", fn := fun _ => fun
  | [d1, d2, d3] => { results := [.lit (.bool false)], args := [d1, d2, d3] }
  | _ => none }
def StableTurnedWrongFalsely : Prop := stableTurnedRow.holds Try.pinned (OpenSpec.ofChange stableTurnedWrong)

/-- 'tranterlaw12.StableSafe': WHATEVER THE INPUT: true; the input reads as it did. -/
def stableSafeSpec : ChangeSpec := { name := "stableSafe", fn := fun _ => fun
  | [d1, d2, d3] => { results := [.lit (.bool true)], args := [d1, d2, d3] }
  | _ => none }
def stableSafeRow : OpenClaim := { program := "ytdnjkeeiopcipaa", sum := "fce14a24573924fa94df7844fbbb627acd69adf1ec665183ed44d4c852a2b846", func := "tranter/tranterlaw12.StableSafe", spec := "stableSafe", unfollowed := true, recurses := true, plainKeys := false, apart := false }
def StableSafeSaid : Prop := stableSafeRow.holds Try.pinned (OpenSpec.ofChange stableSafeSpec)

/-- ITS FALSE NEIGHBOUR: 'it returns false'. Refute it at one input. -/
def stableSafeWrong : ChangeSpec := { name := "stableSafe", fn := fun _ => fun
  | [d1, d2, d3] => { results := [.lit (.bool false)], args := [d1, d2, d3] }
  | _ => none }
def StableSafeWrongFalsely : Prop := stableSafeRow.holds Try.pinned (OpenSpec.ofChange stableSafeWrong)

/-- 'tranterlaw04.VectorRows': WHATEVER THE INPUT: true; the input reads as it did. -/
def vectorRowsSpec : ChangeSpec := { name := "vectorRows", fn := fun _ => fun
  | [d] => { results := [.lit (.bool true)], args := [d] }
  | _ => none }
def vectorRowsRow : OpenClaim := { program := "ytdnjkeeiopcipaa", sum := "fce14a24573924fa94df7844fbbb627acd69adf1ec665183ed44d4c852a2b846", func := "tranter/tranterlaw04.VectorRows", spec := "vectorRows", unfollowed := true, recurses := true, plainKeys := false, apart := false }
def VectorRowsSaid : Prop := vectorRowsRow.holds Try.pinned (OpenSpec.ofChange vectorRowsSpec)

/-- ITS FALSE NEIGHBOUR: 'it returns false'. Refute it at one input. -/
def vectorRowsWrong : ChangeSpec := { name := "vectorRows", fn := fun _ => fun
  | [d] => { results := [.lit (.bool false)], args := [d] }
  | _ => none }
def VectorRowsWrongFalsely : Prop := vectorRowsRow.holds Try.pinned (OpenSpec.ofChange vectorRowsWrong)

/-- 'tranterlaw04.VectorLeast': WHATEVER THE INPUT: true; the input reads as it did. -/
def vectorLeastSpec : ChangeSpec := { name := "vectorLeast", fn := fun _ => fun
  | [d1, d2, d3] => { results := [.lit (.bool true)], args := [d1, d2, d3] }
  | _ => none }
def vectorLeastRow : OpenClaim := { program := "ytdnjkeeiopcipaa", sum := "fce14a24573924fa94df7844fbbb627acd69adf1ec665183ed44d4c852a2b846", func := "tranter/tranterlaw04.VectorLeast", spec := "vectorLeast", unfollowed := true, recurses := true, plainKeys := false, apart := false }
def VectorLeastSaid : Prop := vectorLeastRow.holds Try.pinned (OpenSpec.ofChange vectorLeastSpec)

/-- ITS FALSE NEIGHBOUR: 'it returns false'. Refute it at one input. -/
def vectorLeastWrong : ChangeSpec := { name := "vectorLeast", fn := fun _ => fun
  | [d1, d2, d3] => { results := [.lit (.bool false)], args := [d1, d2, d3] }
  | _ => none }
def VectorLeastWrongFalsely : Prop := vectorLeastRow.holds Try.pinned (OpenSpec.ofChange vectorLeastWrong)

/-- 'tranterlaw04.VectorCovers': WHATEVER THE INPUT: true; the input reads as it did. -/
def vectorCoversSpec : ChangeSpec := { name := "vectorCovers", fn := fun _ => fun
  | [d1, d2, d3] => { results := [.lit (.bool true)], args := [d1, d2, d3] }
  | _ => none }
def vectorCoversRow : OpenClaim := { program := "ytdnjkeeiopcipaa", sum := "fce14a24573924fa94df7844fbbb627acd69adf1ec665183ed44d4c852a2b846", func := "tranter/tranterlaw04.VectorCovers", spec := "vectorCovers", unfollowed := true, recurses := true, plainKeys := false, apart := false }
def VectorCoversSaid : Prop := vectorCoversRow.holds Try.pinned (OpenSpec.ofChange vectorCoversSpec)

/-- ITS FALSE NEIGHBOUR: 'it returns false'. Refute it at one input. -/
def vectorCoversWrong : ChangeSpec := { name := "vectorCovers", fn := fun _ => fun
  | [d1, d2, d3] => { results := [.lit (.bool false)], args := [d1, d2, d3] }
  | _ => none }
def VectorCoversWrongFalsely : Prop := vectorCoversRow.holds Try.pinned (OpenSpec.ofChange vectorCoversWrong)

/-- 'tranterlaw04.VectorLacks': WHATEVER THE INPUT: true; the input reads as it did. -/
def vectorLacksSpec : ChangeSpec := { name := "vectorLacks", fn := fun _ => fun
  | [d1, d2] => { results := [.lit (.bool true)], args := [d1, d2] }
  | _ => none }
def vectorLacksRow : OpenClaim := { program := "ytdnjkeeiopcipaa", sum := "fce14a24573924fa94df7844fbbb627acd69adf1ec665183ed44d4c852a2b846", func := "tranter/tranterlaw04.VectorLacks", spec := "vectorLacks", unfollowed := true, recurses := true, plainKeys := false, apart := false }
def VectorLacksSaid : Prop := vectorLacksRow.holds Try.pinned (OpenSpec.ofChange vectorLacksSpec)

/-- ITS FALSE NEIGHBOUR: 'it returns false'. Refute it at one input. -/
def vectorLacksWrong : ChangeSpec := { name := "vectorLacks", fn := fun _ => fun
  | [d1, d2] => { results := [.lit (.bool false)], args := [d1, d2] }
  | _ => none }
def VectorLacksWrongFalsely : Prop := vectorLacksRow.holds Try.pinned (OpenSpec.ofChange vectorLacksWrong)

/-- 'tranterlaw04.VectorTells': WHATEVER THE INPUT: true; the input reads as it did. -/
def vectorTellsSpec : ChangeSpec := { name := "vectorTells", fn := fun _ => fun
  | [d1, d2, d3] => { results := [.lit (.bool true)], args := [d1, d2, d3] }
  | _ => none }
def vectorTellsRow : OpenClaim := { program := "ytdnjkeeiopcipaa", sum := "fce14a24573924fa94df7844fbbb627acd69adf1ec665183ed44d4c852a2b846", func := "tranter/tranterlaw04.VectorTells", spec := "vectorTells", unfollowed := true, recurses := true, plainKeys := false, apart := false }
def VectorTellsSaid : Prop := vectorTellsRow.holds Try.pinned (OpenSpec.ofChange vectorTellsSpec)

/-- ITS FALSE NEIGHBOUR: 'it returns false'. Refute it at one input. -/
def vectorTellsWrong : ChangeSpec := { name := "vectorTells", fn := fun _ => fun
  | [d1, d2, d3] => { results := [.lit (.bool false)], args := [d1, d2, d3] }
  | _ => none }
def VectorTellsWrongFalsely : Prop := vectorTellsRow.holds Try.pinned (OpenSpec.ofChange vectorTellsWrong)

/-- 'tranterlaw12.StableGrows': WHATEVER THE INPUT: true; the input reads as it did. -/
def stableGrowsSpec : ChangeSpec := { name := "stableGrows", fn := fun _ => fun
  | [d1, d2, d3] => { results := [.lit (.bool true)], args := [d1, d2, d3] }
  | _ => none }
def stableGrowsRow : OpenClaim := { program := "ytdnjkeeiopcipaa", sum := "fce14a24573924fa94df7844fbbb627acd69adf1ec665183ed44d4c852a2b846", func := "tranter/tranterlaw12.StableGrows", spec := "stableGrows", inPlace := ["maps.clone"], unfollowed := true, recurses := true, plainKeys := false, apart := false }
def StableGrowsSaid : Prop := stableGrowsRow.holds Try.pinned (OpenSpec.ofChange stableGrowsSpec)

/-- ITS FALSE NEIGHBOUR: 'it returns false'. Refute it at one input. -/
def stableGrowsWrong : ChangeSpec := { name := "stableGrows", fn := fun _ => fun
  | [d1, d2, d3] => { results := [.lit (.bool false)], args := [d1, d2, d3] }
  | _ => none }
def StableGrowsWrongFalsely : Prop := stableGrowsRow.holds Try.pinned (OpenSpec.ofChange stableGrowsWrong)

/-- 'tranterlaw12.StablePlays': WHATEVER THE INPUT: true; the input reads as it did. -/
def stablePlaysSpec : ChangeSpec := { name := "stablePlays", fn := fun _ => fun
  | [d1, d2, d3] => { results := [.lit (.bool true)], args := [d1, d2, d3] }
  | _ => none }
def stablePlaysRow : OpenClaim := { program := "ytdnjkeeiopcipaa", sum := "fce14a24573924fa94df7844fbbb627acd69adf1ec665183ed44d4c852a2b846", func := "tranter/tranterlaw12.StablePlays", spec := "stablePlays", inPlace := ["maps.clone"], unfollowed := true, recurses := true, plainKeys := false, apart := false }
def StablePlaysSaid : Prop := stablePlaysRow.holds Try.pinned (OpenSpec.ofChange stablePlaysSpec)

/-- ITS FALSE NEIGHBOUR: 'it returns false'. Refute it at one input. -/
def stablePlaysWrong : ChangeSpec := { name := "stablePlays", fn := fun _ => fun
  | [d1, d2, d3] => { results := [.lit (.bool false)], args := [d1, d2, d3] }
  | _ => none }
def StablePlaysWrongFalsely : Prop := stablePlaysRow.holds Try.pinned (OpenSpec.ofChange stablePlaysWrong)

/-- 'tranterlaw12.StableNone': WHATEVER THE INPUT: true; the input reads as it did. -/
def stableNoneSpec : ChangeSpec := { name := "stableNone", fn := fun _ => fun
  | [d1, d2] => { results := [.lit (.bool true)], args := [d1, d2] }
  | _ => none }
def stableNoneRow : OpenClaim := { program := "ytdnjkeeiopcipaa", sum := "fce14a24573924fa94df7844fbbb627acd69adf1ec665183ed44d4c852a2b846", func := "tranter/tranterlaw12.StableNone", spec := "stableNone", inPlace := ["maps.clone"], unfollowed := true, recurses := true, plainKeys := false, apart := false }
def StableNoneSaid : Prop := stableNoneRow.holds Try.pinned (OpenSpec.ofChange stableNoneSpec)

/-- ITS FALSE NEIGHBOUR: 'it returns false'. Refute it at one input. -/
def stableNoneWrong : ChangeSpec := { name := "stableNone", fn := fun _ => fun
  | [d1, d2] => { results := [.lit (.bool false)], args := [d1, d2] }
  | _ => none }
def StableNoneWrongFalsely : Prop := stableNoneRow.holds Try.pinned (OpenSpec.ofChange stableNoneWrong)

/- THE SECOND FORM. 'bulk': how many values and letters a reading holds, each counted each time it is reached (what is shared counts as often as it is met; a slice's spare places count too). A statement '..UptoSaid' is the law's where the arguments, and the package variables that the reading takes, are together of bulk at most 1048576: NARROWER than '..Said'. Prove '..Said' where nothing that the law and all that it calls make is longer than what came in: it says more and counts as full. Else prove '..UptoSaid'. A law counts once. -/
mutual
def uptoBulk {H : Type} : DataW H → Nat
  | .lit (.string bytes) => bytes.length + 1
  | .lit _ => 1
  | .nil => 1
  | .ptr d => uptoBulk d + 1
  | .slice elems spare => uptoBulkAll elems + uptoBulkAll spare + 1
  | .agg parts => uptoBulkAll parts + 1
  | .iface _ d => uptoBulk d + 1
  | .map entries => uptoBulkEntries entries + 1
  | .held _ => 1
def uptoBulkAll {H : Type} : List (DataW H) → Nat
  | [] => 0
  | d :: r => uptoBulk d + uptoBulkAll r
def uptoBulkEntries {H : Type} : List (Lit × DataW H) → Nat
  | [] => 0
  | x :: r => uptoBulkEntry x + uptoBulkEntries r
def uptoBulkEntry {H : Type} : Lit × DataW H → Nat
  | (.string bytes, d) => bytes.length + uptoBulk d + 1
  | (_, d) => uptoBulk d + 1
 end
def uptoSmall : (H : Type) → List (DataW H) → Bool := fun _ ds => decide (uptoBulkAll ds ≤ 1048576)
def OpenSpec.upto (s : _root_.Go.ChangeSpec) : _root_.Go.OpenSpec := { _root_.Go.OpenSpec.ofChange s with cond := some uptoSmall }

/-- 'tranterlaw12.StableTurned', WHERE WHAT IT READS IS OF BULK AT MOST 1048576: true; the input reads as it did. -/
def stableTurnedUptoRow : OpenClaim := { program := "ytdnjkeeiopcipaa", sum := "fce14a24573924fa94df7844fbbb627acd69adf1ec665183ed44d4c852a2b846", func := "tranter/tranterlaw12.StableTurned", spec := "stableTurned", unfollowed := true, recurses := true, plainKeys := false, apart := false, narrowed := true }
def StableTurnedUptoSaid : Prop := stableTurnedUptoRow.holds Try.pinned (OpenSpec.upto stableTurnedSpec)

/-- 'tranterlaw12.StableSafe', WHERE WHAT IT READS IS OF BULK AT MOST 1048576: true; the input reads as it did. -/
def stableSafeUptoRow : OpenClaim := { program := "ytdnjkeeiopcipaa", sum := "fce14a24573924fa94df7844fbbb627acd69adf1ec665183ed44d4c852a2b846", func := "tranter/tranterlaw12.StableSafe", spec := "stableSafe", unfollowed := true, recurses := true, plainKeys := false, apart := false, narrowed := true }
def StableSafeUptoSaid : Prop := stableSafeUptoRow.holds Try.pinned (OpenSpec.upto stableSafeSpec)

/-- 'tranterlaw04.VectorRows', WHERE WHAT IT READS IS OF BULK AT MOST 1048576: true; the input reads as it did. -/
def vectorRowsUptoRow : OpenClaim := { program := "ytdnjkeeiopcipaa", sum := "fce14a24573924fa94df7844fbbb627acd69adf1ec665183ed44d4c852a2b846", func := "tranter/tranterlaw04.VectorRows", spec := "vectorRows", unfollowed := true, recurses := true, plainKeys := false, apart := false, narrowed := true }
def VectorRowsUptoSaid : Prop := vectorRowsUptoRow.holds Try.pinned (OpenSpec.upto vectorRowsSpec)

/-- 'tranterlaw04.VectorLeast', WHERE WHAT IT READS IS OF BULK AT MOST 1048576: true; the input reads as it did. -/
def vectorLeastUptoRow : OpenClaim := { program := "ytdnjkeeiopcipaa", sum := "fce14a24573924fa94df7844fbbb627acd69adf1ec665183ed44d4c852a2b846", func := "tranter/tranterlaw04.VectorLeast", spec := "vectorLeast", unfollowed := true, recurses := true, plainKeys := false, apart := false, narrowed := true }
def VectorLeastUptoSaid : Prop := vectorLeastUptoRow.holds Try.pinned (OpenSpec.upto vectorLeastSpec)

/-- 'tranterlaw04.VectorCovers', WHERE WHAT IT READS IS OF BULK AT MOST 1048576: true; the input reads as it did. -/
def vectorCoversUptoRow : OpenClaim := { program := "ytdnjkeeiopcipaa", sum := "fce14a24573924fa94df7844fbbb627acd69adf1ec665183ed44d4c852a2b846", func := "tranter/tranterlaw04.VectorCovers", spec := "vectorCovers", unfollowed := true, recurses := true, plainKeys := false, apart := false, narrowed := true }
def VectorCoversUptoSaid : Prop := vectorCoversUptoRow.holds Try.pinned (OpenSpec.upto vectorCoversSpec)

/-- 'tranterlaw04.VectorLacks', WHERE WHAT IT READS IS OF BULK AT MOST 1048576: true; the input reads as it did. -/
def vectorLacksUptoRow : OpenClaim := { program := "ytdnjkeeiopcipaa", sum := "fce14a24573924fa94df7844fbbb627acd69adf1ec665183ed44d4c852a2b846", func := "tranter/tranterlaw04.VectorLacks", spec := "vectorLacks", unfollowed := true, recurses := true, plainKeys := false, apart := false, narrowed := true }
def VectorLacksUptoSaid : Prop := vectorLacksUptoRow.holds Try.pinned (OpenSpec.upto vectorLacksSpec)

/-- 'tranterlaw04.VectorTells', WHERE WHAT IT READS IS OF BULK AT MOST 1048576: true; the input reads as it did. -/
def vectorTellsUptoRow : OpenClaim := { program := "ytdnjkeeiopcipaa", sum := "fce14a24573924fa94df7844fbbb627acd69adf1ec665183ed44d4c852a2b846", func := "tranter/tranterlaw04.VectorTells", spec := "vectorTells", unfollowed := true, recurses := true, plainKeys := false, apart := false, narrowed := true }
def VectorTellsUptoSaid : Prop := vectorTellsUptoRow.holds Try.pinned (OpenSpec.upto vectorTellsSpec)

/-- 'tranterlaw12.StableGrows', WHERE WHAT IT READS IS OF BULK AT MOST 1048576: true; the input reads as it did. -/
def stableGrowsUptoRow : OpenClaim := { program := "ytdnjkeeiopcipaa", sum := "fce14a24573924fa94df7844fbbb627acd69adf1ec665183ed44d4c852a2b846", func := "tranter/tranterlaw12.StableGrows", spec := "stableGrows", inPlace := ["maps.clone"], unfollowed := true, recurses := true, plainKeys := false, apart := false, narrowed := true }
def StableGrowsUptoSaid : Prop := stableGrowsUptoRow.holds Try.pinned (OpenSpec.upto stableGrowsSpec)

/-- 'tranterlaw12.StablePlays', WHERE WHAT IT READS IS OF BULK AT MOST 1048576: true; the input reads as it did. -/
def stablePlaysUptoRow : OpenClaim := { program := "ytdnjkeeiopcipaa", sum := "fce14a24573924fa94df7844fbbb627acd69adf1ec665183ed44d4c852a2b846", func := "tranter/tranterlaw12.StablePlays", spec := "stablePlays", inPlace := ["maps.clone"], unfollowed := true, recurses := true, plainKeys := false, apart := false, narrowed := true }
def StablePlaysUptoSaid : Prop := stablePlaysUptoRow.holds Try.pinned (OpenSpec.upto stablePlaysSpec)

/-- 'tranterlaw12.StableNone', WHERE WHAT IT READS IS OF BULK AT MOST 1048576: true; the input reads as it did. -/
def stableNoneUptoRow : OpenClaim := { program := "ytdnjkeeiopcipaa", sum := "fce14a24573924fa94df7844fbbb627acd69adf1ec665183ed44d4c852a2b846", func := "tranter/tranterlaw12.StableNone", spec := "stableNone", inPlace := ["maps.clone"], unfollowed := true, recurses := true, plainKeys := false, apart := false, narrowed := true }
def StableNoneUptoSaid : Prop := stableNoneUptoRow.holds Try.pinned (OpenSpec.upto stableNoneSpec)

end Rows
end Go.Proofs.Ytdnjkeeiopcipaa
