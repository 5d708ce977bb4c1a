/-
  No cell of these rows narrows 'for every input' (looked for: loops, veiled, ifaces, maps, wideKeys, modest, calm, conditions, laid).
  DERIVED. THE GIVEN ROWS OF THIS SEAT. 11 by the template 'for every input the law returns true; each argument reads behind the call as it read before'; 0 by the template 'total and deterministic' (their statements: YtaelhkkjgfobhaaGreatTotals.lean).
  GIVEN WITH THE SEED: the statements are not yours to turn. If you find one false, say at which input.
  Laid BY PROGRAM, IN A SANDBOX (cutbox-rows.mjs): the forced cells as the released guide's own fill.sh prints them over the translation 9a3df4c02abd98c9… (all of the seat's roots in one cut). By AI agents, Wed Nov 11 2026. No macro, syntax, notation, axiom, sorry.
-/
import Derived.Test.YtaelhkkjgfobhaaGreatChecked
import GoSem.Claim
import GoSem.ClaimJoined
import GoSem.ClaimMapViews
import Derived.JoinedTies
import Derived.KernelRfl
namespace Go.Proofs.YtaelhkkjgfobhaaGreat
/- THE CELL 'sum', in the pinned program and in every row, IS THE sha256 OF THE DUMP (.gsa) THAT YtaelhkkjgfobhaaGreatProg.lean LOADS. Nothing in Lean hashes anything: it is a label: what it is worth is what the hold of that sum in a sandbox is worth. -/
noncomputable def Tryz.pinned : Pinned := { name := "ytaelhkkjgfobhaagreat", sum := "9a3df4c02abd98c983a0cd49537aa276b8b209bc5c3ce483f8c9d49e375fa09b", checked := Tryz.checked }
namespace Rows
def none {H : Type} : Left H := { results := [], args := [] }

/-- 'tranterlaw18.RevokeMore': WHATEVER THE INPUT: true; the input reads as it did. -/
def revokeMoreSpec : ChangeSpec := { name := "revokeMore", fn := fun _ => fun
  | [d1, d2, d3] => { results := [.lit (.bool true)], args := [d1, d2, d3] }
  | _ => none }
def revokeMoreRow : OpenClaim := { program := "ytaelhkkjgfobhaagreat", sum := "9a3df4c02abd98c983a0cd49537aa276b8b209bc5c3ce483f8c9d49e375fa09b", func := "tranter/tranterlaw18.RevokeMore", spec := "revokeMore", unfollowed := true, recurses := true, plainKeys := false, apart := false }
def RevokeMoreSaid : Prop := revokeMoreRow.holds Tryz.pinned (OpenSpec.ofChange revokeMoreSpec)

/-- ITS FALSE NEIGHBOUR: 'it returns false'. Refute it at one input. -/
def revokeMoreWrong : ChangeSpec := { name := "revokeMore", fn := fun _ => fun
  | [d1, d2, d3] => { results := [.lit (.bool false)], args := [d1, d2, d3] }
  | _ => none }
def RevokeMoreWrongFalsely : Prop := revokeMoreRow.holds Tryz.pinned (OpenSpec.ofChange revokeMoreWrong)

/-- 'tranterlaw18.RevokeTells': WHATEVER THE INPUT: true; the input reads as it did. -/
def revokeTellsSpec : ChangeSpec := { name := "revokeTells", fn := fun _ => fun
  | [d1, d2] => { results := [.lit (.bool true)], args := [d1, d2] }
  | _ => none }
def revokeTellsRow : OpenClaim := { program := "ytaelhkkjgfobhaagreat", sum := "9a3df4c02abd98c983a0cd49537aa276b8b209bc5c3ce483f8c9d49e375fa09b", func := "tranter/tranterlaw18.RevokeTells", spec := "revokeTells", unfollowed := true, recurses := true, plainKeys := false, apart := false }
def RevokeTellsSaid : Prop := revokeTellsRow.holds Tryz.pinned (OpenSpec.ofChange revokeTellsSpec)

/-- ITS FALSE NEIGHBOUR: 'it returns false'. Refute it at one input. -/
def revokeTellsWrong : ChangeSpec := { name := "revokeTells", fn := fun _ => fun
  | [d1, d2] => { results := [.lit (.bool false)], args := [d1, d2] }
  | _ => none }
def RevokeTellsWrongFalsely : Prop := revokeTellsRow.holds Tryz.pinned (OpenSpec.ofChange revokeTellsWrong)

/-- 'tranterlaw20.FinalTells': WHATEVER THE INPUT: true; the input reads as it did. -/
def finalTellsSpec : ChangeSpec := { name := "finalTells", fn := fun _ => fun
  | [d1, d2, d3] => { results := [.lit (.bool true)], args := [d1, d2, d3] }
  | _ => none }
def finalTellsRow : OpenClaim := { program := "ytaelhkkjgfobhaagreat", sum := "9a3df4c02abd98c983a0cd49537aa276b8b209bc5c3ce483f8c9d49e375fa09b", func := "tranter/tranterlaw20.FinalTells", spec := "finalTells", unfollowed := true, recurses := true, plainKeys := false, apart := false }
def FinalTellsSaid : Prop := finalTellsRow.holds Tryz.pinned (OpenSpec.ofChange finalTellsSpec)

/-- ITS FALSE NEIGHBOUR: 'it returns false'. Refute it at one input. -/
def finalTellsWrong : ChangeSpec := { name := "finalTells", fn := fun _ => fun
  | [d1, d2, d3] => { results := [.lit (.bool false)], args := [d1, d2, d3] }
  | _ => none }
def FinalTellsWrongFalsely : Prop := finalTellsRow.holds Tryz.pinned (OpenSpec.ofChange finalTellsWrong)

/-- 'tranterlaw20.FinalMore': WHATEVER THE INPUT: true; the input reads as it did. -/
def finalMoreSpec : ChangeSpec := { name := "finalMore", fn := fun _ => fun
  | [d1, d2, d3] => { results := [.lit (.bool true)], args := [d1, d2, d3] }
  | _ => none }
def finalMoreRow : OpenClaim := { program := "ytaelhkkjgfobhaagreat", sum := "9a3df4c02abd98c983a0cd49537aa276b8b209bc5c3ce483f8c9d49e375fa09b", func := "tranter/tranterlaw20.FinalMore", spec := "finalMore", unfollowed := true, recurses := true, plainKeys := false, apart := false }
def FinalMoreSaid : Prop := finalMoreRow.holds Tryz.pinned (OpenSpec.ofChange finalMoreSpec)

/-- ITS FALSE NEIGHBOUR: 'it returns false'. Refute it at one input. -/
def finalMoreWrong : ChangeSpec := { name := "finalMore", fn := fun _ => fun
  | [d1, d2, d3] => { results := [.lit (.bool false)], args := [d1, d2, d3] }
  | _ => none }
def FinalMoreWrongFalsely : Prop := finalMoreRow.holds Tryz.pinned (OpenSpec.ofChange finalMoreWrong)

/-- 'tranterlaw20.FinalNothing': WHATEVER THE INPUT: true; the input reads as it did. -/
def finalNothingSpec : ChangeSpec := { name := "finalNothing", fn := fun _ => fun
  | [d1, d2] => { results := [.lit (.bool true)], args := [d1, d2] }
  | _ => none }
def finalNothingRow : OpenClaim := { program := "ytaelhkkjgfobhaagreat", sum := "9a3df4c02abd98c983a0cd49537aa276b8b209bc5c3ce483f8c9d49e375fa09b", func := "tranter/tranterlaw20.FinalNothing", spec := "finalNothing", unfollowed := true, recurses := true, plainKeys := false, apart := false }
def FinalNothingSaid : Prop := finalNothingRow.holds Tryz.pinned (OpenSpec.ofChange finalNothingSpec)

/-- ITS FALSE NEIGHBOUR: 'it returns false'. Refute it at one input. -/
def finalNothingWrong : ChangeSpec := { name := "finalNothing", fn := fun _ => fun
  | [d1, d2] => { results := [.lit (.bool false)], args := [d1, d2] }
  | _ => none }
def FinalNothingWrongFalsely : Prop := finalNothingRow.holds Tryz.pinned (OpenSpec.ofChange finalNothingWrong)

/-- 'tranterlaw20.FinalStays': WHATEVER THE INPUT: true; the input reads as it did. -/
def finalStaysSpec : ChangeSpec := { name := "finalStays", fn := fun _ => fun
  | [d1, d2, d3] => { results := [.lit (.bool true)], args := [d1, d2, d3] }
  | _ => none }
def finalStaysRow : OpenClaim := { program := "ytaelhkkjgfobhaagreat", sum := "9a3df4c02abd98c983a0cd49537aa276b8b209bc5c3ce483f8c9d49e375fa09b", func := "tranter/tranterlaw20.FinalStays", spec := "finalStays", unfollowed := true, recurses := true, plainKeys := false, apart := false }
def FinalStaysSaid : Prop := finalStaysRow.holds Tryz.pinned (OpenSpec.ofChange finalStaysSpec)

/-- ITS FALSE NEIGHBOUR: 'it returns false'. Refute it at one input. -/
def finalStaysWrong : ChangeSpec := { name := "finalStays", fn := fun _ => fun
  | [d1, d2, d3] => { results := [.lit (.bool false)], args := [d1, d2, d3] }
  | _ => none }
def FinalStaysWrongFalsely : Prop := finalStaysRow.holds Tryz.pinned (OpenSpec.ofChange finalStaysWrong)

/-- 'tranterlaw19.VerdictTells': WHATEVER THE INPUT: true; the input reads as it did. -/
def verdictTellsSpec : ChangeSpec := { name := "verdictTells", fn := fun _ => fun
  | [d1, d2] => { results := [.lit (.bool true)], args := [d1, d2] }
  | _ => none }
def verdictTellsRow : OpenClaim := { program := "ytaelhkkjgfobhaagreat", sum := "9a3df4c02abd98c983a0cd49537aa276b8b209bc5c3ce483f8c9d49e375fa09b", func := "tranter/tranterlaw19.VerdictTells", spec := "verdictTells", unfollowed := true, recurses := true, plainKeys := false, apart := false }
def VerdictTellsSaid : Prop := verdictTellsRow.holds Tryz.pinned (OpenSpec.ofChange verdictTellsSpec)

/-- ITS FALSE NEIGHBOUR: 'it returns false'. Refute it at one input. -/
def verdictTellsWrong : ChangeSpec := { name := "verdictTells", fn := fun _ => fun
  | [d1, d2] => { results := [.lit (.bool false)], args := [d1, d2] }
  | _ => none }
def VerdictTellsWrongFalsely : Prop := verdictTellsRow.holds Tryz.pinned (OpenSpec.ofChange verdictTellsWrong)

/-- 'tranterlaw19.VerdictWins': WHATEVER THE INPUT: true; the input reads as it did. -/
def verdictWinsSpec : ChangeSpec := { name := "verdictWins", fn := fun _ => fun
  | [d] => { results := [.lit (.bool true)], args := [d] }
  | _ => none }
def verdictWinsRow : OpenClaim := { program := "ytaelhkkjgfobhaagreat", sum := "9a3df4c02abd98c983a0cd49537aa276b8b209bc5c3ce483f8c9d49e375fa09b", func := "tranter/tranterlaw19.VerdictWins", spec := "verdictWins", unfollowed := true, recurses := true, plainKeys := false, apart := false }
def VerdictWinsSaid : Prop := verdictWinsRow.holds Tryz.pinned (OpenSpec.ofChange verdictWinsSpec)

/-- ITS FALSE NEIGHBOUR: 'it returns false'. Refute it at one input. -/
def verdictWinsWrong : ChangeSpec := { name := "verdictWins", fn := fun _ => fun
  | [d] => { results := [.lit (.bool false)], args := [d] }
  | _ => none }
def VerdictWinsWrongFalsely : Prop := verdictWinsRow.holds Tryz.pinned (OpenSpec.ofChange verdictWinsWrong)

/-- 'tranterlaw19.VerdictLate': WHATEVER THE INPUT: true; the input reads as it did. -/
def verdictLateSpec : ChangeSpec := { name := "verdictLate", fn := fun _ => fun
  | [d1, d2, d3] => { results := [.lit (.bool true)], args := [d1, d2, d3] }
  | _ => none }
def verdictLateRow : OpenClaim := { program := "ytaelhkkjgfobhaagreat", sum := "9a3df4c02abd98c983a0cd49537aa276b8b209bc5c3ce483f8c9d49e375fa09b", func := "tranter/tranterlaw19.VerdictLate", spec := "verdictLate", unfollowed := true, recurses := true, plainKeys := false, apart := false }
def VerdictLateSaid : Prop := verdictLateRow.holds Tryz.pinned (OpenSpec.ofChange verdictLateSpec)

/-- ITS FALSE NEIGHBOUR: 'it returns false'. Refute it at one input. -/
def verdictLateWrong : ChangeSpec := { name := "verdictLate", fn := fun _ => fun
  | [d1, d2, d3] => { results := [.lit (.bool false)], args := [d1, d2, d3] }
  | _ => none }
def VerdictLateWrongFalsely : Prop := verdictLateRow.holds Tryz.pinned (OpenSpec.ofChange verdictLateWrong)

/-- 'tranterlaw19.VerdictTurned': WHATEVER THE INPUT: true; the input reads as it did. -/
def verdictTurnedSpec : ChangeSpec := { name := "verdictTurned", fn := fun _ => fun
  | [d1, d2, d3] => { results := [.lit (.bool true)], args := [d1, d2, d3] }
  | _ => none }
def verdictTurnedRow : OpenClaim := { program := "ytaelhkkjgfobhaagreat", sum := "9a3df4c02abd98c983a0cd49537aa276b8b209bc5c3ce483f8c9d49e375fa09b", func := "tranter/tranterlaw19.VerdictTurned", spec := "verdictTurned", unfollowed := true, recurses := true, plainKeys := false, apart := false }
def VerdictTurnedSaid : Prop := verdictTurnedRow.holds Tryz.pinned (OpenSpec.ofChange verdictTurnedSpec)

/-- ITS FALSE NEIGHBOUR: 'it returns false'. Refute it at one input. -/
def verdictTurnedWrong : ChangeSpec := { name := "verdictTurned", fn := fun _ => fun
  | [d1, d2, d3] => { results := [.lit (.bool false)], args := [d1, d2, d3] }
  | _ => none }
def VerdictTurnedWrongFalsely : Prop := verdictTurnedRow.holds Tryz.pinned (OpenSpec.ofChange verdictTurnedWrong)

/-- 'tranterlaw19.VerdictNone': WHATEVER THE INPUT: true; the input reads as it did. -/
def verdictNoneSpec : ChangeSpec := { name := "verdictNone", fn := fun _ => fun
  | [d] => { results := [.lit (.bool true)], args := [d] }
  | _ => none }
def verdictNoneRow : OpenClaim := { program := "ytaelhkkjgfobhaagreat", sum := "9a3df4c02abd98c983a0cd49537aa276b8b209bc5c3ce483f8c9d49e375fa09b", func := "tranter/tranterlaw19.VerdictNone", spec := "verdictNone", inPlace := ["maps.clone"], unfollowed := true, recurses := true, plainKeys := false, apart := false }
def VerdictNoneSaid : Prop := verdictNoneRow.holds Tryz.pinned (OpenSpec.ofChange verdictNoneSpec)

/-- ITS FALSE NEIGHBOUR: 'it returns false'. Refute it at one input. -/
def verdictNoneWrong : ChangeSpec := { name := "verdictNone", fn := fun _ => fun
  | [d] => { results := [.lit (.bool false)], args := [d] }
  | _ => none }
def VerdictNoneWrongFalsely : Prop := verdictNoneRow.holds Tryz.pinned (OpenSpec.ofChange verdictNoneWrong)

/- THE SECOND FORM. 'bulk': how many values and letters a reading holds, each counted each time it is reached (what is shared counts as often as it is met; a slice's spare places count too). A statement '..UptoSaid' is the law's where the arguments, and the package variables that the reading takes, are together of bulk at most 1048576: NARROWER than '..Said'. Prove '..Said' where nothing that the law and all that it calls make is longer than what came in: it says more and counts as full. Else prove '..UptoSaid'. A law counts once. -/
mutual
def uptoBulk {H : Type} : DataW H → Nat
  | .lit (.string bytes) => bytes.length + 1
  | .lit _ => 1
  | .nil => 1
  | .ptr d => uptoBulk d + 1
  | .slice elems spare => uptoBulkAll elems + uptoBulkAll spare + 1
  | .agg parts => uptoBulkAll parts + 1
  | .iface _ d => uptoBulk d + 1
  | .map entries => uptoBulkEntries entries + 1
  | .held _ => 1
def uptoBulkAll {H : Type} : List (DataW H) → Nat
  | [] => 0
  | d :: r => uptoBulk d + uptoBulkAll r
def uptoBulkEntries {H : Type} : List (Lit × DataW H) → Nat
  | [] => 0
  | x :: r => uptoBulkEntry x + uptoBulkEntries r
def uptoBulkEntry {H : Type} : Lit × DataW H → Nat
  | (.string bytes, d) => bytes.length + uptoBulk d + 1
  | (_, d) => uptoBulk d + 1
 end
def uptoSmall : (H : Type) → List (DataW H) → Bool := fun _ ds => decide (uptoBulkAll ds ≤ 1048576)
def OpenSpec.upto (s : _root_.Go.ChangeSpec) : _root_.Go.OpenSpec := { _root_.Go.OpenSpec.ofChange s with cond := some uptoSmall }

/-- 'tranterlaw18.RevokeMore', WHERE WHAT IT READS IS OF BULK AT MOST 1048576: true; the input reads as it did. -/
def revokeMoreUptoRow : OpenClaim := { program := "ytaelhkkjgfobhaagreat", sum := "9a3df4c02abd98c983a0cd49537aa276b8b209bc5c3ce483f8c9d49e375fa09b", func := "tranter/tranterlaw18.RevokeMore", spec := "revokeMore", unfollowed := true, recurses := true, plainKeys := false, apart := false, narrowed := true }
def RevokeMoreUptoSaid : Prop := revokeMoreUptoRow.holds Tryz.pinned (OpenSpec.upto revokeMoreSpec)

/-- 'tranterlaw18.RevokeTells', WHERE WHAT IT READS IS OF BULK AT MOST 1048576: true; the input reads as it did. -/
def revokeTellsUptoRow : OpenClaim := { program := "ytaelhkkjgfobhaagreat", sum := "9a3df4c02abd98c983a0cd49537aa276b8b209bc5c3ce483f8c9d49e375fa09b", func := "tranter/tranterlaw18.RevokeTells", spec := "revokeTells", unfollowed := true, recurses := true, plainKeys := false, apart := false, narrowed := true }
def RevokeTellsUptoSaid : Prop := revokeTellsUptoRow.holds Tryz.pinned (OpenSpec.upto revokeTellsSpec)

/-- 'tranterlaw20.FinalTells', WHERE WHAT IT READS IS OF BULK AT MOST 1048576: true; the input reads as it did. -/
def finalTellsUptoRow : OpenClaim := { program := "ytaelhkkjgfobhaagreat", sum := "9a3df4c02abd98c983a0cd49537aa276b8b209bc5c3ce483f8c9d49e375fa09b", func := "tranter/tranterlaw20.FinalTells", spec := "finalTells", unfollowed := true, recurses := true, plainKeys := false, apart := false, narrowed := true }
def FinalTellsUptoSaid : Prop := finalTellsUptoRow.holds Tryz.pinned (OpenSpec.upto finalTellsSpec)

/-- 'tranterlaw20.FinalMore', WHERE WHAT IT READS IS OF BULK AT MOST 1048576: true; the input reads as it did. -/
def finalMoreUptoRow : OpenClaim := { program := "ytaelhkkjgfobhaagreat", sum := "9a3df4c02abd98c983a0cd49537aa276b8b209bc5c3ce483f8c9d49e375fa09b", func := "tranter/tranterlaw20.FinalMore", spec := "finalMore", unfollowed := true, recurses := true, plainKeys := false, apart := false, narrowed := true }
def FinalMoreUptoSaid : Prop := finalMoreUptoRow.holds Tryz.pinned (OpenSpec.upto finalMoreSpec)

/-- 'tranterlaw20.FinalNothing', WHERE WHAT IT READS IS OF BULK AT MOST 1048576: true; the input reads as it did. -/
def finalNothingUptoRow : OpenClaim := { program := "ytaelhkkjgfobhaagreat", sum := "9a3df4c02abd98c983a0cd49537aa276b8b209bc5c3ce483f8c9d49e375fa09b", func := "tranter/tranterlaw20.FinalNothing", spec := "finalNothing", unfollowed := true, recurses := true, plainKeys := false, apart := false, narrowed := true }
def FinalNothingUptoSaid : Prop := finalNothingUptoRow.holds Tryz.pinned (OpenSpec.upto finalNothingSpec)

/-- 'tranterlaw20.FinalStays', WHERE WHAT IT READS IS OF BULK AT MOST 1048576: true; the input reads as it did. -/
def finalStaysUptoRow : OpenClaim := { program := "ytaelhkkjgfobhaagreat", sum := "9a3df4c02abd98c983a0cd49537aa276b8b209bc5c3ce483f8c9d49e375fa09b", func := "tranter/tranterlaw20.FinalStays", spec := "finalStays", unfollowed := true, recurses := true, plainKeys := false, apart := false, narrowed := true }
def FinalStaysUptoSaid : Prop := finalStaysUptoRow.holds Tryz.pinned (OpenSpec.upto finalStaysSpec)

/-- 'tranterlaw19.VerdictTells', WHERE WHAT IT READS IS OF BULK AT MOST 1048576: true; the input reads as it did. -/
def verdictTellsUptoRow : OpenClaim := { program := "ytaelhkkjgfobhaagreat", sum := "9a3df4c02abd98c983a0cd49537aa276b8b209bc5c3ce483f8c9d49e375fa09b", func := "tranter/tranterlaw19.VerdictTells", spec := "verdictTells", unfollowed := true, recurses := true, plainKeys := false, apart := false, narrowed := true }
def VerdictTellsUptoSaid : Prop := verdictTellsUptoRow.holds Tryz.pinned (OpenSpec.upto verdictTellsSpec)

/-- 'tranterlaw19.VerdictWins', WHERE WHAT IT READS IS OF BULK AT MOST 1048576: true; the input reads as it did. -/
def verdictWinsUptoRow : OpenClaim := { program := "ytaelhkkjgfobhaagreat", sum := "9a3df4c02abd98c983a0cd49537aa276b8b209bc5c3ce483f8c9d49e375fa09b", func := "tranter/tranterlaw19.VerdictWins", spec := "verdictWins", unfollowed := true, recurses := true, plainKeys := false, apart := false, narrowed := true }
def VerdictWinsUptoSaid : Prop := verdictWinsUptoRow.holds Tryz.pinned (OpenSpec.upto verdictWinsSpec)

/-- 'tranterlaw19.VerdictLate', WHERE WHAT IT READS IS OF BULK AT MOST 1048576: true; the input reads as it did. -/
def verdictLateUptoRow : OpenClaim := { program := "ytaelhkkjgfobhaagreat", sum := "9a3df4c02abd98c983a0cd49537aa276b8b209bc5c3ce483f8c9d49e375fa09b", func := "tranter/tranterlaw19.VerdictLate", spec := "verdictLate", unfollowed := true, recurses := true, plainKeys := false, apart := false, narrowed := true }
def VerdictLateUptoSaid : Prop := verdictLateUptoRow.holds Tryz.pinned (OpenSpec.upto verdictLateSpec)

/-- 'tranterlaw19.VerdictTurned', WHERE WHAT IT READS IS OF BULK AT MOST 1048576: true; the input reads as it did. -/
def verdictTurnedUptoRow : OpenClaim := { program := "ytaelhkkjgfobhaagreat", sum := "9a3df4c02abd98c983a0cd49537aa276b8b209bc5c3ce483f8c9d49e375fa09b", func := "tranter/tranterlaw19.VerdictTurned", spec := "verdictTurned", unfollowed := true, recurses := true, plainKeys := false, apart := false, narrowed := true }
def VerdictTurnedUptoSaid : Prop := verdictTurnedUptoRow.holds Tryz.pinned (OpenSpec.upto verdictTurnedSpec)

/-- 'tranterlaw19.VerdictNone', WHERE WHAT IT READS IS OF BULK AT MOST 1048576: true; the input reads as it did. -/
def verdictNoneUptoRow : OpenClaim := { program := "ytaelhkkjgfobhaagreat", sum := "9a3df4c02abd98c983a0cd49537aa276b8b209bc5c3ce483f8c9d49e375fa09b", func := "tranter/tranterlaw19.VerdictNone", spec := "verdictNone", inPlace := ["maps.clone"], unfollowed := true, recurses := true, plainKeys := false, apart := false, narrowed := true }
def VerdictNoneUptoSaid : Prop := verdictNoneUptoRow.holds Tryz.pinned (OpenSpec.upto verdictNoneSpec)

end Rows
end Go.Proofs.YtaelhkkjgfobhaaGreat
