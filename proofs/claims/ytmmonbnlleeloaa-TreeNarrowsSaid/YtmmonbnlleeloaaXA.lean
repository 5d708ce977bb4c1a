/-
  For every row of operations the law of what narrows along chains answers true: the statement.
-/
import Derived.Test.YtmmonbnlleeloaaRows
import Derived.Test.YtmmonbnlleeloaaXF
import Derived.Test.YtmmonbnlleeloaaQ4
import Derived.JoinedCond
set_option linter.unusedSectionVars false
set_option linter.unusedVariables false
set_option linter.unusedSimpArgs false
namespace Go.Proofs.Ytmmonbnlleeloaa
open Go.Sl Go.Proofs

set_option maxRecDepth 100000 in
theorem treeNarrows_fit : ∀ dss, FitAll Try.prog 6 Try.f3.params.toList dss → SB Try.prog 3 (argSVs Try.prog Try.f3.params.toList dss) [] 0 0 fun r F => r = bl true := by
  intro dss h
  rw [show Try.f3.params.toList = [T_L_api_Op] from by kernel_rfl] at h ⊢
  have hl := fitAll_len h
  match dss, hl, h with
  | [x0], _, h =>
    simp only [FitAll] at h
    obtain ⟨h0, _⟩ := h
    obtain ⟨x, l, rfl, hl, hn, hw⟩ := ops_weak (d := 2) h0
    simp only [argSVs, ops_arg]
    exact SB.mono (SB.args (law_narrows l (fun o ho => (hl o ho).1.roles) (fun o ho => (hl o ho).2) hn) rfl (fun p μ M vs hv => hw p μ M [] [] (fun _ h => h) vs hv)) fun r F h => h
open Go.ChangeShapes Go.WideShapes Go.ChangeAt Go.RowKit in
set_option maxRecDepth 100000 in
theorem treeNarrows_step (os : Os) (started : os.Started) (H : Type) (enc : TypeId × Value → H) :
    ReturnsInHanded {} Try.checked os 3 .any (Rows.treeNarrowsSpec.pre6 enc Try.prog Try.f3 Rows.treeNarrowsRow.domain false) (Rows.treeNarrowsSpec.post enc Try.prog Try.f3 false true false false) := by
  refine returnsInHanded_of_change (C := Try.checked) own started (by kernel_rfl) Try.func3
    (ChangeSpec.witness6 (enc := enc) (C := Try.checked) false ⟨#[], #[.slice none 0 0], []⟩ 8 (by kernel_rfl) (by kernel_rfl) (by kernel_rfl) (by kernel_rfl)) ?_
  intro W base args ds gs before hval hW hcnd _
  refine law_calls (f := 3) (fn := Try.f3) (spec := Rows.treeNarrowsSpec) (tb := T_bool) 6 (by kernel_rfl) (by kernel_rfl) rfl (by kernel_rfl) rfl (fun ds hl => ?_) (fun dss hf => ?_) W base args ds gs before hval hW
  · rw [show Try.f3.params.toList.length = 1 from by kernel_rfl] at hl
    match ds, hl with
    | [d0], _ => exact ⟨rfl, rfl, rfl⟩
  · exact treeNarrows_fit dss hf
theorem treeNarrows_j0 : (Rows.treeNarrowsRow.wf (OpenSpec.ofChange Rows.treeNarrowsSpec)) = true := by kernel_rfl
theorem treeNarrows_j3 : (Try.f3.params.all (Try.pinned.checked.prog.readableRec ·)) = true := by kernel_rfl
theorem treeNarrows_j4 : (namedTie Try.pinned.checked.prog Rows.treeNarrowsRow.named Rows.treeNarrowsSpec.vars) = true := by kernel_rfl
theorem treeNarrows_j5 : ((Rows.treeNarrowsRow.stops == [])) = true := by kernel_rfl
theorem treeNarrows_j7 : ((Rows.treeNarrowsRow.knobs == [])) = true := by kernel_rfl
theorem treeNarrows_j9 : ((Rows.treeNarrowsRow.inPlace == Try.pinned.checked.prog.inPlace 3)) = true := by kernel_rfl
theorem treeNarrows_j10 : ((Rows.treeNarrowsRow.unfollowed == Try.pinned.checked.prog.unfollowed 3)) = true := by kernel_rfl
theorem treeNarrows_j11 : ((Rows.treeNarrowsRow.recurses == Try.pinned.checked.prog.recurses 3)) = true := by kernel_rfl
theorem treeNarrows_j12 : ((Rows.treeNarrowsRow.named == Try.pinned.checked.prog.varsNamed 3)) = true := by kernel_rfl
theorem treeNarrows_j13 : ((Rows.treeNarrowsRow.maps == (Try.f3.params.toList ++ Rows.treeNarrowsSpec.plain.varTypes Try.pinned.checked.prog).any (Try.pinned.checked.prog.mapsRec ·))) = true := by kernel_rfl
theorem treeNarrows_j14 : ((Rows.treeNarrowsRow.ifaces == (Try.f3.params.toList ++ Rows.treeNarrowsSpec.plain.varTypes Try.pinned.checked.prog).any (Try.pinned.checked.prog.ifacesRec ·))) = true := by kernel_rfl
theorem treeNarrows_j15 : ((Rows.treeNarrowsRow.mapsOut == Try.pinned.checked.prog.mapsAmong Try.f3.resultTypes.toList)) = true := by kernel_rfl
theorem treeNarrows_j16 : ((Rows.treeNarrowsRow.loops == (Try.f3.params.toList ++ Rows.treeNarrowsSpec.plain.varTypes Try.pinned.checked.prog).any (Try.pinned.checked.prog.loopsFrom ·))) = true := by kernel_rfl
theorem treeNarrows_j17 : ((Rows.treeNarrowsRow.wideKeys == (Try.f3.params.toList ++ Rows.treeNarrowsSpec.plain.varTypes Try.pinned.checked.prog ++ Try.f3.resultTypes.toList).any (Try.pinned.checked.prog.wideKeysFrom ·))) = true := by kernel_rfl
theorem treeNarrows_j18 : (Rows.treeNarrowsSpec.vars.all (Try.pinned.checked.prog.varReadable ·)) = true := by kernel_rfl
theorem treeNarrows_j19 : (Try.f3.resultTypes.all (fun t => Try.pinned.checked.prog.readableRec t && decide (t < Try.pinned.checked.prog.types.size))) = true := by kernel_rfl
theorem treeNarrows_j20 : ((Rows.treeNarrowsRow.ifacesOut == Try.f3.resultTypes.toList.any (Try.pinned.checked.prog.ifacesRec ·))) = true := by kernel_rfl
theorem treeNarrows_j21 : ((Rows.treeNarrowsRow.loopsOut == Try.f3.resultTypes.toList.any (Try.pinned.checked.prog.loopsFrom ·))) = true := by kernel_rfl
theorem treeNarrows_j22 : ((Rows.treeNarrowsRow.plainKeys == Try.pinned.checked.prog.plainKeys)) = true := by kernel_rfl
theorem treeNarrows_j23 : (Rows.treeNarrowsRow.shortTexts.isNone) = true := by kernel_rfl
theorem treeNarrows_j26 : ((Rows.treeNarrowsRow.lifted == Try.pinned.checked.prog.liftsFinal)) = true := by kernel_rfl
theorem treeNarrows_j27 : ((Try.pinned.checked.prog.make == some Rows.treeNarrowsRow.make)) = true := by kernel_rfl
theorem treeNarrows_j28 : ((Rows.treeNarrowsRow.kinds == (if Rows.treeNarrowsRow.domain.isEmpty then [] else Try.f3.params.toList.map fun t => match Try.pinned.checked.prog.underlying t with | some (.int k) => some k | _ => none))) = true := by kernel_rfl
theorem treeNarrows_j29 : ((Rows.treeNarrowsRow.pinned == Rows.treeNarrowsRow.pinnedBy)) = true := by kernel_rfl
theorem treeNarrows_j30 : ((Rows.treeNarrowsRow.veiled == (Try.f3.params.toList ++ Rows.treeNarrowsSpec.plain.varTypes Try.pinned.checked.prog ++ Try.f3.resultTypes.toList).any (Try.pinned.checked.prog.veiledRec ·))) = true := by kernel_rfl
theorem treeNarrows_j31 : (Rows.treeNarrowsRow.veiledFits Try.pinned.checked.prog Try.f3.params.toList (Try.f3.params.toList ++ Rows.treeNarrowsSpec.plain.varTypes Try.pinned.checked.prog ++ Try.f3.resultTypes.toList)) = true := by kernel_rfl
set_option maxRecDepth 100000 in
theorem treeNarrows_closed : joinedFacts Try.pinned.checked.prog 3 Try.f3 Rows.treeNarrowsSpec Rows.treeNarrowsRow = true := (and_tt (and_tt (and_tt (and_tt (and_tt (and_tt (and_tt (and_tt (and_tt (and_tt (and_tt (and_tt (and_tt (and_tt (and_tt (and_tt (and_tt (and_tt (and_tt (and_tt (and_tt (and_tt (and_tt (and_tt (and_tt (and_tt (and_tt (and_tt (and_tt (and_tt (and_tt treeNarrows_j0 jg0) jg1) treeNarrows_j3) treeNarrows_j4) treeNarrows_j5) jg2) treeNarrows_j7) jg3) treeNarrows_j9) treeNarrows_j10) treeNarrows_j11) treeNarrows_j12) treeNarrows_j13) treeNarrows_j14) treeNarrows_j15) treeNarrows_j16) treeNarrows_j17) treeNarrows_j18) treeNarrows_j19) treeNarrows_j20) treeNarrows_j21) treeNarrows_j22) treeNarrows_j23) jg4) jg5) treeNarrows_j26) treeNarrows_j27) treeNarrows_j28) treeNarrows_j29) treeNarrows_j30) treeNarrows_j31)
theorem treeNarrows_holds : Rows.TreeNarrowsSaid :=
  OpenClaim.holds_of_wide 3 Try.f3 rfl rfl rfl rfl rfl rfl rfl ⟨rfl, rfl, rfl, rfl, rfl⟩ rfl rfl rfl rfl rfl (by kernel_rfl) Try.func3 treeNarrows_closed
    (of_decide_eq_true (by kernel_rfl)) (by unfold Func.isWrapper; first | (rw [if_pos (by decide +kernel)]; kernel_rfl) | (rw [if_neg (by decide +kernel)]; exact ⟨rfl, rfl⟩))
    (fun os started H enc _ => treeNarrows_step os started H enc)
end Go.Proofs.Ytmmonbnlleeloaa
