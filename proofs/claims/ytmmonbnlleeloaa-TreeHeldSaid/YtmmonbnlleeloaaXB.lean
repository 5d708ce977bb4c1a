/-
  For every row of operations the law of who holds what answers true: the statement.
-/
import Derived.Test.YtmmonbnlleeloaaRows
import Derived.Test.YtmmonbnlleeloaaXF
import Derived.Test.YtmmonbnlleeloaaQ5
import Derived.JoinedCond
set_option linter.unusedSectionVars false
set_option linter.unusedVariables false
set_option linter.unusedSimpArgs false
namespace Go.Proofs.Ytmmonbnlleeloaa
open Go.Sl Go.Proofs

set_option maxRecDepth 100000 in
theorem treeHeld_fit : ∀ dss, FitAll Try.prog 6 Try.f9.params.toList dss → SB Try.prog 9 (argSVs Try.prog Try.f9.params.toList dss) [] 0 0 fun r F => r = bl true := by
  intro dss h
  rw [show Try.f9.params.toList = [T_L_api_Op] from by kernel_rfl] at h ⊢
  have hl := fitAll_len h
  match dss, hl, h with
  | [x0], _, h =>
    simp only [FitAll] at h
    obtain ⟨h0, _⟩ := h
    obtain ⟨x, l, rfl, hl, hn, hw⟩ := ops_weak (d := 2) h0
    simp only [argSVs, ops_arg]
    exact SB.mono (SB.args (law_held l (fun o ho => ⟨(hl o ho).1.who, (hl o ho).1.to⟩) (fun o ho => (hl o ho).2) hn) rfl (fun p μ M vs hv => hw p μ M [] [] (fun _ h => h) vs hv)) fun r F h => h
open Go.ChangeShapes Go.WideShapes Go.ChangeAt Go.RowKit in
set_option maxRecDepth 100000 in
theorem treeHeld_step (os : Os) (started : os.Started) (H : Type) (enc : TypeId × Value → H) :
    ReturnsInHanded {} Try.checked os 9 .any (Rows.treeHeldSpec.pre6 enc Try.prog Try.f9 Rows.treeHeldRow.domain false) (Rows.treeHeldSpec.post enc Try.prog Try.f9 false true false false) := by
  refine returnsInHanded_of_change (C := Try.checked) own started (by kernel_rfl) Try.func9
    (ChangeSpec.witness6 (enc := enc) (C := Try.checked) false ⟨#[], #[.slice none 0 0], []⟩ 8 (by kernel_rfl) (by kernel_rfl) (by kernel_rfl) (by kernel_rfl)) ?_
  intro W base args ds gs before hval hW hcnd _
  refine law_calls (f := 9) (fn := Try.f9) (spec := Rows.treeHeldSpec) (tb := T_bool) 6 (by kernel_rfl) (by kernel_rfl) rfl (by kernel_rfl) rfl (fun ds hl => ?_) (fun dss hf => ?_) W base args ds gs before hval hW
  · rw [show Try.f9.params.toList.length = 1 from by kernel_rfl] at hl
    match ds, hl with
    | [d0], _ => exact ⟨rfl, rfl, rfl⟩
  · exact treeHeld_fit dss hf
theorem treeHeld_j0 : (Rows.treeHeldRow.wf (OpenSpec.ofChange Rows.treeHeldSpec)) = true := by kernel_rfl
theorem treeHeld_j3 : (Try.f9.params.all (Try.pinned.checked.prog.readableRec ·)) = true := by kernel_rfl
theorem treeHeld_j4 : (namedTie Try.pinned.checked.prog Rows.treeHeldRow.named Rows.treeHeldSpec.vars) = true := by kernel_rfl
theorem treeHeld_j5 : ((Rows.treeHeldRow.stops == [])) = true := by kernel_rfl
theorem treeHeld_j7 : ((Rows.treeHeldRow.knobs == [])) = true := by kernel_rfl
theorem treeHeld_j9 : ((Rows.treeHeldRow.inPlace == Try.pinned.checked.prog.inPlace 9)) = true := by kernel_rfl
theorem treeHeld_j10 : ((Rows.treeHeldRow.unfollowed == Try.pinned.checked.prog.unfollowed 9)) = true := by kernel_rfl
theorem treeHeld_j11 : ((Rows.treeHeldRow.recurses == Try.pinned.checked.prog.recurses 9)) = true := by kernel_rfl
theorem treeHeld_j12 : ((Rows.treeHeldRow.named == Try.pinned.checked.prog.varsNamed 9)) = true := by kernel_rfl
theorem treeHeld_j13 : ((Rows.treeHeldRow.maps == (Try.f9.params.toList ++ Rows.treeHeldSpec.plain.varTypes Try.pinned.checked.prog).any (Try.pinned.checked.prog.mapsRec ·))) = true := by kernel_rfl
theorem treeHeld_j14 : ((Rows.treeHeldRow.ifaces == (Try.f9.params.toList ++ Rows.treeHeldSpec.plain.varTypes Try.pinned.checked.prog).any (Try.pinned.checked.prog.ifacesRec ·))) = true := by kernel_rfl
theorem treeHeld_j15 : ((Rows.treeHeldRow.mapsOut == Try.pinned.checked.prog.mapsAmong Try.f9.resultTypes.toList)) = true := by kernel_rfl
theorem treeHeld_j16 : ((Rows.treeHeldRow.loops == (Try.f9.params.toList ++ Rows.treeHeldSpec.plain.varTypes Try.pinned.checked.prog).any (Try.pinned.checked.prog.loopsFrom ·))) = true := by kernel_rfl
theorem treeHeld_j17 : ((Rows.treeHeldRow.wideKeys == (Try.f9.params.toList ++ Rows.treeHeldSpec.plain.varTypes Try.pinned.checked.prog ++ Try.f9.resultTypes.toList).any (Try.pinned.checked.prog.wideKeysFrom ·))) = true := by kernel_rfl
theorem treeHeld_j18 : (Rows.treeHeldSpec.vars.all (Try.pinned.checked.prog.varReadable ·)) = true := by kernel_rfl
theorem treeHeld_j19 : (Try.f9.resultTypes.all (fun t => Try.pinned.checked.prog.readableRec t && decide (t < Try.pinned.checked.prog.types.size))) = true := by kernel_rfl
theorem treeHeld_j20 : ((Rows.treeHeldRow.ifacesOut == Try.f9.resultTypes.toList.any (Try.pinned.checked.prog.ifacesRec ·))) = true := by kernel_rfl
theorem treeHeld_j21 : ((Rows.treeHeldRow.loopsOut == Try.f9.resultTypes.toList.any (Try.pinned.checked.prog.loopsFrom ·))) = true := by kernel_rfl
theorem treeHeld_j22 : ((Rows.treeHeldRow.plainKeys == Try.pinned.checked.prog.plainKeys)) = true := by kernel_rfl
theorem treeHeld_j23 : (Rows.treeHeldRow.shortTexts.isNone) = true := by kernel_rfl
theorem treeHeld_j26 : ((Rows.treeHeldRow.lifted == Try.pinned.checked.prog.liftsFinal)) = true := by kernel_rfl
theorem treeHeld_j27 : ((Try.pinned.checked.prog.make == some Rows.treeHeldRow.make)) = true := by kernel_rfl
theorem treeHeld_j28 : ((Rows.treeHeldRow.kinds == (if Rows.treeHeldRow.domain.isEmpty then [] else Try.f9.params.toList.map fun t => match Try.pinned.checked.prog.underlying t with | some (.int k) => some k | _ => none))) = true := by kernel_rfl
theorem treeHeld_j29 : ((Rows.treeHeldRow.pinned == Rows.treeHeldRow.pinnedBy)) = true := by kernel_rfl
theorem treeHeld_j30 : ((Rows.treeHeldRow.veiled == (Try.f9.params.toList ++ Rows.treeHeldSpec.plain.varTypes Try.pinned.checked.prog ++ Try.f9.resultTypes.toList).any (Try.pinned.checked.prog.veiledRec ·))) = true := by kernel_rfl
theorem treeHeld_j31 : (Rows.treeHeldRow.veiledFits Try.pinned.checked.prog Try.f9.params.toList (Try.f9.params.toList ++ Rows.treeHeldSpec.plain.varTypes Try.pinned.checked.prog ++ Try.f9.resultTypes.toList)) = true := by kernel_rfl
set_option maxRecDepth 100000 in
theorem treeHeld_closed : joinedFacts Try.pinned.checked.prog 9 Try.f9 Rows.treeHeldSpec Rows.treeHeldRow = true := (and_tt (and_tt (and_tt (and_tt (and_tt (and_tt (and_tt (and_tt (and_tt (and_tt (and_tt (and_tt (and_tt (and_tt (and_tt (and_tt (and_tt (and_tt (and_tt (and_tt (and_tt (and_tt (and_tt (and_tt (and_tt (and_tt (and_tt (and_tt (and_tt (and_tt (and_tt treeHeld_j0 jg0) jg1) treeHeld_j3) treeHeld_j4) treeHeld_j5) jg2) treeHeld_j7) jg3) treeHeld_j9) treeHeld_j10) treeHeld_j11) treeHeld_j12) treeHeld_j13) treeHeld_j14) treeHeld_j15) treeHeld_j16) treeHeld_j17) treeHeld_j18) treeHeld_j19) treeHeld_j20) treeHeld_j21) treeHeld_j22) treeHeld_j23) jg4) jg5) treeHeld_j26) treeHeld_j27) treeHeld_j28) treeHeld_j29) treeHeld_j30) treeHeld_j31)
theorem treeHeld_holds : Rows.TreeHeldSaid :=
  OpenClaim.holds_of_wide 9 Try.f9 rfl rfl rfl rfl rfl rfl rfl ⟨rfl, rfl, rfl, rfl, rfl⟩ rfl rfl rfl rfl rfl (by kernel_rfl) Try.func9 treeHeld_closed
    (of_decide_eq_true (by kernel_rfl)) (by unfold Func.isWrapper; first | (rw [if_pos (by decide +kernel)]; kernel_rfl) | (rw [if_neg (by decide +kernel)]; exact ⟨rfl, rfl⟩))
    (fun os started H enc _ => treeHeld_step os started H enc)
end Go.Proofs.Ytmmonbnlleeloaa
