/-
  For every row of operations and of spends the law of caps answers true: the statement.
-/
import Derived.Test.YtmmonbnlleeloaaRows
import Derived.Test.YtmmonbnlleeloaaKF
import Derived.Test.YtmmonbnlleeloaaKT
import Derived.JoinedCond
set_option linter.unusedSectionVars false
set_option linter.unusedVariables false
set_option linter.unusedSimpArgs false
namespace Go.Proofs.Ytmmonbnlleeloaa
open Go.Sl Go.Proofs
set_option maxRecDepth 100000 in
theorem chargeCaps_fit : ∀ dss, FitAll Try.prog 6 Try.f13.params.toList dss → SB Try.prog 13 (argSVs Try.prog Try.f13.params.toList dss) [] 0 0 fun r F => r = bl true := by
  intro dss h
  rw [show Try.f13.params.toList = [T_L_api_Op, T_L_api_Spend] from by kernel_rfl] at h ⊢
  have hl := fitAll_len h
  match dss, hl, h with
  | [x0, x1], _, h =>
    simp only [FitAll] at h
    obtain ⟨h0, h1, _⟩ := h
    obtain ⟨y, l, rfl, hl, hn, hw⟩ := ops_weak (d := 2) h0
    obtain ⟨z, s, rfl, hs, hm, hv⟩ := spends_weak (d := 2) h1
    simp only [argSVs, ops_arg, spends_arg]
    exact SB.mono (SB.args (law22_caps l s (fun o ho => (hl o ho).1.roles) (fun o ho => (hl o ho).1.dot) (fun o ho => (hl o ho).2) hn hm (fun y hy => (hs y hy).n) (fun y hy => (hs y hy).d)) rfl (fun p μ M vs hv' => hw p μ M _ _ (fun vs h => hv p μ M _ _ (fun vs h => h) vs h) vs hv')) fun r F h => h
open Go.ChangeShapes Go.WideShapes Go.ChangeAt Go.RowKit in
set_option maxRecDepth 100000 in
theorem chargeCaps_step (os : Os) (started : os.Started) (H : Type) (enc : TypeId × Value → H) :
    ReturnsInHanded {} Try.checked os 13 .any (Rows.chargeCapsSpec.pre6 enc Try.prog Try.f13 Rows.chargeCapsRow.domain false) (Rows.chargeCapsSpec.post enc Try.prog Try.f13 false true false false) := by
  refine returnsInHanded_of_change (C := Try.checked) own started (by kernel_rfl) Try.func13
    (ChangeSpec.witness6 (enc := enc) (C := Try.checked) false ⟨#[], #[.slice none 0 0, .slice none 0 0], []⟩ 8 (by kernel_rfl) (by kernel_rfl) (by kernel_rfl) (by kernel_rfl)) ?_
  intro W base args ds gs before hval hW hcnd _
  refine law_calls (f := 13) (fn := Try.f13) (spec := Rows.chargeCapsSpec) (tb := T_bool) 6 (by kernel_rfl) (by kernel_rfl) rfl (by kernel_rfl) rfl (fun ds hl => ?_) (fun dss hf => ?_) W base args ds gs before hval hW
  · rw [show Try.f13.params.toList.length = 2 from by kernel_rfl] at hl
    match ds, hl with
    | [d0, d1], _ => exact ⟨rfl, rfl, rfl⟩
  · exact chargeCaps_fit dss hf
theorem chargeCaps_j0 : (Rows.chargeCapsRow.wf (OpenSpec.ofChange Rows.chargeCapsSpec)) = true := by kernel_rfl
theorem chargeCaps_j3 : (Try.f13.params.all (Try.pinned.checked.prog.readableRec ·)) = true := by kernel_rfl
theorem chargeCaps_j4 : (namedTie Try.pinned.checked.prog Rows.chargeCapsRow.named Rows.chargeCapsSpec.vars) = true := by kernel_rfl
theorem chargeCaps_j5 : ((Rows.chargeCapsRow.stops == [])) = true := by kernel_rfl
theorem chargeCaps_j7 : ((Rows.chargeCapsRow.knobs == [])) = true := by kernel_rfl
theorem chargeCaps_j9 : ((Rows.chargeCapsRow.inPlace == Try.pinned.checked.prog.inPlace 13)) = true := by kernel_rfl
theorem chargeCaps_j10 : ((Rows.chargeCapsRow.unfollowed == Try.pinned.checked.prog.unfollowed 13)) = true := by kernel_rfl
theorem chargeCaps_j11 : ((Rows.chargeCapsRow.recurses == Try.pinned.checked.prog.recurses 13)) = true := by kernel_rfl
theorem chargeCaps_j12 : ((Rows.chargeCapsRow.named == Try.pinned.checked.prog.varsNamed 13)) = true := by kernel_rfl
theorem chargeCaps_j13 : ((Rows.chargeCapsRow.maps == (Try.f13.params.toList ++ Rows.chargeCapsSpec.plain.varTypes Try.pinned.checked.prog).any (Try.pinned.checked.prog.mapsRec ·))) = true := by kernel_rfl
theorem chargeCaps_j14 : ((Rows.chargeCapsRow.ifaces == (Try.f13.params.toList ++ Rows.chargeCapsSpec.plain.varTypes Try.pinned.checked.prog).any (Try.pinned.checked.prog.ifacesRec ·))) = true := by kernel_rfl
theorem chargeCaps_j15 : ((Rows.chargeCapsRow.mapsOut == Try.pinned.checked.prog.mapsAmong Try.f13.resultTypes.toList)) = true := by kernel_rfl
theorem chargeCaps_j16 : ((Rows.chargeCapsRow.loops == (Try.f13.params.toList ++ Rows.chargeCapsSpec.plain.varTypes Try.pinned.checked.prog).any (Try.pinned.checked.prog.loopsFrom ·))) = true := by kernel_rfl
theorem chargeCaps_j17 : ((Rows.chargeCapsRow.wideKeys == (Try.f13.params.toList ++ Rows.chargeCapsSpec.plain.varTypes Try.pinned.checked.prog ++ Try.f13.resultTypes.toList).any (Try.pinned.checked.prog.wideKeysFrom ·))) = true := by kernel_rfl
theorem chargeCaps_j18 : (Rows.chargeCapsSpec.vars.all (Try.pinned.checked.prog.varReadable ·)) = true := by kernel_rfl
theorem chargeCaps_j19 : (Try.f13.resultTypes.all (fun t => Try.pinned.checked.prog.readableRec t && decide (t < Try.pinned.checked.prog.types.size))) = true := by kernel_rfl
theorem chargeCaps_j20 : ((Rows.chargeCapsRow.ifacesOut == Try.f13.resultTypes.toList.any (Try.pinned.checked.prog.ifacesRec ·))) = true := by kernel_rfl
theorem chargeCaps_j21 : ((Rows.chargeCapsRow.loopsOut == Try.f13.resultTypes.toList.any (Try.pinned.checked.prog.loopsFrom ·))) = true := by kernel_rfl
theorem chargeCaps_j22 : ((Rows.chargeCapsRow.plainKeys == Try.pinned.checked.prog.plainKeys)) = true := by kernel_rfl
theorem chargeCaps_j23 : (Rows.chargeCapsRow.shortTexts.isNone) = true := by kernel_rfl
theorem chargeCaps_j26 : ((Rows.chargeCapsRow.lifted == Try.pinned.checked.prog.liftsFinal)) = true := by kernel_rfl
theorem chargeCaps_j27 : ((Try.pinned.checked.prog.make == some Rows.chargeCapsRow.make)) = true := by kernel_rfl
theorem chargeCaps_j28 : ((Rows.chargeCapsRow.kinds == (if Rows.chargeCapsRow.domain.isEmpty then [] else Try.f13.params.toList.map fun t => match Try.pinned.checked.prog.underlying t with | some (.int k) => some k | _ => none))) = true := by kernel_rfl
theorem chargeCaps_j29 : ((Rows.chargeCapsRow.pinned == Rows.chargeCapsRow.pinnedBy)) = true := by kernel_rfl
theorem chargeCaps_j30 : ((Rows.chargeCapsRow.veiled == (Try.f13.params.toList ++ Rows.chargeCapsSpec.plain.varTypes Try.pinned.checked.prog ++ Try.f13.resultTypes.toList).any (Try.pinned.checked.prog.veiledRec ·))) = true := by kernel_rfl
theorem chargeCaps_j31 : (Rows.chargeCapsRow.veiledFits Try.pinned.checked.prog Try.f13.params.toList (Try.f13.params.toList ++ Rows.chargeCapsSpec.plain.varTypes Try.pinned.checked.prog ++ Try.f13.resultTypes.toList)) = true := by kernel_rfl
set_option maxRecDepth 100000 in
theorem chargeCaps_closed : joinedFacts Try.pinned.checked.prog 13 Try.f13 Rows.chargeCapsSpec Rows.chargeCapsRow = true := (and_tt (and_tt (and_tt (and_tt (and_tt (and_tt (and_tt (and_tt (and_tt (and_tt (and_tt (and_tt (and_tt (and_tt (and_tt (and_tt (and_tt (and_tt (and_tt (and_tt (and_tt (and_tt (and_tt (and_tt (and_tt (and_tt (and_tt (and_tt (and_tt (and_tt (and_tt chargeCaps_j0 jg0) jg1) chargeCaps_j3) chargeCaps_j4) chargeCaps_j5) jg2) chargeCaps_j7) jg3) chargeCaps_j9) chargeCaps_j10) chargeCaps_j11) chargeCaps_j12) chargeCaps_j13) chargeCaps_j14) chargeCaps_j15) chargeCaps_j16) chargeCaps_j17) chargeCaps_j18) chargeCaps_j19) chargeCaps_j20) chargeCaps_j21) chargeCaps_j22) chargeCaps_j23) jg4) jg5) chargeCaps_j26) chargeCaps_j27) chargeCaps_j28) chargeCaps_j29) chargeCaps_j30) chargeCaps_j31)
theorem chargeCaps_holds : Rows.ChargeCapsSaid :=
  OpenClaim.holds_of_wide 13 Try.f13 rfl rfl rfl rfl rfl rfl rfl ⟨rfl, rfl, rfl, rfl, rfl⟩ rfl rfl rfl rfl rfl (by kernel_rfl) Try.func13 chargeCaps_closed
    (of_decide_eq_true (by kernel_rfl)) (by unfold Func.isWrapper; first | (rw [if_pos (by decide +kernel)]; kernel_rfl) | (rw [if_neg (by decide +kernel)]; exact ⟨rfl, rfl⟩))
    (fun os started H enc _ => chargeCaps_step os started H enc)
end Go.Proofs.Ytmmonbnlleeloaa
