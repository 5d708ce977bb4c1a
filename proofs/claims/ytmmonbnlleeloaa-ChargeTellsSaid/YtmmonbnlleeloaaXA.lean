/-
  For every row of operations and of spends the law that charges are the document's answers true: the statement.
-/
import Derived.Test.YtmmonbnlleeloaaRows
import Derived.Test.YtmmonbnlleeloaaKF
import Derived.Test.YtmmonbnlleeloaaKG
import Derived.JoinedCond
set_option linter.unusedSectionVars false
set_option linter.unusedVariables false
set_option linter.unusedSimpArgs false
namespace Go.Proofs.Ytmmonbnlleeloaa
open Go.Sl Go.Proofs
set_option maxRecDepth 100000 in
theorem chargeTells_fit : ∀ dss, FitAll Try.prog 6 Try.f12.params.toList dss → SB Try.prog 12 (argSVs Try.prog Try.f12.params.toList dss) [] 0 0 fun r F => r = bl true := by
  intro dss h
  rw [show Try.f12.params.toList = [T_L_api_Op, T_L_api_Spend, T_api_Spend] from by kernel_rfl] at h ⊢
  have hl := fitAll_len h
  match dss, hl, h with
  | [x0, x1, x2], _, h =>
    simp only [FitAll] at h
    obtain ⟨h0, h1, h2, _⟩ := h
    obtain ⟨y, l, rfl, hl, hn, hw⟩ := ops_weak (d := 2) h0
    obtain ⟨z, s, rfl, hs, hm, hv⟩ := spends_weak (d := 2) h1
    obtain ⟨x, hx, rfl⟩ := spend_fit (d := 3) h2
    simp only [argSVs, ops_arg, spends_arg, spend_arg]
    exact SB.mono (SB.args (law22_tells l s x (fun o ho => (hl o ho).1.roles) (fun o ho => (hl o ho).1.dot) (fun o ho => (hl o ho).2) hn hm (fun y hy => (hs y hy).n) (fun y hy => (hs y hy).d)) rfl (fun p μ M vs hv' => hw p μ M _ _ (fun vs h => hv p μ M _ _ (fun vs h => h) vs h) vs hv')) fun r F h => h
open Go.ChangeShapes Go.WideShapes Go.ChangeAt Go.RowKit in
set_option maxRecDepth 100000 in
theorem chargeTells_step (os : Os) (started : os.Started) (H : Type) (enc : TypeId × Value → H) :
    ReturnsInHanded {} Try.checked os 12 .any (Rows.chargeTellsSpec.pre6 enc Try.prog Try.f12 Rows.chargeTellsRow.domain false) (Rows.chargeTellsSpec.post enc Try.prog Try.f12 false true false false) := by
  refine returnsInHanded_of_change (C := Try.checked) own started (by kernel_rfl) Try.func12
    (ChangeSpec.witness6 (enc := enc) (C := Try.checked) false ⟨#[], #[.slice none 0 0, .slice none 0 0, .agg #[.int .u8 0, .int .u32 0, .int .u64 0]], []⟩ 8 (by kernel_rfl) (by kernel_rfl) (by kernel_rfl) (by kernel_rfl)) ?_
  intro W base args ds gs before hval hW hcnd _
  refine law_calls (f := 12) (fn := Try.f12) (spec := Rows.chargeTellsSpec) (tb := T_bool) 6 (by kernel_rfl) (by kernel_rfl) rfl (by kernel_rfl) rfl (fun ds hl => ?_) (fun dss hf => ?_) W base args ds gs before hval hW
  · rw [show Try.f12.params.toList.length = 3 from by kernel_rfl] at hl
    match ds, hl with
    | [d0, d1, d2], _ => exact ⟨rfl, rfl, rfl⟩
  · exact chargeTells_fit dss hf
theorem chargeTells_j0 : (Rows.chargeTellsRow.wf (OpenSpec.ofChange Rows.chargeTellsSpec)) = true := by kernel_rfl
theorem chargeTells_j3 : (Try.f12.params.all (Try.pinned.checked.prog.readableRec ·)) = true := by kernel_rfl
theorem chargeTells_j4 : (namedTie Try.pinned.checked.prog Rows.chargeTellsRow.named Rows.chargeTellsSpec.vars) = true := by kernel_rfl
theorem chargeTells_j5 : ((Rows.chargeTellsRow.stops == [])) = true := by kernel_rfl
theorem chargeTells_j7 : ((Rows.chargeTellsRow.knobs == [])) = true := by kernel_rfl
theorem chargeTells_j9 : ((Rows.chargeTellsRow.inPlace == Try.pinned.checked.prog.inPlace 12)) = true := by kernel_rfl
theorem chargeTells_j10 : ((Rows.chargeTellsRow.unfollowed == Try.pinned.checked.prog.unfollowed 12)) = true := by kernel_rfl
theorem chargeTells_j11 : ((Rows.chargeTellsRow.recurses == Try.pinned.checked.prog.recurses 12)) = true := by kernel_rfl
theorem chargeTells_j12 : ((Rows.chargeTellsRow.named == Try.pinned.checked.prog.varsNamed 12)) = true := by kernel_rfl
theorem chargeTells_j13 : ((Rows.chargeTellsRow.maps == (Try.f12.params.toList ++ Rows.chargeTellsSpec.plain.varTypes Try.pinned.checked.prog).any (Try.pinned.checked.prog.mapsRec ·))) = true := by kernel_rfl
theorem chargeTells_j14 : ((Rows.chargeTellsRow.ifaces == (Try.f12.params.toList ++ Rows.chargeTellsSpec.plain.varTypes Try.pinned.checked.prog).any (Try.pinned.checked.prog.ifacesRec ·))) = true := by kernel_rfl
theorem chargeTells_j15 : ((Rows.chargeTellsRow.mapsOut == Try.pinned.checked.prog.mapsAmong Try.f12.resultTypes.toList)) = true := by kernel_rfl
theorem chargeTells_j16 : ((Rows.chargeTellsRow.loops == (Try.f12.params.toList ++ Rows.chargeTellsSpec.plain.varTypes Try.pinned.checked.prog).any (Try.pinned.checked.prog.loopsFrom ·))) = true := by kernel_rfl
theorem chargeTells_j17 : ((Rows.chargeTellsRow.wideKeys == (Try.f12.params.toList ++ Rows.chargeTellsSpec.plain.varTypes Try.pinned.checked.prog ++ Try.f12.resultTypes.toList).any (Try.pinned.checked.prog.wideKeysFrom ·))) = true := by kernel_rfl
theorem chargeTells_j18 : (Rows.chargeTellsSpec.vars.all (Try.pinned.checked.prog.varReadable ·)) = true := by kernel_rfl
theorem chargeTells_j19 : (Try.f12.resultTypes.all (fun t => Try.pinned.checked.prog.readableRec t && decide (t < Try.pinned.checked.prog.types.size))) = true := by kernel_rfl
theorem chargeTells_j20 : ((Rows.chargeTellsRow.ifacesOut == Try.f12.resultTypes.toList.any (Try.pinned.checked.prog.ifacesRec ·))) = true := by kernel_rfl
theorem chargeTells_j21 : ((Rows.chargeTellsRow.loopsOut == Try.f12.resultTypes.toList.any (Try.pinned.checked.prog.loopsFrom ·))) = true := by kernel_rfl
theorem chargeTells_j22 : ((Rows.chargeTellsRow.plainKeys == Try.pinned.checked.prog.plainKeys)) = true := by kernel_rfl
theorem chargeTells_j23 : (Rows.chargeTellsRow.shortTexts.isNone) = true := by kernel_rfl
theorem chargeTells_j26 : ((Rows.chargeTellsRow.lifted == Try.pinned.checked.prog.liftsFinal)) = true := by kernel_rfl
theorem chargeTells_j27 : ((Try.pinned.checked.prog.make == some Rows.chargeTellsRow.make)) = true := by kernel_rfl
theorem chargeTells_j28 : ((Rows.chargeTellsRow.kinds == (if Rows.chargeTellsRow.domain.isEmpty then [] else Try.f12.params.toList.map fun t => match Try.pinned.checked.prog.underlying t with | some (.int k) => some k | _ => none))) = true := by kernel_rfl
theorem chargeTells_j29 : ((Rows.chargeTellsRow.pinned == Rows.chargeTellsRow.pinnedBy)) = true := by kernel_rfl
theorem chargeTells_j30 : ((Rows.chargeTellsRow.veiled == (Try.f12.params.toList ++ Rows.chargeTellsSpec.plain.varTypes Try.pinned.checked.prog ++ Try.f12.resultTypes.toList).any (Try.pinned.checked.prog.veiledRec ·))) = true := by kernel_rfl
theorem chargeTells_j31 : (Rows.chargeTellsRow.veiledFits Try.pinned.checked.prog Try.f12.params.toList (Try.f12.params.toList ++ Rows.chargeTellsSpec.plain.varTypes Try.pinned.checked.prog ++ Try.f12.resultTypes.toList)) = true := by kernel_rfl
set_option maxRecDepth 100000 in
theorem chargeTells_closed : joinedFacts Try.pinned.checked.prog 12 Try.f12 Rows.chargeTellsSpec Rows.chargeTellsRow = true := (and_tt (and_tt (and_tt (and_tt (and_tt (and_tt (and_tt (and_tt (and_tt (and_tt (and_tt (and_tt (and_tt (and_tt (and_tt (and_tt (and_tt (and_tt (and_tt (and_tt (and_tt (and_tt (and_tt (and_tt (and_tt (and_tt (and_tt (and_tt (and_tt (and_tt (and_tt chargeTells_j0 jg0) jg1) chargeTells_j3) chargeTells_j4) chargeTells_j5) jg2) chargeTells_j7) jg3) chargeTells_j9) chargeTells_j10) chargeTells_j11) chargeTells_j12) chargeTells_j13) chargeTells_j14) chargeTells_j15) chargeTells_j16) chargeTells_j17) chargeTells_j18) chargeTells_j19) chargeTells_j20) chargeTells_j21) chargeTells_j22) chargeTells_j23) jg4) jg5) chargeTells_j26) chargeTells_j27) chargeTells_j28) chargeTells_j29) chargeTells_j30) chargeTells_j31)
theorem chargeTells_holds : Rows.ChargeTellsSaid :=
  OpenClaim.holds_of_wide 12 Try.f12 rfl rfl rfl rfl rfl rfl rfl ⟨rfl, rfl, rfl, rfl, rfl⟩ rfl rfl rfl rfl rfl (by kernel_rfl) Try.func12 chargeTells_closed
    (of_decide_eq_true (by kernel_rfl)) (by unfold Func.isWrapper; first | (rw [if_pos (by decide +kernel)]; kernel_rfl) | (rw [if_neg (by decide +kernel)]; exact ⟨rfl, rfl⟩))
    (fun os started H enc _ => chargeTells_step os started H enc)
end Go.Proofs.Ytmmonbnlleeloaa
