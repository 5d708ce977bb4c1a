/-
  For every row of operations and of spends the law of charges in two parts answers true: the statement.
-/
import Derived.Test.YtmmonbnlleeloaaRows
import Derived.Test.YtmmonbnlleeloaaKF
import Derived.Test.YtmmonbnlleeloaaKR
import Derived.JoinedCond
set_option linter.unusedSectionVars false
set_option linter.unusedVariables false
set_option linter.unusedSimpArgs false
namespace Go.Proofs.Ytmmonbnlleeloaa
open Go.Sl Go.Proofs
set_option maxRecDepth 100000 in
theorem chargeParts_fit : ∀ dss, FitAll Try.prog 6 Try.f11.params.toList dss → SB Try.prog 11 (argSVs Try.prog Try.f11.params.toList dss) [] 0 0 fun r F => r = bl true := by
  intro dss h
  rw [show Try.f11.params.toList = [T_L_api_Op, T_L_api_Spend, T_A2_api_Spend] from by kernel_rfl] at h ⊢
  have hl := fitAll_len h
  match dss, hl, h with
  | [x0, x1, x2], _, h =>
    simp only [FitAll] at h
    obtain ⟨h0, h1, h2, _⟩ := h
    obtain ⟨y, l, rfl, hl, hn, hw⟩ := ops_weak (d := 2) h0
    obtain ⟨z, s, rfl, hs, hm, hv⟩ := spends_weak (d := 2) h1
    obtain ⟨x, x', hx, hx', rfl⟩ := two_fit (d := 2) h2
    simp only [argSVs, ops_arg, spends_arg, two_arg, List.map_append, Sp.map_ds]
    exact SB.mono (SB.args (law22_parts l s x x' (fun o ho => (hl o ho).1.roles) (fun o ho => (hl o ho).1.dot) (fun o ho => (hl o ho).2) hn hm (fun y hy => (hs y hy).n) (fun y hy => (hs y hy).d) hx.n hx'.n) rfl (fun p μ M vs hv' => hw p μ M _ _ (fun vs h => hv p μ M _ _ (fun vs h => h) vs h) vs hv')) fun r F h => h
open Go.ChangeShapes Go.WideShapes Go.ChangeAt Go.RowKit in
set_option maxRecDepth 100000 in
theorem chargeParts_step (os : Os) (started : os.Started) (H : Type) (enc : TypeId × Value → H) :
    ReturnsInHanded {} Try.checked os 11 .any (Rows.chargePartsSpec.pre6 enc Try.prog Try.f11 Rows.chargePartsRow.domain false) (Rows.chargePartsSpec.post enc Try.prog Try.f11 false true false false) := by
  refine returnsInHanded_of_change (C := Try.checked) own started (by kernel_rfl) Try.func11
    (ChangeSpec.witness6 (enc := enc) (C := Try.checked) false ⟨#[], #[.slice none 0 0, .slice none 0 0, .agg #[.int .u8 0, .int .u32 0, .int .u64 0, .int .u8 0, .int .u32 0, .int .u64 0]], []⟩ 8 (by kernel_rfl) (by kernel_rfl) (by kernel_rfl) (by kernel_rfl)) ?_
  intro W base args ds gs before hval hW hcnd _
  refine law_calls (f := 11) (fn := Try.f11) (spec := Rows.chargePartsSpec) (tb := T_bool) 6 (by kernel_rfl) (by kernel_rfl) rfl (by kernel_rfl) rfl (fun ds hl => ?_) (fun dss hf => ?_) W base args ds gs before hval hW
  · rw [show Try.f11.params.toList.length = 3 from by kernel_rfl] at hl
    match ds, hl with
    | [d0, d1, d2], _ => exact ⟨rfl, rfl, rfl⟩
  · exact chargeParts_fit dss hf
theorem chargeParts_j0 : (Rows.chargePartsRow.wf (OpenSpec.ofChange Rows.chargePartsSpec)) = true := by kernel_rfl
theorem chargeParts_j3 : (Try.f11.params.all (Try.pinned.checked.prog.readableRec ·)) = true := by kernel_rfl
theorem chargeParts_j4 : (namedTie Try.pinned.checked.prog Rows.chargePartsRow.named Rows.chargePartsSpec.vars) = true := by kernel_rfl
theorem chargeParts_j5 : ((Rows.chargePartsRow.stops == [])) = true := by kernel_rfl
theorem chargeParts_j7 : ((Rows.chargePartsRow.knobs == [])) = true := by kernel_rfl
theorem chargeParts_j9 : ((Rows.chargePartsRow.inPlace == Try.pinned.checked.prog.inPlace 11)) = true := by kernel_rfl
theorem chargeParts_j10 : ((Rows.chargePartsRow.unfollowed == Try.pinned.checked.prog.unfollowed 11)) = true := by kernel_rfl
theorem chargeParts_j11 : ((Rows.chargePartsRow.recurses == Try.pinned.checked.prog.recurses 11)) = true := by kernel_rfl
theorem chargeParts_j12 : ((Rows.chargePartsRow.named == Try.pinned.checked.prog.varsNamed 11)) = true := by kernel_rfl
theorem chargeParts_j13 : ((Rows.chargePartsRow.maps == (Try.f11.params.toList ++ Rows.chargePartsSpec.plain.varTypes Try.pinned.checked.prog).any (Try.pinned.checked.prog.mapsRec ·))) = true := by kernel_rfl
theorem chargeParts_j14 : ((Rows.chargePartsRow.ifaces == (Try.f11.params.toList ++ Rows.chargePartsSpec.plain.varTypes Try.pinned.checked.prog).any (Try.pinned.checked.prog.ifacesRec ·))) = true := by kernel_rfl
theorem chargeParts_j15 : ((Rows.chargePartsRow.mapsOut == Try.pinned.checked.prog.mapsAmong Try.f11.resultTypes.toList)) = true := by kernel_rfl
theorem chargeParts_j16 : ((Rows.chargePartsRow.loops == (Try.f11.params.toList ++ Rows.chargePartsSpec.plain.varTypes Try.pinned.checked.prog).any (Try.pinned.checked.prog.loopsFrom ·))) = true := by kernel_rfl
theorem chargeParts_j17 : ((Rows.chargePartsRow.wideKeys == (Try.f11.params.toList ++ Rows.chargePartsSpec.plain.varTypes Try.pinned.checked.prog ++ Try.f11.resultTypes.toList).any (Try.pinned.checked.prog.wideKeysFrom ·))) = true := by kernel_rfl
theorem chargeParts_j18 : (Rows.chargePartsSpec.vars.all (Try.pinned.checked.prog.varReadable ·)) = true := by kernel_rfl
theorem chargeParts_j19 : (Try.f11.resultTypes.all (fun t => Try.pinned.checked.prog.readableRec t && decide (t < Try.pinned.checked.prog.types.size))) = true := by kernel_rfl
theorem chargeParts_j20 : ((Rows.chargePartsRow.ifacesOut == Try.f11.resultTypes.toList.any (Try.pinned.checked.prog.ifacesRec ·))) = true := by kernel_rfl
theorem chargeParts_j21 : ((Rows.chargePartsRow.loopsOut == Try.f11.resultTypes.toList.any (Try.pinned.checked.prog.loopsFrom ·))) = true := by kernel_rfl
theorem chargeParts_j22 : ((Rows.chargePartsRow.plainKeys == Try.pinned.checked.prog.plainKeys)) = true := by kernel_rfl
theorem chargeParts_j23 : (Rows.chargePartsRow.shortTexts.isNone) = true := by kernel_rfl
theorem chargeParts_j26 : ((Rows.chargePartsRow.lifted == Try.pinned.checked.prog.liftsFinal)) = true := by kernel_rfl
theorem chargeParts_j27 : ((Try.pinned.checked.prog.make == some Rows.chargePartsRow.make)) = true := by kernel_rfl
theorem chargeParts_j28 : ((Rows.chargePartsRow.kinds == (if Rows.chargePartsRow.domain.isEmpty then [] else Try.f11.params.toList.map fun t => match Try.pinned.checked.prog.underlying t with | some (.int k) => some k | _ => none))) = true := by kernel_rfl
theorem chargeParts_j29 : ((Rows.chargePartsRow.pinned == Rows.chargePartsRow.pinnedBy)) = true := by kernel_rfl
theorem chargeParts_j30 : ((Rows.chargePartsRow.veiled == (Try.f11.params.toList ++ Rows.chargePartsSpec.plain.varTypes Try.pinned.checked.prog ++ Try.f11.resultTypes.toList).any (Try.pinned.checked.prog.veiledRec ·))) = true := by kernel_rfl
theorem chargeParts_j31 : (Rows.chargePartsRow.veiledFits Try.pinned.checked.prog Try.f11.params.toList (Try.f11.params.toList ++ Rows.chargePartsSpec.plain.varTypes Try.pinned.checked.prog ++ Try.f11.resultTypes.toList)) = true := by kernel_rfl
set_option maxRecDepth 100000 in
theorem chargeParts_closed : joinedFacts Try.pinned.checked.prog 11 Try.f11 Rows.chargePartsSpec Rows.chargePartsRow = true := (and_tt (and_tt (and_tt (and_tt (and_tt (and_tt (and_tt (and_tt (and_tt (and_tt (and_tt (and_tt (and_tt (and_tt (and_tt (and_tt (and_tt (and_tt (and_tt (and_tt (and_tt (and_tt (and_tt (and_tt (and_tt (and_tt (and_tt (and_tt (and_tt (and_tt (and_tt chargeParts_j0 jg0) jg1) chargeParts_j3) chargeParts_j4) chargeParts_j5) jg2) chargeParts_j7) jg3) chargeParts_j9) chargeParts_j10) chargeParts_j11) chargeParts_j12) chargeParts_j13) chargeParts_j14) chargeParts_j15) chargeParts_j16) chargeParts_j17) chargeParts_j18) chargeParts_j19) chargeParts_j20) chargeParts_j21) chargeParts_j22) chargeParts_j23) jg4) jg5) chargeParts_j26) chargeParts_j27) chargeParts_j28) chargeParts_j29) chargeParts_j30) chargeParts_j31)
theorem chargeParts_holds : Rows.ChargePartsSaid :=
  OpenClaim.holds_of_wide 11 Try.f11 rfl rfl rfl rfl rfl rfl rfl ⟨rfl, rfl, rfl, rfl, rfl⟩ rfl rfl rfl rfl rfl (by kernel_rfl) Try.func11 chargeParts_closed
    (of_decide_eq_true (by kernel_rfl)) (by unfold Func.isWrapper; first | (rw [if_pos (by decide +kernel)]; kernel_rfl) | (rw [if_neg (by decide +kernel)]; exact ⟨rfl, rfl⟩))
    (fun os started H enc _ => chargeParts_step os started H enc)
end Go.Proofs.Ytmmonbnlleeloaa
