/-
  For every row of operations and of spends the law of two charges, either way, answers true: the statement.
-/
import Derived.Test.YtmmonbnlleeloaaRows
import Derived.Test.YtmmonbnlleeloaaKF
import Derived.Test.YtmmonbnlleeloaaKS
import Derived.JoinedCond
set_option linter.unusedSectionVars false
set_option linter.unusedVariables false
set_option linter.unusedSimpArgs false
namespace Go.Proofs.Ytmmonbnlleeloaa
open Go.Sl Go.Proofs
set_option maxRecDepth 100000 in
theorem chargeTurned_fit : ∀ dss, FitAll Try.prog 6 Try.f10.params.toList dss → SB Try.prog 10 (argSVs Try.prog Try.f10.params.toList dss) [] 0 0 fun r F => r = bl true := by
  intro dss h
  rw [show Try.f10.params.toList = [T_L_api_Op, T_L_api_Spend, T_A2_api_Spend] from by kernel_rfl] at h ⊢
  have hl := fitAll_len h
  match dss, hl, h with
  | [x0, x1, x2], _, h =>
    simp only [FitAll] at h
    obtain ⟨h0, h1, h2, _⟩ := h
    obtain ⟨y, l, rfl, hl, hn, hw⟩ := ops_weak (d := 2) h0
    obtain ⟨z, s, rfl, hs, hm, hv⟩ := spends_weak (d := 2) h1
    obtain ⟨x, x', hx, hx', rfl⟩ := two_fit (d := 2) h2
    simp only [argSVs, ops_arg, spends_arg, two_arg, List.map_append, Sp.map_ds]
    exact SB.mono (SB.args (law22_turned l s x x' (fun o ho => (hl o ho).1.roles) (fun o ho => (hl o ho).1.dot) (fun o ho => (hl o ho).2) hn hm (fun y hy => (hs y hy).n) (fun y hy => (hs y hy).d) hx.n hx'.n) rfl (fun p μ M vs hv' => hw p μ M _ _ (fun vs h => hv p μ M _ _ (fun vs h => h) vs h) vs hv')) fun r F h => h
open Go.ChangeShapes Go.WideShapes Go.ChangeAt Go.RowKit in
set_option maxRecDepth 100000 in
theorem chargeTurned_step (os : Os) (started : os.Started) (H : Type) (enc : TypeId × Value → H) :
    ReturnsInHanded {} Try.checked os 10 .any (Rows.chargeTurnedSpec.pre6 enc Try.prog Try.f10 Rows.chargeTurnedRow.domain false) (Rows.chargeTurnedSpec.post enc Try.prog Try.f10 false true false false) := by
  refine returnsInHanded_of_change (C := Try.checked) own started (by kernel_rfl) Try.func10
    (ChangeSpec.witness6 (enc := enc) (C := Try.checked) false ⟨#[], #[.slice none 0 0, .slice none 0 0, .agg #[.int .u8 0, .int .u32 0, .int .u64 0, .int .u8 0, .int .u32 0, .int .u64 0]], []⟩ 8 (by kernel_rfl) (by kernel_rfl) (by kernel_rfl) (by kernel_rfl)) ?_
  intro W base args ds gs before hval hW hcnd _
  refine law_calls (f := 10) (fn := Try.f10) (spec := Rows.chargeTurnedSpec) (tb := T_bool) 6 (by kernel_rfl) (by kernel_rfl) rfl (by kernel_rfl) rfl (fun ds hl => ?_) (fun dss hf => ?_) W base args ds gs before hval hW
  · rw [show Try.f10.params.toList.length = 3 from by kernel_rfl] at hl
    match ds, hl with
    | [d0, d1, d2], _ => exact ⟨rfl, rfl, rfl⟩
  · exact chargeTurned_fit dss hf
theorem chargeTurned_j0 : (Rows.chargeTurnedRow.wf (OpenSpec.ofChange Rows.chargeTurnedSpec)) = true := by kernel_rfl
theorem chargeTurned_j3 : (Try.f10.params.all (Try.pinned.checked.prog.readableRec ·)) = true := by kernel_rfl
theorem chargeTurned_j4 : (namedTie Try.pinned.checked.prog Rows.chargeTurnedRow.named Rows.chargeTurnedSpec.vars) = true := by kernel_rfl
theorem chargeTurned_j5 : ((Rows.chargeTurnedRow.stops == [])) = true := by kernel_rfl
theorem chargeTurned_j7 : ((Rows.chargeTurnedRow.knobs == [])) = true := by kernel_rfl
theorem chargeTurned_j9 : ((Rows.chargeTurnedRow.inPlace == Try.pinned.checked.prog.inPlace 10)) = true := by kernel_rfl
theorem chargeTurned_j10 : ((Rows.chargeTurnedRow.unfollowed == Try.pinned.checked.prog.unfollowed 10)) = true := by kernel_rfl
theorem chargeTurned_j11 : ((Rows.chargeTurnedRow.recurses == Try.pinned.checked.prog.recurses 10)) = true := by kernel_rfl
theorem chargeTurned_j12 : ((Rows.chargeTurnedRow.named == Try.pinned.checked.prog.varsNamed 10)) = true := by kernel_rfl
theorem chargeTurned_j13 : ((Rows.chargeTurnedRow.maps == (Try.f10.params.toList ++ Rows.chargeTurnedSpec.plain.varTypes Try.pinned.checked.prog).any (Try.pinned.checked.prog.mapsRec ·))) = true := by kernel_rfl
theorem chargeTurned_j14 : ((Rows.chargeTurnedRow.ifaces == (Try.f10.params.toList ++ Rows.chargeTurnedSpec.plain.varTypes Try.pinned.checked.prog).any (Try.pinned.checked.prog.ifacesRec ·))) = true := by kernel_rfl
theorem chargeTurned_j15 : ((Rows.chargeTurnedRow.mapsOut == Try.pinned.checked.prog.mapsAmong Try.f10.resultTypes.toList)) = true := by kernel_rfl
theorem chargeTurned_j16 : ((Rows.chargeTurnedRow.loops == (Try.f10.params.toList ++ Rows.chargeTurnedSpec.plain.varTypes Try.pinned.checked.prog).any (Try.pinned.checked.prog.loopsFrom ·))) = true := by kernel_rfl
theorem chargeTurned_j17 : ((Rows.chargeTurnedRow.wideKeys == (Try.f10.params.toList ++ Rows.chargeTurnedSpec.plain.varTypes Try.pinned.checked.prog ++ Try.f10.resultTypes.toList).any (Try.pinned.checked.prog.wideKeysFrom ·))) = true := by kernel_rfl
theorem chargeTurned_j18 : (Rows.chargeTurnedSpec.vars.all (Try.pinned.checked.prog.varReadable ·)) = true := by kernel_rfl
theorem chargeTurned_j19 : (Try.f10.resultTypes.all (fun t => Try.pinned.checked.prog.readableRec t && decide (t < Try.pinned.checked.prog.types.size))) = true := by kernel_rfl
theorem chargeTurned_j20 : ((Rows.chargeTurnedRow.ifacesOut == Try.f10.resultTypes.toList.any (Try.pinned.checked.prog.ifacesRec ·))) = true := by kernel_rfl
theorem chargeTurned_j21 : ((Rows.chargeTurnedRow.loopsOut == Try.f10.resultTypes.toList.any (Try.pinned.checked.prog.loopsFrom ·))) = true := by kernel_rfl
theorem chargeTurned_j22 : ((Rows.chargeTurnedRow.plainKeys == Try.pinned.checked.prog.plainKeys)) = true := by kernel_rfl
theorem chargeTurned_j23 : (Rows.chargeTurnedRow.shortTexts.isNone) = true := by kernel_rfl
theorem chargeTurned_j26 : ((Rows.chargeTurnedRow.lifted == Try.pinned.checked.prog.liftsFinal)) = true := by kernel_rfl
theorem chargeTurned_j27 : ((Try.pinned.checked.prog.make == some Rows.chargeTurnedRow.make)) = true := by kernel_rfl
theorem chargeTurned_j28 : ((Rows.chargeTurnedRow.kinds == (if Rows.chargeTurnedRow.domain.isEmpty then [] else Try.f10.params.toList.map fun t => match Try.pinned.checked.prog.underlying t with | some (.int k) => some k | _ => none))) = true := by kernel_rfl
theorem chargeTurned_j29 : ((Rows.chargeTurnedRow.pinned == Rows.chargeTurnedRow.pinnedBy)) = true := by kernel_rfl
theorem chargeTurned_j30 : ((Rows.chargeTurnedRow.veiled == (Try.f10.params.toList ++ Rows.chargeTurnedSpec.plain.varTypes Try.pinned.checked.prog ++ Try.f10.resultTypes.toList).any (Try.pinned.checked.prog.veiledRec ·))) = true := by kernel_rfl
theorem chargeTurned_j31 : (Rows.chargeTurnedRow.veiledFits Try.pinned.checked.prog Try.f10.params.toList (Try.f10.params.toList ++ Rows.chargeTurnedSpec.plain.varTypes Try.pinned.checked.prog ++ Try.f10.resultTypes.toList)) = true := by kernel_rfl
set_option maxRecDepth 100000 in
theorem chargeTurned_closed : joinedFacts Try.pinned.checked.prog 10 Try.f10 Rows.chargeTurnedSpec Rows.chargeTurnedRow = true := (and_tt (and_tt (and_tt (and_tt (and_tt (and_tt (and_tt (and_tt (and_tt (and_tt (and_tt (and_tt (and_tt (and_tt (and_tt (and_tt (and_tt (and_tt (and_tt (and_tt (and_tt (and_tt (and_tt (and_tt (and_tt (and_tt (and_tt (and_tt (and_tt (and_tt (and_tt chargeTurned_j0 jg0) jg1) chargeTurned_j3) chargeTurned_j4) chargeTurned_j5) jg2) chargeTurned_j7) jg3) chargeTurned_j9) chargeTurned_j10) chargeTurned_j11) chargeTurned_j12) chargeTurned_j13) chargeTurned_j14) chargeTurned_j15) chargeTurned_j16) chargeTurned_j17) chargeTurned_j18) chargeTurned_j19) chargeTurned_j20) chargeTurned_j21) chargeTurned_j22) chargeTurned_j23) jg4) jg5) chargeTurned_j26) chargeTurned_j27) chargeTurned_j28) chargeTurned_j29) chargeTurned_j30) chargeTurned_j31)
theorem chargeTurned_holds : Rows.ChargeTurnedSaid :=
  OpenClaim.holds_of_wide 10 Try.f10 rfl rfl rfl rfl rfl rfl rfl ⟨rfl, rfl, rfl, rfl, rfl⟩ rfl rfl rfl rfl rfl (by kernel_rfl) Try.func10 chargeTurned_closed
    (of_decide_eq_true (by kernel_rfl)) (by unfold Func.isWrapper; first | (rw [if_pos (by decide +kernel)]; kernel_rfl) | (rw [if_neg (by decide +kernel)]; exact ⟨rfl, rfl⟩))
    (fun os started H enc _ => chargeTurned_step os started H enc)
end Go.Proofs.Ytmmonbnlleeloaa
