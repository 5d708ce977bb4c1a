/-
  For every dot the law that an index that is none has nothing answers true: the statement.
-/
import Derived.Test.YtlgfknfdfnaedaaUH
import Derived.Test.YtlgfknfdfnaedaaRows
import Derived.SizedLaws
import Derived.Test.YtlgfknfdfnaedaaUS
set_option linter.unusedSectionVars false
set_option linter.unusedVariables false
set_option linter.unusedSimpArgs false
namespace Go.Proofs.Ytlgfknfdfnaedaa
open Go.Sl Go.Proofs
theorem weightsEach_more {H : Type} {P : Program} {n : Nat} {us : List TypeId} {gs : List (DataW H)} : ∀ {ts : List TypeId} {ds : List (DataW H)}, n ∈ DataW.weightsEach P ts ds → n ∈ DataW.weightsEach P (ts ++ us) (ds ++ gs)
  | [], _, h => by simp [DataW.weightsEach] at h
  | _ :: _, [], h => by simp [DataW.weightsEach] at h
  | t :: ts, d :: ds, h => by
    simp only [DataW.weightsEach, List.mem_append, List.cons_append] at h ⊢
    exact h.imp id weightsEach_more
theorem fitAll1 {P : Program} {d : Nat} {t1 : TypeId} {dss : List (List DV)} (h : FitAll P d [t1] dss) : ∃ x0, dss = [x0] ∧ Fit P d t1 x0 := by
  match dss, h with
  | [x0], h => exact ⟨x0, rfl, h.1⟩
set_option maxRecDepth 100000 in
theorem dot_arg (v : Dt) : argSV Try.prog T_api_Dot v.ds = .agg v.cells := by rw [argSV_agg (n := 2) (by kernel_rfl), Dt.map_ds]
set_option maxRecDepth 100000 in
theorem revokeNone_fit : ∀ dss, FitAll Try.prog 7 Try.f5.params.toList dss → (∀ ds, ds ∈ dss → smallR reachBytes ds) → SB Try.prog 5 (argSVs Try.prog Try.f5.params.toList dss) [] 0 0 fun r F => r = bl true := by
  intro dss h hs
  have hp : Try.f5.params.toList = [T_api_Dot] := by kernel_rfl
  rw [hp] at h ⊢
  obtain ⟨x0, rfl, h0⟩ := fitAll1 h
  obtain ⟨d, _, rfl⟩ := dot_fit (d := 5) h0
  simp only [argSVs, dot_arg]
  exact SB.mono (law_none18 d) fun r F h => h
open Go.ChangeShapes Go.WideShapes Go.ChangeAt Go.RowKit in
set_option maxRecDepth 100000 in
theorem revokeNone_step (os : Os) (started : os.Started) (H : Type) (enc : TypeId × Value → H) :
    ReturnsInHanded {} Try.checked os 5 .any (Rows.revokeNoneSpec.pre6 enc Try.prog Try.f5 Rows.revokeNoneRow.domain false) (Rows.revokeNoneSpec.post enc Try.prog Try.f5 false true false false) := by
  refine returnsInHanded_of_change_sized (C := Try.checked) own started (by kernel_rfl) Try.func5
    (ChangeSpec.witness6 (enc := enc) (C := Try.checked) false ⟨#[], #[.agg #[.int .u8 0, .int .u32 0]], []⟩ 8 (by kernel_rfl) (by kernel_rfl) (by kernel_rfl) (by kernel_rfl)) ?_
  intro W base args ds gs before hval hW hcnd hsz _
  refine law_calls (f := 5) (fn := Try.f5) (spec := Rows.revokeNoneSpec) (tb := T_bool) 7 (by kernel_rfl) (by kernel_rfl) rfl (by kernel_rfl) rfl (fun ds hl => ?_) reachBytes (fun dss hf hs => ?_) W base args ds gs before hval hW (globOk_nil _) (fun n hn => by simpa using List.all_eq_true.1 hsz n (weightsEach_more hn))
  · rw [show Try.f5.params.toList.length = 1 from by kernel_rfl] at hl
    match ds, hl with
    | [d0], _ => exact ⟨rfl, rfl, rfl⟩
  · exact revokeNone_fit dss hf hs
theorem revokeNone_holds : Rows.RevokeNoneSaid :=
  OpenClaim.holds_of_wide 5 Try.f5 rfl rfl rfl rfl rfl rfl rfl ⟨rfl, rfl, rfl, rfl, rfl⟩ rfl rfl rfl rfl rfl (by kernel_rfl) Try.func5 (by kernel_rfl)
    (of_decide_eq_true (by kernel_rfl)) (by unfold Func.isWrapper; first | (rw [if_pos (by decide +kernel)]; kernel_rfl) | (rw [if_neg (by decide +kernel)]; exact ⟨rfl, rfl⟩))
    (fun os started H enc _ => revokeNone_step os started H enc)
end Go.Proofs.Ytlgfknfdfnaedaa
