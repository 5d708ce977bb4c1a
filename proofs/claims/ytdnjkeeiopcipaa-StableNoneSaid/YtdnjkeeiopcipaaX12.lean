/-
  For every input the laws of trackers answer true: the statements.
-/
import Derived.Test.YtdnjkeeiopcipaaRows
import Derived.Test.YtdnjkeeiopcipaaW12r
import Derived.JoinedCond
set_option linter.unusedSectionVars false
set_option linter.unusedVariables false
set_option linter.unusedSimpArgs false
namespace Go.Proofs.Ytdnjkeeiopcipaa
open Go.Sl Go.Proofs

theorem own : ownKnob Try.prog.godebug = none := by kernel_rfl
theorem argSV_agg {P : Program} {t : TypeId} {n : Nat} {ds : List DV} (h : tySz P t = some (some n)) : argSV P t ds = .agg (ds.map .d) := by simp [argSV, h]
theorem argSV_one {P : Program} {t : TypeId} {ds : List DV} (h : tySz P t = some none) : argSV P t ds = .d (ds.headD .nilp) := by simp [argSV, h]
set_option maxRecDepth 100000 in
theorem vec_fit {d : Nat} {ds : List DV} (h : Fit Try.prog (d + 2) T_api_Vector ds) : ∃ v : Vec, v.wf ∧ ds = v.ds :=
  fit_vec (P := Try.prog) (t := T_api_Vector) (e := T_uint32) Try.underlying25 Try.underlying23 (by kernel_rfl) (by kernel_rfl) h
theorem vec_arg (v : Vec) : argSV Try.prog T_api_Vector v.ds = .agg v.cells := by rw [argSV_agg (n := 8) (by kernel_rfl), Vec.map_ds]
theorem u8_arg (x : DV) : argSV Try.prog T_uint8 [x] = .d x := by rw [argSV_one (by kernel_rfl)]; rfl

set_option maxRecDepth 100000 in
theorem stableNone_fit : ∀ dss, FitAll Try.prog 6 Try.f12.params.toList dss → SB Try.prog 12 (argSVs Try.prog Try.f12.params.toList dss) [] 0 0 fun r F => r = bl true := by
  intro dss h
  rw [show Try.f12.params.toList = [T_uint8, T_api_Vector] from by kernel_rfl] at h ⊢
  match dss, h with
  | [x0, x1], h =>
    simp only [FitAll] at h
    obtain ⟨h0, h1, _⟩ := h
    obtain ⟨a0, w0, rfl⟩ := fit_u8 Try.underlying5 h0
    obtain ⟨a1, w1, rfl⟩ := vec_fit h1
    simp only [argSVs, u8_arg, vec_arg]
    exact SB.mono (law_none a0 w0 a1) fun r F h => h.1
open Go.ChangeShapes Go.WideShapes Go.ChangeAt Go.RowKit in
set_option maxRecDepth 100000 in
theorem stableNone_step (os : Os) (started : os.Started) (H : Type) (enc : TypeId × Value → H) :
    ReturnsInHanded {} Try.checked os 12 .any (Rows.stableNoneSpec.pre6 enc Try.prog Try.f12 Rows.stableNoneRow.domain false) (Rows.stableNoneSpec.post enc Try.prog Try.f12 false true false false) := by
  refine returnsInHanded_of_change (C := Try.checked) own started (by kernel_rfl) Try.func12
    (ChangeSpec.witness6 (enc := enc) (C := Try.checked) false ⟨#[], #[.int .u8 0, .agg #[.int .u32 0, .int .u32 0, .int .u32 0, .int .u32 0, .int .u32 0, .int .u32 0, .int .u32 0, .int .u32 0]], []⟩ 8 (by kernel_rfl) (by kernel_rfl) (by kernel_rfl) (by kernel_rfl)) ?_
  intro W base args ds gs before hval hW hcnd _
  refine law_calls (f := 12) (fn := Try.f12) (spec := Rows.stableNoneSpec) (tb := T_bool) 6 (by kernel_rfl) (by kernel_rfl) rfl (by kernel_rfl) rfl (fun ds hl => ?_) (fun dss hf => ?_) W base args ds gs before hval hW
  · rw [show Try.f12.params.toList.length = 2 from by kernel_rfl] at hl
    match ds, hl with
    | [d0, d1], _ => exact ⟨rfl, rfl, rfl⟩
  · exact stableNone_fit dss hf
theorem stableNone_holds : Rows.StableNoneSaid :=
  OpenClaim.holds_of_wide 12 Try.f12 rfl rfl rfl rfl rfl rfl rfl ⟨rfl, rfl, rfl, rfl, rfl⟩ rfl rfl rfl rfl rfl (by kernel_rfl) Try.func12 (by kernel_rfl)
    (of_decide_eq_true (by kernel_rfl)) (by unfold Func.isWrapper; first | (rw [if_pos (by decide +kernel)]; kernel_rfl) | (rw [if_neg (by decide +kernel)]; exact ⟨rfl, rfl⟩))
    (fun os started H enc _ => stableNone_step os started H enc)
end Go.Proofs.Ytdnjkeeiopcipaa
