/-
  For every input the laws of vectors answer true: the statements.
-/
import Derived.Test.YtdnjkeeiopcipaaRows
import Derived.Test.YtdnjkeeiopcipaaX04l
import Derived.JoinedCond
set_option linter.unusedSectionVars false
set_option linter.unusedVariables false
set_option linter.unusedSimpArgs false
namespace Go.Proofs.Ytdnjkeeiopcipaa
open Go.Sl Go.Proofs

theorem own : ownKnob Try.prog.godebug = none := by kernel_rfl
theorem argSV_agg {P : Program} {t : TypeId} {n : Nat} {ds : List DV} (h : tySz P t = some (some n)) : argSV P t ds = .agg (ds.map .d) := by simp [argSV, h]
theorem argSV_one {P : Program} {t : TypeId} {ds : List DV} (h : tySz P t = some none) : argSV P t ds = .d (ds.headD .nilp) := by simp [argSV, h]
set_option maxRecDepth 100000 in
theorem vec_fit {d : Nat} {ds : List DV} (h : Fit Try.prog (d + 2) T_api_Vector ds) : ∃ v : Vec, v.wf ∧ ds = v.ds :=
  fit_vec (P := Try.prog) (t := T_api_Vector) (e := T_uint32) Try.underlying25 Try.underlying23 (by kernel_rfl) (by kernel_rfl) h
set_option maxRecDepth 100000 in
theorem dot_fit {d : Nat} {ds : List DV} (h : Fit Try.prog (d + 2) T_api_Dot ds) : ∃ v : Dt, v.wf ∧ ds = v.ds :=
  fit_dot (P := Try.prog) (t := T_api_Dot) Try.underlying44 rfl rfl rfl rfl (by kernel_rfl) (by kernel_rfl) (by kernel_rfl) (by kernel_rfl) (by kernel_rfl) h
theorem vec_arg (v : Vec) : argSV Try.prog T_api_Vector v.ds = .agg v.cells := by rw [argSV_agg (n := 8) (by kernel_rfl), Vec.map_ds]
theorem dot_arg (v : Dt) : argSV Try.prog T_api_Dot v.ds = .agg v.cells := by rw [argSV_agg (n := 2) (by kernel_rfl), Dt.map_ds]

theorem rps_nils {p : Nat → Prop} {μ : Nat → Nm} {M : Mem} {r r' : List SV} (hr : ∀ vs, Rps p μ M r' vs → Rps p μ M r vs) (vs : List Value) (h : Rps p μ M (.d .nils :: r') vs) : Rps p μ M (.d (.sl 0 []) :: r) vs := by
  obtain ⟨u, us, rfl, h1, h2⟩ := Rps.cons_iff.1 h
  exact Rps.cons_iff.2 ⟨u, us, rfl, nils_sl p μ M u h1, hr us h2⟩
set_option maxRecDepth 100000 in
theorem vecs_fit {d : Nat} {ds : List DV} (h : Fit Try.prog (d + 3) T_L_api_Vector ds) : ds = [.nils] ∨ ∃ l : List Vec, (∀ x ∈ l, x.wf) ∧ l.length ≤ 9223372036854775807 ∧ ds = [.sl l.length (l.flatMap Vec.ds)] :=
  fit_slice Vec.ds Vec.wf (P := Try.prog) (t := T_L_api_Vector) (e := T_api_Vector) Try.underlying52 (fun _ h => vec_fit h) h
theorem slice_arg (x : DV) : argSV Try.prog T_L_api_Vector [x] = .d x := by rw [argSV_one (by kernel_rfl)]; rfl

set_option maxRecDepth 100000 in
theorem vectorLeast_fit : ∀ dss, FitAll Try.prog 6 Try.f6.params.toList dss → SB Try.prog 6 (argSVs Try.prog Try.f6.params.toList dss) [] 0 0 fun r F => r = bl true := by
  intro dss h
  rw [show Try.f6.params.toList = [T_api_Vector, T_api_Vector, T_api_Vector] from by kernel_rfl] at h ⊢
  match dss, h with
  | [x0, x1, x2], h =>
    simp only [FitAll] at h
    obtain ⟨h0, h1, h2, _⟩ := h
    obtain ⟨a0, w0, rfl⟩ := vec_fit h0
    obtain ⟨a1, w1, rfl⟩ := vec_fit h1
    obtain ⟨a2, w2, rfl⟩ := vec_fit h2
    simp only [argSVs, vec_arg, dot_arg]
    exact SB.mono (law_least a0 a1 a2) fun r F h => h.1
open Go.ChangeShapes Go.WideShapes Go.ChangeAt Go.RowKit in
set_option maxRecDepth 100000 in
theorem vectorLeast_step (os : Os) (started : os.Started) (H : Type) (enc : TypeId × Value → H) :
    ReturnsInHanded {} Try.checked os 6 .any (Rows.vectorLeastSpec.pre6 enc Try.prog Try.f6 Rows.vectorLeastRow.domain false) (Rows.vectorLeastSpec.post enc Try.prog Try.f6 false true false false) := by
  refine returnsInHanded_of_change (C := Try.checked) own started (by kernel_rfl) Try.func6
    (ChangeSpec.witness6 (enc := enc) (C := Try.checked) false ⟨#[], #[.agg #[.int .u32 0, .int .u32 0, .int .u32 0, .int .u32 0, .int .u32 0, .int .u32 0, .int .u32 0, .int .u32 0], .agg #[.int .u32 0, .int .u32 0, .int .u32 0, .int .u32 0, .int .u32 0, .int .u32 0, .int .u32 0, .int .u32 0], .agg #[.int .u32 0, .int .u32 0, .int .u32 0, .int .u32 0, .int .u32 0, .int .u32 0, .int .u32 0, .int .u32 0]], []⟩ 8 (by kernel_rfl) (by kernel_rfl) (by kernel_rfl) (by kernel_rfl)) ?_
  intro W base args ds gs before hval hW hcnd _
  refine law_calls (f := 6) (fn := Try.f6) (spec := Rows.vectorLeastSpec) (tb := T_bool) 6 (by kernel_rfl) (by kernel_rfl) rfl (by kernel_rfl) rfl (fun ds hl => ?_) (fun dss hf => ?_) W base args ds gs before hval hW
  · rw [show Try.f6.params.toList.length = 3 from by kernel_rfl] at hl
    match ds, hl with
    | [d0, d1, d2], _ => exact ⟨rfl, rfl, rfl⟩
  · exact vectorLeast_fit dss hf
theorem vectorLeast_holds : Rows.VectorLeastSaid :=
  OpenClaim.holds_of_wide 6 Try.f6 rfl rfl rfl rfl rfl rfl rfl ⟨rfl, rfl, rfl, rfl, rfl⟩ rfl rfl rfl rfl rfl (by kernel_rfl) Try.func6 (by kernel_rfl)
    (of_decide_eq_true (by kernel_rfl)) (by unfold Func.isWrapper; first | (rw [if_pos (by decide +kernel)]; kernel_rfl) | (rw [if_neg (by decide +kernel)]; exact ⟨rfl, rfl⟩))
    (fun os started H enc _ => vectorLeast_step os started H enc)
set_option maxRecDepth 100000 in
theorem vectorCovers_fit : ∀ dss, FitAll Try.prog 6 Try.f7.params.toList dss → SB Try.prog 7 (argSVs Try.prog Try.f7.params.toList dss) [] 0 0 fun r F => r = bl true := by
  intro dss h
  rw [show Try.f7.params.toList = [T_api_Vector, T_api_Vector, T_api_Dot] from by kernel_rfl] at h ⊢
  match dss, h with
  | [x0, x1, x2], h =>
    simp only [FitAll] at h
    obtain ⟨h0, h1, h2, _⟩ := h
    obtain ⟨a0, w0, rfl⟩ := vec_fit h0
    obtain ⟨a1, w1, rfl⟩ := vec_fit h1
    obtain ⟨a2, w2, rfl⟩ := dot_fit h2
    simp only [argSVs, vec_arg, dot_arg]
    exact SB.mono (law_covers a0 a1 a2 w0 w1 w2) fun r F h => h.1
open Go.ChangeShapes Go.WideShapes Go.ChangeAt Go.RowKit in
set_option maxRecDepth 100000 in
theorem vectorCovers_step (os : Os) (started : os.Started) (H : Type) (enc : TypeId × Value → H) :
    ReturnsInHanded {} Try.checked os 7 .any (Rows.vectorCoversSpec.pre6 enc Try.prog Try.f7 Rows.vectorCoversRow.domain false) (Rows.vectorCoversSpec.post enc Try.prog Try.f7 false true false false) := by
  refine returnsInHanded_of_change (C := Try.checked) own started (by kernel_rfl) Try.func7
    (ChangeSpec.witness6 (enc := enc) (C := Try.checked) false ⟨#[], #[.agg #[.int .u32 0, .int .u32 0, .int .u32 0, .int .u32 0, .int .u32 0, .int .u32 0, .int .u32 0, .int .u32 0], .agg #[.int .u32 0, .int .u32 0, .int .u32 0, .int .u32 0, .int .u32 0, .int .u32 0, .int .u32 0, .int .u32 0], .agg #[.int .u8 0, .int .u32 0]], []⟩ 8 (by kernel_rfl) (by kernel_rfl) (by kernel_rfl) (by kernel_rfl)) ?_
  intro W base args ds gs before hval hW hcnd _
  refine law_calls (f := 7) (fn := Try.f7) (spec := Rows.vectorCoversSpec) (tb := T_bool) 6 (by kernel_rfl) (by kernel_rfl) rfl (by kernel_rfl) rfl (fun ds hl => ?_) (fun dss hf => ?_) W base args ds gs before hval hW
  · rw [show Try.f7.params.toList.length = 3 from by kernel_rfl] at hl
    match ds, hl with
    | [d0, d1, d2], _ => exact ⟨rfl, rfl, rfl⟩
  · exact vectorCovers_fit dss hf
theorem vectorCovers_holds : Rows.VectorCoversSaid :=
  OpenClaim.holds_of_wide 7 Try.f7 rfl rfl rfl rfl rfl rfl rfl ⟨rfl, rfl, rfl, rfl, rfl⟩ rfl rfl rfl rfl rfl (by kernel_rfl) Try.func7 (by kernel_rfl)
    (of_decide_eq_true (by kernel_rfl)) (by unfold Func.isWrapper; first | (rw [if_pos (by decide +kernel)]; kernel_rfl) | (rw [if_neg (by decide +kernel)]; exact ⟨rfl, rfl⟩))
    (fun os started H enc _ => vectorCovers_step os started H enc)
set_option maxRecDepth 100000 in
theorem vectorTells_fit : ∀ dss, FitAll Try.prog 6 Try.f9.params.toList dss → SB Try.prog 9 (argSVs Try.prog Try.f9.params.toList dss) [] 0 0 fun r F => r = bl true := by
  intro dss h
  rw [show Try.f9.params.toList = [T_api_Vector, T_api_Vector, T_api_Dot] from by kernel_rfl] at h ⊢
  match dss, h with
  | [x0, x1, x2], h =>
    simp only [FitAll] at h
    obtain ⟨h0, h1, h2, _⟩ := h
    obtain ⟨a0, w0, rfl⟩ := vec_fit h0
    obtain ⟨a1, w1, rfl⟩ := vec_fit h1
    obtain ⟨a2, w2, rfl⟩ := dot_fit h2
    simp only [argSVs, vec_arg, dot_arg]
    exact SB.mono (law_tells a0 a1 a2 w0 w1 w2) fun r F h => h.1
open Go.ChangeShapes Go.WideShapes Go.ChangeAt Go.RowKit in
set_option maxRecDepth 100000 in
theorem vectorTells_step (os : Os) (started : os.Started) (H : Type) (enc : TypeId × Value → H) :
    ReturnsInHanded {} Try.checked os 9 .any (Rows.vectorTellsSpec.pre6 enc Try.prog Try.f9 Rows.vectorTellsRow.domain false) (Rows.vectorTellsSpec.post enc Try.prog Try.f9 false true false false) := by
  refine returnsInHanded_of_change (C := Try.checked) own started (by kernel_rfl) Try.func9
    (ChangeSpec.witness6 (enc := enc) (C := Try.checked) false ⟨#[], #[.agg #[.int .u32 0, .int .u32 0, .int .u32 0, .int .u32 0, .int .u32 0, .int .u32 0, .int .u32 0, .int .u32 0], .agg #[.int .u32 0, .int .u32 0, .int .u32 0, .int .u32 0, .int .u32 0, .int .u32 0, .int .u32 0, .int .u32 0], .agg #[.int .u8 0, .int .u32 0]], []⟩ 8 (by kernel_rfl) (by kernel_rfl) (by kernel_rfl) (by kernel_rfl)) ?_
  intro W base args ds gs before hval hW hcnd _
  refine law_calls (f := 9) (fn := Try.f9) (spec := Rows.vectorTellsSpec) (tb := T_bool) 6 (by kernel_rfl) (by kernel_rfl) rfl (by kernel_rfl) rfl (fun ds hl => ?_) (fun dss hf => ?_) W base args ds gs before hval hW
  · rw [show Try.f9.params.toList.length = 3 from by kernel_rfl] at hl
    match ds, hl with
    | [d0, d1, d2], _ => exact ⟨rfl, rfl, rfl⟩
  · exact vectorTells_fit dss hf
theorem vectorTells_holds : Rows.VectorTellsSaid :=
  OpenClaim.holds_of_wide 9 Try.f9 rfl rfl rfl rfl rfl rfl rfl ⟨rfl, rfl, rfl, rfl, rfl⟩ rfl rfl rfl rfl rfl (by kernel_rfl) Try.func9 (by kernel_rfl)
    (of_decide_eq_true (by kernel_rfl)) (by unfold Func.isWrapper; first | (rw [if_pos (by decide +kernel)]; kernel_rfl) | (rw [if_neg (by decide +kernel)]; exact ⟨rfl, rfl⟩))
    (fun os started H enc _ => vectorTells_step os started H enc)
set_option maxRecDepth 100000 in
theorem vectorLacks_fit : ∀ dss, FitAll Try.prog 6 Try.f8.params.toList dss → SB Try.prog 8 (argSVs Try.prog Try.f8.params.toList dss) [] 0 0 fun r F => r = bl true := by
  intro dss h
  rw [show Try.f8.params.toList = [T_api_Vector, T_api_Vector] from by kernel_rfl] at h ⊢
  match dss, h with
  | [x0, x1], h =>
    simp only [FitAll] at h
    obtain ⟨h0, h1, _⟩ := h
    obtain ⟨a0, w0, rfl⟩ := vec_fit h0
    obtain ⟨a1, w1, rfl⟩ := vec_fit h1
    simp only [argSVs, vec_arg, dot_arg]
    exact SB.mono (law_lacks a0 a1 w0 w1) fun r F h => h.1
open Go.ChangeShapes Go.WideShapes Go.ChangeAt Go.RowKit in
set_option maxRecDepth 100000 in
theorem vectorLacks_step (os : Os) (started : os.Started) (H : Type) (enc : TypeId × Value → H) :
    ReturnsInHanded {} Try.checked os 8 .any (Rows.vectorLacksSpec.pre6 enc Try.prog Try.f8 Rows.vectorLacksRow.domain false) (Rows.vectorLacksSpec.post enc Try.prog Try.f8 false true false false) := by
  refine returnsInHanded_of_change (C := Try.checked) own started (by kernel_rfl) Try.func8
    (ChangeSpec.witness6 (enc := enc) (C := Try.checked) false ⟨#[], #[.agg #[.int .u32 0, .int .u32 0, .int .u32 0, .int .u32 0, .int .u32 0, .int .u32 0, .int .u32 0, .int .u32 0], .agg #[.int .u32 0, .int .u32 0, .int .u32 0, .int .u32 0, .int .u32 0, .int .u32 0, .int .u32 0, .int .u32 0]], []⟩ 8 (by kernel_rfl) (by kernel_rfl) (by kernel_rfl) (by kernel_rfl)) ?_
  intro W base args ds gs before hval hW hcnd _
  refine law_calls (f := 8) (fn := Try.f8) (spec := Rows.vectorLacksSpec) (tb := T_bool) 6 (by kernel_rfl) (by kernel_rfl) rfl (by kernel_rfl) rfl (fun ds hl => ?_) (fun dss hf => ?_) W base args ds gs before hval hW
  · rw [show Try.f8.params.toList.length = 2 from by kernel_rfl] at hl
    match ds, hl with
    | [d0, d1], _ => exact ⟨rfl, rfl, rfl⟩
  · exact vectorLacks_fit dss hf
theorem vectorLacks_holds : Rows.VectorLacksSaid :=
  OpenClaim.holds_of_wide 8 Try.f8 rfl rfl rfl rfl rfl rfl rfl ⟨rfl, rfl, rfl, rfl, rfl⟩ rfl rfl rfl rfl rfl (by kernel_rfl) Try.func8 (by kernel_rfl)
    (of_decide_eq_true (by kernel_rfl)) (by unfold Func.isWrapper; first | (rw [if_pos (by decide +kernel)]; kernel_rfl) | (rw [if_neg (by decide +kernel)]; exact ⟨rfl, rfl⟩))
    (fun os started H enc _ => vectorLacks_step os started H enc)
set_option maxRecDepth 100000 in
theorem vectorRows_fit : ∀ dss, FitAll Try.prog 6 Try.f5.params.toList dss → SB Try.prog 5 (argSVs Try.prog Try.f5.params.toList dss) [] 0 0 fun r F => r = bl true := by
  intro dss h
  rw [show Try.f5.params.toList = [T_L_api_Vector] from by kernel_rfl] at h ⊢
  match dss, h with
  | [x0], h =>
    simp only [FitAll] at h
    obtain ⟨h0, _⟩ := h
    rcases vecs_fit h0 with rfl | ⟨a0, w0, n0, rfl⟩
    · simp only [argSVs, slice_arg]
      exact SB.mono (SB.args (law_rows []) rfl (fun p μ M vs => rps_nils (fun _ h => h) vs)) fun r F h => h.1
    · simp only [argSVs, slice_arg]
      exact SB.mono (law_rows a0) fun r F h => h.1
open Go.ChangeShapes Go.WideShapes Go.ChangeAt Go.RowKit in
set_option maxRecDepth 100000 in
theorem vectorRows_step (os : Os) (started : os.Started) (H : Type) (enc : TypeId × Value → H) :
    ReturnsInHanded {} Try.checked os 5 .any (Rows.vectorRowsSpec.pre6 enc Try.prog Try.f5 Rows.vectorRowsRow.domain false) (Rows.vectorRowsSpec.post enc Try.prog Try.f5 false true false false) := by
  refine returnsInHanded_of_change (C := Try.checked) own started (by kernel_rfl) Try.func5
    (ChangeSpec.witness6 (enc := enc) (C := Try.checked) false ⟨#[], #[.slice none 0 0], []⟩ 8 (by kernel_rfl) (by kernel_rfl) (by kernel_rfl) (by kernel_rfl)) ?_
  intro W base args ds gs before hval hW hcnd _
  refine law_calls (f := 5) (fn := Try.f5) (spec := Rows.vectorRowsSpec) (tb := T_bool) 6 (by kernel_rfl) (by kernel_rfl) rfl (by kernel_rfl) rfl (fun ds hl => ?_) (fun dss hf => ?_) W base args ds gs before hval hW
  · rw [show Try.f5.params.toList.length = 1 from by kernel_rfl] at hl
    match ds, hl with
    | [d0], _ => exact ⟨rfl, rfl, rfl⟩
  · exact vectorRows_fit dss hf
theorem vectorRows_holds : Rows.VectorRowsSaid :=
  OpenClaim.holds_of_wide 5 Try.f5 rfl rfl rfl rfl rfl rfl rfl ⟨rfl, rfl, rfl, rfl, rfl⟩ rfl rfl rfl rfl rfl (by kernel_rfl) Try.func5 (by kernel_rfl)
    (of_decide_eq_true (by kernel_rfl)) (by unfold Func.isWrapper; first | (rw [if_pos (by decide +kernel)]; kernel_rfl) | (rw [if_neg (by decide +kernel)]; exact ⟨rfl, rfl⟩))
    (fun os started H enc _ => vectorRows_step os started H enc)
end Go.Proofs.Ytdnjkeeiopcipaa
