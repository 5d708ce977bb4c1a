/-
  For every input the law of rounds answers true: the statement.
-/
import Derived.Test.YtpbfnenlbkjhgaaRows
import Derived.Test.YtpbfnenlbkjhgaaKD
import Derived.JoinedCond
set_option linter.unusedSectionVars false
set_option linter.unusedVariables false
set_option linter.unusedSimpArgs false
namespace Go.Proofs.Ytpbfnenlbkjhgaa
open Go.Sl Go.Proofs

theorem own : ownKnob Try.prog.godebug = none := by kernel_rfl
theorem argSV_one {P : Program} {t : TypeId} {ds : List DV} (h : tySz P t = some none) : argSV P t ds = .d (ds.headD .nilp) := by simp [argSV, h]
theorem bulk_pos {H : Type} (x : DataW H) : 1 ≤ Rows.uptoBulk x := by
  unfold Rows.uptoBulk
  split <;> omega
theorem bulk_mem {H : Type} : ∀ (es : List (DataW H)) (x : DataW H), x ∈ es → Rows.uptoBulk x ≤ Rows.uptoBulkAll es
  | y :: es, x, h => by
    rw [Rows.uptoBulkAll]
    rcases List.mem_cons.1 h with rfl | h
    · omega
    · have := bulk_mem es x h; omega
theorem bulk_len {H : Type} : ∀ (es : List (DataW H)), es.length ≤ Rows.uptoBulkAll es
  | [] => by simp [Rows.uptoBulkAll]
  | y :: es => by
    have h1 := bulk_len es
    have h2 := bulk_pos y
    rw [Rows.uptoBulkAll, List.length_cons]; omega
theorem bulk {H : Type} : Bulk (H := H) Rows.uptoBulk := by
  refine ⟨fun es sp x hx => ?_, fun es sp => ?_, fun xs x hx => ?_⟩
  · have := bulk_mem es x hx
    rw [Rows.uptoBulk]; omega
  · have := bulk_len es
    rw [Rows.uptoBulk]; omega
  · have := bulk_mem xs x hx
    rw [Rows.uptoBulk]; omega
theorem fit_i64 {P : Program} {d : Nat} {t : TypeId} {ds : List DV} (hu : P.underlying t = some (.int .i64)) (h : Fit P (d + 1) t ds) : ∃ n : Int, i64ok n ∧ ds = [.int .i64 n] := by
  simp only [Fit] at h
  rw [hu] at h
  obtain ⟨n, rfl, hw⟩ := h
  refine ⟨n, ?_, rfl⟩
  simp only [Lit.wf, IntKind.min, IntKind.max, Bool.and_eq_true, decide_eq_true_eq] at hw
  unfold i64ok
  revert hw
  simp [IntKind.bits, IntKind.signed]
theorem globOk_nil (M : Mem) : GlobOk M := fun g cs hg => by simp [globs, rawGlobs] at hg
theorem int_arg (x : DV) : argSV Try.prog T_int [x] = .d x := by rw [argSV_one (by kernel_rfl)]; rfl
theorem fitAll2 {P : Program} {d : Nat} {t1 t2 : TypeId} {dss : List (List DV)} (h : FitAll P d [t1, t2] dss) : ∃ x0 x1, dss = [x0, x1] ∧ Fit P d t1 x0 ∧ Fit P d t2 x1 := by
  match dss, h with
  | [x0, x1], h =>
    simp only [FitAll] at h
    exact ⟨x0, x1, rfl, h.1, h.2.1⟩
set_option maxRecDepth 100000 in
theorem gossipRounds_fit : ∀ dss, FitAll Try.prog 6 Try.f3.params.toList dss → SB Try.prog 3 (argSVs Try.prog Try.f3.params.toList dss) [] 0 0 fun r F => r = bl true := by
  intro dss h
  have hp : Try.f3.params.toList = [T_int, T_int] := by kernel_rfl
  rw [hp] at h ⊢
  obtain ⟨x0, x1, rfl, h0, h1⟩ := fitAll2 h
  obtain ⟨a0, w0, rfl⟩ := fit_i64 (P := Try.prog) (d := 5) Try.underlying3 h0
  obtain ⟨a1, w1, rfl⟩ := fit_i64 (P := Try.prog) (d := 5) Try.underlying3 h1
  simp only [argSVs, int_arg]
  exact SB.mono (rounds_law a0 a1 w0 w1) fun r F h => h.1
open Go.ChangeShapes Go.WideShapes Go.ChangeAt Go.RowKit in
set_option maxRecDepth 100000 in
theorem gossipRounds_step (os : Os) (started : os.Started) (H : Type) (enc : TypeId × Value → H) :
    ReturnsInHanded {} Try.checked os 3 .any (Rows.gossipRoundsSpec.pre6 enc Try.prog Try.f3 Rows.gossipRoundsRow.domain false) (Rows.gossipRoundsSpec.post enc Try.prog Try.f3 false true false false) := by
  refine returnsInHanded_of_change (C := Try.checked) own started (by kernel_rfl) Try.func3
    (ChangeSpec.witness6 (enc := enc) (C := Try.checked) false ⟨#[], #[.int .i64 0, .int .i64 0], []⟩ 8 (by kernel_rfl) (by kernel_rfl) (by kernel_rfl) (by kernel_rfl)) ?_
  intro W base args ds gs before hval hW hcnd _
  refine law_calls (f := 3) (fn := Try.f3) (spec := Rows.gossipRoundsSpec) (tb := T_bool) 6 (by kernel_rfl) (by kernel_rfl) rfl (by kernel_rfl) rfl (fun ds hl => ?_) Rows.uptoBulk (Rows.uptoBulkAll ds) bulk (fun dss hf _ => ?_) W base args ds gs before hval hW (globOk_nil _) (bulk_mem ds)
  · rw [show Try.f3.params.toList.length = 2 from by kernel_rfl] at hl
    match ds, hl with
    | [d0, d1], _ => exact ⟨rfl, rfl, rfl⟩
  · exact gossipRounds_fit dss hf
theorem gossipRounds_holds : Rows.GossipRoundsSaid :=
  OpenClaim.holds_of_wide 3 Try.f3 rfl rfl rfl rfl rfl rfl rfl ⟨rfl, rfl, rfl, rfl, rfl⟩ rfl rfl rfl rfl rfl (by kernel_rfl) Try.func3 (by kernel_rfl)
    (of_decide_eq_true (by kernel_rfl)) (by unfold Func.isWrapper; first | (rw [if_pos (by decide +kernel)]; kernel_rfl) | (rw [if_neg (by decide +kernel)]; exact ⟨rfl, rfl⟩))
    (fun os started H enc _ => gossipRounds_step os started H enc)
end Go.Proofs.Ytpbfnenlbkjhgaa
