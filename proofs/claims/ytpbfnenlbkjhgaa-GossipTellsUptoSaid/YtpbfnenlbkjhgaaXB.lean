/-
  For every input that is not vast the law that what is lacked, digests and deltas are the document's answers true: the statement.
-/
import Derived.Test.YtpbfnenlbkjhgaaRows
import Derived.Test.YtpbfnenlbkjhgaaKE
import Derived.JoinedCond
set_option linter.unusedSectionVars false
set_option linter.unusedVariables false
set_option linter.unusedSimpArgs false
namespace Go.Proofs.Ytpbfnenlbkjhgaa
open Go.Sl Go.Proofs

theorem own : ownKnob Try.prog.godebug = none := by kernel_rfl
theorem bulk_pos {H : Type} (x : DataW H) : 1 ≤ Rows.uptoBulk x := by
  unfold Rows.uptoBulk
  split <;> omega
theorem bulk_mem {H : Type} : ∀ (es : List (DataW H)) (x : DataW H), x ∈ es → Rows.uptoBulk x ≤ Rows.uptoBulkAll es
  | y :: es, x, h => by
    rw [Rows.uptoBulkAll]
    rcases List.mem_cons.1 h with rfl | h
    · omega
    · have := bulk_mem es x h; omega
theorem bulk_len {H : Type} : ∀ (es : List (DataW H)), es.length ≤ Rows.uptoBulkAll es
  | [] => by simp [Rows.uptoBulkAll]
  | y :: es => by
    have h1 := bulk_len es
    have h2 := bulk_pos y
    rw [Rows.uptoBulkAll, List.length_cons]; omega
theorem bulk {H : Type} : Bulk (H := H) Rows.uptoBulk := by
  refine ⟨fun es sp x hx => ?_, fun es sp => ?_, fun xs x hx => ?_⟩
  · have := bulk_mem es x hx
    rw [Rows.uptoBulk]; omega
  · have := bulk_len es
    rw [Rows.uptoBulk]; omega
  · have := bulk_mem xs x hx
    rw [Rows.uptoBulk]; omega
theorem globOk_nil (M : Mem) : GlobOk M := fun g cs hg => by simp [globs, rawGlobs] at hg
theorem fitAll3 {P : Program} {d : Nat} {t1 t2 t3 : TypeId} {dss : List (List DV)} (h : FitAll P d [t1, t2, t3] dss) : ∃ x0 x1 x2, dss = [x0, x1, x2] ∧ Fit P d t1 x0 ∧ Fit P d t2 x1 ∧ Fit P d t3 x2 := by
  match dss, h with
  | [x0, x1, x2], h =>
    simp only [FitAll] at h
    exact ⟨x0, x1, x2, rfl, h.1, h.2.1, h.2.2.1⟩
set_option maxRecDepth 100000 in
theorem ends_fit {d : Nat} {ds : List DV} (h : Fit Try.prog (d + 2) T_tranterlaw14_Ends ds) : ∃ (fr to : Nat) (most : Int), ds = [.int .u8 fr, .int .u8 to, .int .i64 most] := by
  have f0 := fit_field (P := Try.prog) (t := T_tranterlaw14_Ends) Try.underlying30 h 0 _ rfl
  have f1 := fit_field (P := Try.prog) (t := T_tranterlaw14_Ends) Try.underlying30 h 1 _ rfl
  have f2 := fit_field (P := Try.prog) (t := T_tranterlaw14_Ends) Try.underlying30 h 2 _ rfl
  have hl := fit_len (P := Try.prog) (t := T_tranterlaw14_Ends) Try.underlying30 h
  rw [show Try.prog.cellsOf T_tranterlaw14_Ends = 3 from by kernel_rfl] at hl
  obtain ⟨x0, w0, e0⟩ := fit_u8 (P := Try.prog) Try.underlying5 f0
  obtain ⟨x1, w1, e1⟩ := fit_u8 (P := Try.prog) Try.underlying5 f1
  obtain ⟨x2, w2, e2⟩ := fit_i64 (P := Try.prog) Try.underlying3 f2
  refine ⟨x0, x1, x2, ?_⟩
  have g0 : ds.drop 0 = [.int .u8 x0] ++ ds.drop 1 := cutR (n := 1) e0 rfl
  have g1 : ds.drop 1 = [.int .u8 x1] ++ ds.drop 2 := cutR (n := 1) e1 rfl
  have g2 : ds.drop 2 = [.int .i64 x2] ++ ds.drop 3 := cutR (n := 1) e2 rfl
  have g : ds.drop 3 = [] := List.drop_of_length_le (by omega)
  have g' : ds = ds.drop 0 := rfl
  rw [g', g0, g1, g2, g]
  rfl
theorem ends_arg (fr to : Nat) (most : Int) : argSV Try.prog T_tranterlaw14_Ends [.int .u8 fr, .int .u8 to, .int .i64 most] = .agg (endsC fr to most) := by rw [argSV_agg (n := 3) (by kernel_rfl)]; rfl
set_option maxRecDepth 100000 in
theorem gossipTells_fit : ∀ dss, FitAll Try.prog 6 Try.f4.params.toList dss → (∀ ds, ds ∈ dss → smallR 1048576 ds) → SB Try.prog 4 (argSVs Try.prog Try.f4.params.toList dss) [] 0 0 fun r F => r = bl true := by
  intro dss h hs
  have hp : Try.f4.params.toList = [T_L_api_Op, T_api_Vector, T_tranterlaw14_Ends] := by kernel_rfl
  rw [hp] at h ⊢
  obtain ⟨x0, x1, x2, rfl, h0, h1, h2⟩ := fitAll3 h
  obtain ⟨x, l, rfl, hn, hl, hw⟩ := ops_weak (d := 0) h0 (hs _ (by simp))
  obtain ⟨v, wv, rfl⟩ := vec_fit (d := 4) h1
  obtain ⟨fr, to, most, rfl⟩ := ends_fit (d := 4) h2
  simp only [argSVs, ops_arg, vec_arg, ends_arg]
  exact SB.mono (SB.args (tells_law l v fr to most ⟨hn, hl⟩) (by simp [SV.ok, SV.oks, Vec.cells_ok, endsC]) (fun p μ M vs hv => hw p μ M _ _ (fun _ h => h) vs hv)) fun r F h => h.1
open Go.ChangeShapes Go.WideShapes Go.ChangeAt Go.RowKit in
set_option maxRecDepth 100000 in
theorem gossipTells_step (os : Os) (started : os.Started) (H : Type) (enc : TypeId × Value → H) (F : Stop.Interp) :
    ReturnsInHanded {} Try.checked os 4 .any ((Rows.OpenSpec.upto Rows.gossipTellsSpec).pre6 enc Try.prog Try.f4 Rows.gossipTellsUptoRow.domain false) (((Rows.OpenSpec.upto Rows.gossipTellsSpec).at F).post enc Try.prog Try.f4 false true false false) := by
  refine returnsInHanded_of_cond (C := Try.checked) (s := Rows.OpenSpec.upto Rows.gossipTellsSpec) (k := Rows.uptoSmall) rfl own started (by kernel_rfl) Try.func4
    (OpenSpec.witness (enc := enc) (C := Try.checked) (s := Rows.OpenSpec.upto Rows.gossipTellsSpec) (k := Rows.uptoSmall) rfl false ⟨#[], #[.slice none 0 0, .agg #[.int .u32 0, .int .u32 0, .int .u32 0, .int .u32 0, .int .u32 0, .int .u32 0, .int .u32 0, .int .u32 0], .agg #[.int .u8 0, .int .u8 0, .int .i64 0]], []⟩ 8 (by kernel_rfl) (by kernel_rfl) (by kernel_rfl)
      (x := ([.nil, .agg [.lit (.int .u32 0), .lit (.int .u32 0), .lit (.int .u32 0), .lit (.int .u32 0), .lit (.int .u32 0), .lit (.int .u32 0), .lit (.int .u32 0), .lit (.int .u32 0)], .agg [.lit (.int .u8 0), .lit (.int .u8 0), .lit (.int .i64 0)]], [], [])) (by kernel_rfl) rfl (by kernel_rfl)) ?_
  intro W base args ds gs before hval hW _ hk _
  have hk2 : Rows.uptoBulkAll (ds ++ gs) ≤ 1048576 := of_decide_eq_true hk
  refine law_calls (f := 4) (fn := Try.f4) (spec := Rows.gossipTellsSpec) (tb := T_bool) 6 (by kernel_rfl) (by kernel_rfl) rfl (by kernel_rfl) rfl (fun ds hl => ?_) Rows.uptoBulk 1048576 bulk (fun dss hf hs => ?_) W base args ds gs before hval hW (globOk_nil _) (fun x hx => Nat.le_trans (bulk_mem (ds ++ gs) x (List.mem_append.2 (.inl hx))) hk2)
  · rw [show Try.f4.params.toList.length = 3 from by kernel_rfl] at hl
    match ds, hl with
    | [d0, d1, d2], _ => exact ⟨rfl, rfl, rfl⟩
  · exact gossipTells_fit dss hf hs
theorem gossipTells_holds : Rows.GossipTellsUptoSaid :=
  OpenClaim.holds_of_cond 4 Try.f4 rfl rfl rfl rfl rfl rfl rfl ⟨rfl, rfl, rfl, rfl, rfl⟩ rfl rfl rfl rfl rfl (by kernel_rfl) Try.func4 (by kernel_rfl)
    (of_decide_eq_true (by kernel_rfl)) (by unfold Func.isWrapper; first | (rw [if_pos (by decide +kernel)]; kernel_rfl) | (rw [if_neg (by decide +kernel)]; exact ⟨rfl, rfl⟩))
    (fun os started H enc _ F => gossipTells_step os started H enc F)
end Go.Proofs.Ytpbfnenlbkjhgaa
