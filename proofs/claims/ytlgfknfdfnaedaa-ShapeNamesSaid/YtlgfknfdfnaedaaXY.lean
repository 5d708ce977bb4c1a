/-
  For every row of operations the law of what the well-formed names answers true: the statement.
-/
import Derived.Test.YtlgfknfdfnaedaaUH
import Derived.Test.YtlgfknfdfnaedaaRows
import Derived.SizedLaws
import Derived.Test.YtlgfknfdfnaedaaUL
set_option linter.unusedSectionVars false
set_option linter.unusedVariables false
set_option linter.unusedSimpArgs false
namespace Go.Proofs.Ytlgfknfdfnaedaa
open Go.Sl Go.Proofs
theorem fitAll1 {P : Program} {d : Nat} {t1 : TypeId} {dss : List (List DV)} (h : FitAll P d [t1] dss) : ∃ x0, dss = [x0] ∧ Fit P d t1 x0 := by
  match dss, h with
  | [x0], h =>
    simp only [FitAll] at h
    exact ⟨x0, rfl, h.1⟩
theorem flat_memN {l : List OpD} {o : OpD} (h : o ∈ l) {x : DV} (hx : x ∈ o.ds) : x ∈ l.flatMap OpD.ds := List.mem_flatMap.2 ⟨o, h, hx⟩
theorem line_memN (o : OpD) : o.lines ∈ o.ds := by simp [OpD.ds]
set_option maxRecDepth 100000 in
theorem ops_small {d : Nat} {ds : List DV} (h : Fit Try.prog (d + 6) T_L_api_Op ds) (hs : smallR reachBytes ds) : ∃ x l, ds = [x] ∧ l.length ≤ 140737488351232 ∧ (∀ o, o ∈ l → o.kind < 256 ∧ o.lin ∧ o.cl.length ≤ 140737488351232) ∧
    ∀ (p : Nat → Prop) (μ : Nat → Nm) (M : Mem) (r r' : List SV) (hr : ∀ vs, Rps p μ M r' vs → Rps p μ M r vs) (vs : List Value), Rps p μ M (.d x :: r') vs → Rps p μ M (ops l :: r) vs := by
  rcases ops_fit h with rfl | ⟨l, hl, hn, rfl⟩
  · exact ⟨.nils, [], rfl, by simp, by simp, fun p μ M r r' hr vs hv => rps_nil_row hr vs hv⟩
  · simp only [smallR, DV.small, and_true, reachBytes] at hs
    obtain ⟨h1, h2⟩ := hs
    rw [smallR_iff] at h2
    refine ⟨_, l.map OpD.nz, rfl, by simpa using h1, fun o ho => ?_, fun p μ M r r' hr vs hv => ?_⟩
    · obtain ⟨q, hq, rfl⟩ := List.mem_map.1 ho
      have hk : q.nz.kind < 256 := (hl q hq).nz.1.kind
      rcases (hl q hq).lines with e | ⟨cl, e, hcl⟩
      · have := OpD.lin.of (o := q.nz) (l := []) (by show Go.Sl.nz q.lines = _; rw [e]; rfl) (by simp)
        exact ⟨hk, this.1, by rw [this.2]; simp⟩
      · have hz := OpD.lin.of (o := q.nz) (l := cl) (by show Go.Sl.nz q.lines = _; rw [e]; rfl) hcl
        have hm := h2 _ (flat_memN hq (line_memN q))
        rw [e] at hm
        simp only [DV.small] at hm
        exact ⟨hk, hz.1, by rw [hz.2]; exact hm.1⟩
    · have := rps_nzr hr vs hv
      rw [← ops_nz] at this
      simpa [ops] using this
set_option maxRecDepth 100000 in
theorem shapeNames_fit : ∀ dss, FitAll Try.prog 7 Try.f3.params.toList dss → (∀ ds, ds ∈ dss → smallR reachBytes ds) → SB Try.prog 3 (argSVs Try.prog Try.f3.params.toList dss) [] 0 0 fun r F => r = bl true := by
  intro dss h hs
  have hp : Try.f3.params.toList = [T_L_api_Op] := by kernel_rfl
  rw [hp] at h ⊢
  obtain ⟨x0, rfl, h0⟩ := fitAll1 h
  obtain ⟨y, l, rfl, hl, ho, hw⟩ := ops_small (d := 1) h0 (hs _ (by simp))
  simp only [argSVs, ops_arg]
  exact SB.mono (SB.args (law_names l ho (by omega)) rfl (fun p μ M vs hv => hw p μ M _ _ (fun _ h => h) vs hv)) fun r F h => h
theorem weightsEach_more {H : Type} {P : Program} {n : Nat} {us : List TypeId} {gs : List (DataW H)} : ∀ {ts : List TypeId} {ds : List (DataW H)}, n ∈ DataW.weightsEach P ts ds → n ∈ DataW.weightsEach P (ts ++ us) (ds ++ gs)
  | [], _, h => by simp [DataW.weightsEach] at h
  | _ :: _, [], h => by simp [DataW.weightsEach] at h
  | t :: ts, d :: ds, h => by
    simp only [DataW.weightsEach, List.mem_append, List.cons_append] at h ⊢
    exact h.imp id weightsEach_more
open Go.ChangeShapes Go.WideShapes Go.ChangeAt Go.RowKit in
set_option maxRecDepth 100000 in
theorem shapeNames_step (os : Os) (started : os.Started) (H : Type) (enc : TypeId × Value → H) :
    ReturnsInHanded {} Try.checked os 3 .any (Rows.shapeNamesSpec.pre6 enc Try.prog Try.f3 Rows.shapeNamesRow.domain false) (Rows.shapeNamesSpec.post enc Try.prog Try.f3 false true false false) := by
  refine returnsInHanded_of_change_sized (C := Try.checked) own started (by kernel_rfl) Try.func3
    (ChangeSpec.witness6 (enc := enc) (C := Try.checked) false ⟨#[], #[.slice none 0 0], []⟩ 8 (by kernel_rfl) (by kernel_rfl) (by kernel_rfl) (by kernel_rfl)) ?_
  intro W base args ds gs before hval hW hcnd hsz _
  refine law_calls (f := 3) (fn := Try.f3) (spec := Rows.shapeNamesSpec) (tb := T_bool) 7 (by kernel_rfl) (by kernel_rfl) rfl (by kernel_rfl) rfl (fun ds hl => ?_) reachBytes (fun dss hf hs => ?_) W base args ds gs before hval hW (globOk_nil _) (fun n hn => by simpa using List.all_eq_true.1 hsz n (weightsEach_more hn))
  · rw [show Try.f3.params.toList.length = 1 from by kernel_rfl] at hl
    match ds, hl with
    | [d0], _ => exact ⟨rfl, rfl, rfl⟩
  · exact shapeNames_fit dss hf hs
theorem shapeNames_holds : Rows.ShapeNamesSaid :=
  OpenClaim.holds_of_wide 3 Try.f3 rfl rfl rfl rfl rfl rfl rfl ⟨rfl, rfl, rfl, rfl, rfl⟩ rfl rfl rfl rfl rfl (by kernel_rfl) Try.func3 (by kernel_rfl)
    (of_decide_eq_true (by kernel_rfl)) (by unfold Func.isWrapper; first | (rw [if_pos (by decide +kernel)]; kernel_rfl) | (rw [if_neg (by decide +kernel)]; exact ⟨rfl, rfl⟩))
    (fun os started H enc _ => shapeNames_step os started H enc)
end Go.Proofs.Ytlgfknfdfnaedaa
