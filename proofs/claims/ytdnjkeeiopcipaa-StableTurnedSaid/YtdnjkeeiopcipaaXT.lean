/-
  For every input the law of acks turned answers true: the statement.
-/
import Derived.Test.YtdnjkeeiopcipaaRows
import Derived.Test.YtdnjkeeiopcipaaQ4
import Derived.JoinedCond
set_option linter.unusedSectionVars false
set_option linter.unusedVariables false
set_option linter.unusedSimpArgs false
namespace Go.Proofs.Ytdnjkeeiopcipaa
open Go.Sl Go.Proofs

theorem own : ownKnob Try.prog.godebug = none := by kernel_rfl
theorem argSV_agg {P : Program} {t : TypeId} {n : Nat} {ds : List DV} (h : tySz P t = some (some n)) : argSV P t ds = .agg (ds.map .d) := by simp [argSV, h]
theorem argSV_one {P : Program} {t : TypeId} {ds : List DV} (h : tySz P t = some none) : argSV P t ds = .d (ds.headD .nilp) := by simp [argSV, h]
set_option maxRecDepth 100000 in
theorem vec_fit {d : Nat} {ds : List DV} (h : Fit Try.prog (d + 2) T_api_Vector ds) : ∃ v : Vec, v.wf ∧ ds = v.ds :=
  fit_vec (P := Try.prog) (t := T_api_Vector) (e := T_uint32) Try.underlying25 Try.underlying23 (by kernel_rfl) (by kernel_rfl) h
theorem vec_arg (v : Vec) : argSV Try.prog T_api_Vector v.ds = .agg v.cells := by rw [argSV_agg (n := 8) (by kernel_rfl), Vec.map_ds]
theorem u8_arg (x : DV) : argSV Try.prog T_uint8 [x] = .d x := by rw [argSV_one (by kernel_rfl)]; rfl
theorem int_arg (x : DV) : argSV Try.prog T_int [x] = .d x := by rw [argSV_one (by kernel_rfl)]; rfl
theorem fitAll_len {P : Program} {d : Nat} : ∀ {ts : List TypeId} {dss : List (List DV)}, FitAll P d ts dss → dss.length = ts.length
  | [], [], _ => rfl
  | [], _ :: _, h => by simp [FitAll] at h
  | _ :: _, [], h => by simp [FitAll] at h
  | t :: ts, x :: dss, h => by
    simp only [FitAll] at h
    simp [fitAll_len h.2]
theorem row_arg (x : DV) : argSV Try.prog T_L_tranterlaw12_Act [x] = .d x := by rw [argSV_one (by kernel_rfl)]; rfl
theorem rps_nils {p : Nat → Prop} {μ : Nat → Nm} {M : Mem} {r r' : List SV} (hr : ∀ vs, Rps p μ M r' vs → Rps p μ M r vs) (vs : List Value) (h : Rps p μ M (.d .nils :: r') vs) : Rps p μ M (.d (.sl 0 []) :: r) vs := by
  obtain ⟨u, us, rfl, h1, h2⟩ := Rps.cons_iff.1 h
  exact Rps.cons_iff.2 ⟨u, us, rfl, nils_sl p μ M u h1, hr us h2⟩
theorem rps_more {p : Nat → Prop} {μ : Nat → Nm} {M : Mem} {x : SV} {r r' : List SV} (hr : ∀ vs, Rps p μ M r' vs → Rps p μ M r vs) (vs : List Value) (h : Rps p μ M (x :: r') vs) : Rps p μ M (x :: r) vs := by
  obtain ⟨u, us, rfl, h1, h2⟩ := Rps.cons_iff.1 h
  exact Rps.cons_iff.2 ⟨u, us, rfl, h1, hr us h2⟩
def Ac.wf (a : Ac) : Prop := a.r < 256 ∧ a.v.wf
set_option maxRecDepth 100000 in
theorem act_fit {d : Nat} {ds : List DV} (h : Fit Try.prog (d + 3) T_tranterlaw12_Act ds) : ∃ a : Ac, a.wf ∧ ds = a.ds := by
  have f0 := fit_field (P := Try.prog) (t := T_tranterlaw12_Act) Try.underlying33 h 0 _ rfl
  have f1 := fit_field (P := Try.prog) (t := T_tranterlaw12_Act) Try.underlying33 h 1 _ rfl
  have f2 := fit_field (P := Try.prog) (t := T_tranterlaw12_Act) Try.underlying33 h 2 _ rfl
  have hl := fit_len (P := Try.prog) (t := T_tranterlaw12_Act) Try.underlying33 h
  rw [show Try.prog.cellsOf T_tranterlaw12_Act = 10 from by kernel_rfl] at hl
  obtain ⟨b, eb⟩ := fit_bool (P := Try.prog) Try.underlying4 f0
  obtain ⟨r, hr, er⟩ := fit_u8 (P := Try.prog) Try.underlying5 f1
  obtain ⟨v, hv, ev⟩ := vec_fit (d := d) f2
  rw [show Try.prog.cellsOf _ = 1 from by kernel_rfl] at eb er
  rw [show Try.prog.cellsOf _ = 8 from by kernel_rfl] at ev
  refine ⟨⟨b, r, v⟩, ⟨hr, hv⟩, ?_⟩
  have e0 : ds.take 1 = [.bool b] := eb
  have e1 : (ds.drop 1).take 1 = [.int .u8 r] := er
  have e2 : (ds.drop 2).take 8 = v.ds := ev
  rw [← List.take_append_drop 1 ds, e0, ← List.take_append_drop 1 (ds.drop 1), e1, List.drop_drop]
  have e3 : (ds.drop (1 + 1)).take 8 = ds.drop (1 + 1) := List.take_of_length_le (by rw [List.length_drop]; omega)
  rw [← e3, e2]
  rfl
set_option maxRecDepth 100000 in
theorem acts_fit {d : Nat} {ds : List DV} (h : Fit Try.prog (d + 4) T_L_tranterlaw12_Act ds) : ds = [.nils] ∨ ∃ l : List Ac, (∀ x ∈ l, x.wf) ∧ l.length ≤ 9223372036854775807 ∧ ds = [.sl l.length (l.flatMap Ac.ds)] :=
  fit_slice Ac.ds Ac.wf (P := Try.prog) (t := T_L_tranterlaw12_Act) (e := T_tranterlaw12_Act) Try.underlying22 (fun _ h => act_fit h) h

set_option maxRecDepth 100000 in
theorem stableTurned_fit : ∀ dss, FitAll Try.prog 6 Try.f3.params.toList dss → SB Try.prog 3 (argSVs Try.prog Try.f3.params.toList dss) [] 0 0 fun r F => r = bl true := by
  intro dss h
  rw [show Try.f3.params.toList = [T_int, T_L_tranterlaw12_Act, T_api_Vector] from by kernel_rfl] at h ⊢
  have hl := fitAll_len h
  match dss, hl, h with
  | [x0, x1, x2], _, h =>
    simp only [FitAll] at h
    obtain ⟨h0, h1, h2, _⟩ := h
    obtain ⟨a0, w0, rfl⟩ := fit_i64 Try.underlying3 h0
    obtain ⟨a2, w2, rfl⟩ := vec_fit h2
    rcases acts_fit h1 with rfl | ⟨a1, w1, n1, rfl⟩ <;> simp only [argSVs, row_arg, int_arg, vec_arg]
    · exact SB.mono (SB.args (law_turned a0 w0 [] (by simp) (by simp) a2) rfl (fun p μ M vs => rps_more (fun _ h => rps_nils (fun _ h => h) _ h) vs)) fun r F h => h.1
    · exact SB.mono (law_turned a0 w0 a1 (fun x hx => (w1 x hx).1) n1 a2) fun r F h => h.1
open Go.ChangeShapes Go.WideShapes Go.ChangeAt Go.RowKit in
set_option maxRecDepth 100000 in
theorem stableTurned_step (os : Os) (started : os.Started) (H : Type) (enc : TypeId × Value → H) :
    ReturnsInHanded {} Try.checked os 3 .any (Rows.stableTurnedSpec.pre6 enc Try.prog Try.f3 Rows.stableTurnedRow.domain false) (Rows.stableTurnedSpec.post enc Try.prog Try.f3 false true false false) := by
  refine returnsInHanded_of_change (C := Try.checked) own started (by kernel_rfl) Try.func3
    (ChangeSpec.witness6 (enc := enc) (C := Try.checked) false ⟨#[], #[.int .i64 0, .slice none 0 0, .agg #[.int .u32 0, .int .u32 0, .int .u32 0, .int .u32 0, .int .u32 0, .int .u32 0, .int .u32 0, .int .u32 0]], []⟩ 8 (by kernel_rfl) (by kernel_rfl) (by kernel_rfl) (by kernel_rfl)) ?_
  intro W base args ds gs before hval hW hcnd _
  refine law_calls (f := 3) (fn := Try.f3) (spec := Rows.stableTurnedSpec) (tb := T_bool) 6 (by kernel_rfl) (by kernel_rfl) rfl (by kernel_rfl) rfl (fun ds hl => ?_) (fun dss hf => ?_) W base args ds gs before hval hW
  · rw [show Try.f3.params.toList.length = 3 from by kernel_rfl] at hl
    match ds, hl with
    | [d0, d1, d2], _ => exact ⟨rfl, rfl, rfl⟩
  · exact stableTurned_fit dss hf
theorem stableTurned_holds : Rows.StableTurnedSaid :=
  OpenClaim.holds_of_wide 3 Try.f3 rfl rfl rfl rfl rfl rfl rfl ⟨rfl, rfl, rfl, rfl, rfl⟩ rfl rfl rfl rfl rfl (by kernel_rfl) Try.func3 (by kernel_rfl)
    (of_decide_eq_true (by kernel_rfl)) (by unfold Func.isWrapper; first | (rw [if_pos (by decide +kernel)]; kernel_rfl) | (rw [if_neg (by decide +kernel)]; exact ⟨rfl, rfl⟩))
    (fun os started H enc _ => stableTurned_step os started H enc)
end Go.Proofs.Ytdnjkeeiopcipaa
