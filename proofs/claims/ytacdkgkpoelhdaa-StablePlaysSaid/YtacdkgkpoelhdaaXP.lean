/-
  For every row of acts the law that a tracker tells what the document's does answers true: the statement.
-/
import Derived.Test.YtacdkgkpoelhdaaPH
import Derived.Test.YtacdkgkpoelhdaaPK
set_option linter.unusedSectionVars false
set_option linter.unusedVariables false
set_option linter.unusedSimpArgs false
namespace Go.Proofs.Ytacdkgkpoelhdaa
open Go.Sl Go.Proofs
theorem i64rng {n : Int} (h : i64ok n) : -9223372036854775808 ≤ n ∧ n < 9223372036854775808 := by unfold i64ok at h; omega
def Ac.wf (a : Ac) : Prop := a.r < 256 ∧ a.v.wf
set_option maxRecDepth 100000 in
theorem act_fit {d : Nat} {ds : List DV} (h : Fit Try.prog (d + 3) T_tranterlaw12_Act ds) : ∃ a : Ac, a.wf ∧ ds = a.ds := by
  have f0 := fit_field (P := Try.prog) (t := T_tranterlaw12_Act) Try.underlying61 h 0 _ rfl
  have f1 := fit_field (P := Try.prog) (t := T_tranterlaw12_Act) Try.underlying61 h 1 _ rfl
  have f2 := fit_field (P := Try.prog) (t := T_tranterlaw12_Act) Try.underlying61 h 2 _ rfl
  have hl := fit_len (P := Try.prog) (t := T_tranterlaw12_Act) Try.underlying61 h
  rw [show Try.prog.cellsOf T_tranterlaw12_Act = 10 from by kernel_rfl] at hl
  obtain ⟨b, eb⟩ := fit_bool (P := Try.prog) Try.underlying4 f0
  obtain ⟨r, hr, er⟩ := fit_u8 (P := Try.prog) Try.underlying5 f1
  obtain ⟨v, hv, ev⟩ := vec_fit (d := d) f2
  rw [show Try.prog.cellsOf _ = 1 from by kernel_rfl] at eb er
  rw [show Try.prog.cellsOf _ = 8 from by kernel_rfl] at ev
  refine ⟨⟨b, r, v⟩, ⟨hr, hv⟩, ?_⟩
  have e0 : ds.take 1 = [.bool b] := eb
  have e1 : (ds.drop 1).take 1 = [.int .u8 r] := er
  have e2 : (ds.drop 2).take 8 = v.ds := ev
  rw [← List.take_append_drop 1 ds, e0, ← List.take_append_drop 1 (ds.drop 1), e1, List.drop_drop]
  have e3 : (ds.drop (1 + 1)).take 8 = ds.drop (1 + 1) := List.take_of_length_le (by rw [List.length_drop]; omega)
  rw [← e3, e2]
  rfl
set_option maxRecDepth 100000 in
theorem acts_fit {d : Nat} {ds : List DV} (h : Fit Try.prog (d + 4) T_L_tranterlaw12_Act ds) : ds = [.nils] ∨ ∃ l : List Ac, (∀ x ∈ l, x.wf) ∧ l.length ≤ 9223372036854775807 ∧ ds = [.sl l.length (l.flatMap Ac.ds)] :=
  fit_slice Ac.ds Ac.wf (P := Try.prog) (t := T_L_tranterlaw12_Act) (e := T_tranterlaw12_Act) Try.underlying59 (fun _ h => act_fit h) h
theorem rps_nils {p : Nat → Prop} {μ : Nat → Nm} {M : Mem} {r r' : List SV} (hr : ∀ vs, Rps p μ M r' vs → Rps p μ M r vs) (vs : List Value) (h : Rps p μ M (.d .nils :: r') vs) : Rps p μ M (.d (.sl 0 []) :: r) vs := by
  obtain ⟨u, us, rfl, h1, h2⟩ := Rps.cons_iff.1 h
  exact Rps.cons_iff.2 ⟨u, us, rfl, nils_sl p μ M u h1, hr us h2⟩
theorem rps_more {p : Nat → Prop} {μ : Nat → Nm} {M : Mem} {x : SV} {r r' : List SV} (hr : ∀ vs, Rps p μ M r' vs → Rps p μ M r vs) (vs : List Value) (h : Rps p μ M (x :: r') vs) : Rps p μ M (x :: r) vs := by
  obtain ⟨u, us, rfl, h1, h2⟩ := Rps.cons_iff.1 h
  exact Rps.cons_iff.2 ⟨u, us, rfl, h1, hr us h2⟩
set_option maxRecDepth 100000 in
theorem stablePlays_fit : ∀ dss, FitAll Try.prog 7 Try.f6.params.toList dss → SB Try.prog 6 (argSVs Try.prog Try.f6.params.toList dss) [] 0 0 fun r F => r = bl true := by
  intro dss h
  have hp : Try.f6.params.toList = [T_int, T_uint8, T_L_tranterlaw12_Act] := by kernel_rfl
  rw [hp] at h ⊢
  obtain ⟨x0, x1, x2, rfl, h0, h1, h2⟩ := fitAll3 h
  obtain ⟨n, hn, rfl⟩ := fit_i64 (P := Try.prog) (d := 6) Try.underlying3 h0
  obtain ⟨o, ho, rfl⟩ := fit_u8 (P := Try.prog) (d := 6) Try.underlying5 h1
  rcases acts_fit (d := 3) h2 with rfl | ⟨l, hl, hlen, rfl⟩
  · simp only [argSVs, one_arg (t := T_int) _ (by kernel_rfl), one_arg (t := T_uint8) _ (by kernel_rfl), one_arg (t := T_L_tranterlaw12_Act) _ (by kernel_rfl)]
    exact SB.mono (SB.args (law_plays n o (i64rng hn) ho [] (by simp) (by simp)) rfl (fun p μ M vs => rps_more (fun _ h => rps_more (fun _ h => rps_nils (fun _ h => h) _ h) _ h) vs)) fun r F h => h.1
  · simp only [argSVs, one_arg (t := T_int) _ (by kernel_rfl), one_arg (t := T_uint8) _ (by kernel_rfl), one_arg (t := T_L_tranterlaw12_Act) _ (by kernel_rfl)]
    exact SB.mono (law_plays n o (i64rng hn) ho l (fun x hx => (hl x hx).1) hlen) fun r F h => h.1
open Go.ChangeShapes Go.WideShapes Go.ChangeAt Go.RowKit in
set_option maxRecDepth 100000 in
theorem stablePlays_step (os : Os) (started : os.Started) (H : Type) (enc : TypeId × Value → H) :
    ReturnsInHanded {} Try.checked os 6 .any (Rows.stablePlaysSpec.pre6 enc Try.prog Try.f6 Rows.stablePlaysRow.domain false) (Rows.stablePlaysSpec.post enc Try.prog Try.f6 false true false false) := by
  refine returnsInHanded_of_change (C := Try.checked) own started (by kernel_rfl) Try.func6
    (ChangeSpec.witness6 (enc := enc) (C := Try.checked) false ⟨#[], #[.int .i64 0, .int .u8 0, .slice none 0 0], []⟩ 8 (by kernel_rfl) (by kernel_rfl) (by kernel_rfl) (by kernel_rfl)) ?_
  intro W base args ds gs before hval hW hcnd _
  refine law_calls (f := 6) (fn := Try.f6) (spec := Rows.stablePlaysSpec) (tb := T_bool) 7 (by kernel_rfl) (by kernel_rfl) rfl (by kernel_rfl) rfl (fun ds hl => ?_) Rows.uptoBulk (Rows.uptoBulkAll ds) bulk (fun dss hf _ => ?_) W base args ds gs before hval hW (globOk_nil _) (bulk_mem ds)
  · rw [show Try.f6.params.toList.length = 3 from by kernel_rfl] at hl
    match ds, hl with
    | [d0, d1, d2], _ => exact ⟨rfl, rfl, rfl⟩
  · exact stablePlays_fit dss hf
theorem stablePlays_holds : Rows.StablePlaysSaid :=
  OpenClaim.holds_of_wide 6 Try.f6 rfl rfl rfl rfl rfl rfl rfl ⟨rfl, rfl, rfl, rfl, rfl⟩ rfl rfl rfl rfl rfl (by kernel_rfl) Try.func6 (by kernel_rfl)
    (of_decide_eq_true (by kernel_rfl)) (by unfold Func.isWrapper; first | (rw [if_pos (by decide +kernel)]; kernel_rfl) | (rw [if_neg (by decide +kernel)]; exact ⟨rfl, rfl⟩))
    (fun os started H enc _ => stablePlays_step os started H enc)
end Go.Proofs.Ytacdkgkpoelhdaa
