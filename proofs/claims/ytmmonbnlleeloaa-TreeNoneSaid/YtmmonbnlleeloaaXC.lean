/-
  Whatever is asked, the law of trees that are none answers true: the statement.
-/
import Derived.Test.YtmmonbnlleeloaaRows
import Derived.Test.YtmmonbnlleeloaaXF
import Derived.Test.YtmmonbnlleeloaaQN
import Derived.JoinedCond
set_option linter.unusedSectionVars false
set_option linter.unusedVariables false
set_option linter.unusedSimpArgs false
namespace Go.Proofs.Ytmmonbnlleeloaa
open Go.Sl Go.Proofs
set_option maxRecDepth 100000 in
theorem ask_fit {d : Nat} {ds : List DV} (h : Fit Try.prog (d + 4) T_tranterlaw16_Ask ds) : ∃ x : Ak, (x.a.wf ∧ x.b.wf ∧ x.who < 4294967296 ∧ x.o.good) ∧ ds = x.ds := by
  have f0 := fit_field (P := Try.prog) (t := T_tranterlaw16_Ask) Try.underlying58 h 0 _ rfl
  have f1 := fit_field (P := Try.prog) (t := T_tranterlaw16_Ask) Try.underlying58 h 1 _ rfl
  have f2 := fit_field (P := Try.prog) (t := T_tranterlaw16_Ask) Try.underlying58 h 2 _ rfl
  have f3 := fit_field (P := Try.prog) (t := T_tranterlaw16_Ask) Try.underlying58 h 3 _ rfl
  have hl := fit_len (P := Try.prog) (t := T_tranterlaw16_Ask) Try.underlying58 h
  rw [show Try.prog.cellsOf T_tranterlaw16_Ask = 34 from by kernel_rfl] at hl
  obtain ⟨x0, w0, e0⟩ := dot_fit (d := d + 1) f0
  obtain ⟨x1, w1, e1⟩ := dot_fit (d := d + 1) f1
  obtain ⟨x2, w2, e2⟩ := fit_u32 (P := Try.prog) Try.underlying31 f2
  obtain ⟨x3, w3, e3⟩ := op_fit (d := d) f3
  refine ⟨⟨x0, x1, x2, x3⟩, ⟨w0, w1, w2, w3⟩, ?_⟩
  have g0 : ds.drop 0 = x0.ds ++ ds.drop 2 := cutR (n := 2) e0 rfl
  have g1 : ds.drop 2 = x1.ds ++ ds.drop 4 := cutR (n := 2) e1 rfl
  have g2 : ds.drop 4 = [.int .u32 x2] ++ ds.drop 5 := cutR (n := 1) e2 rfl
  have g3 : ds.drop 5 = x3.ds ++ ds.drop 34 := cutR (n := 29) e3 rfl
  have g : ds.drop 34 = [] := List.drop_of_length_le (by omega)
  have g' : ds = ds.drop 0 := rfl
  rw [g', g0, g1, g2, g3, g]
  show _ = x0.ds ++ (x1.ds ++ (.int .u32 x2 :: x3.ds))
  simp
theorem ask_arg (ds : List DV) : argSV Try.prog T_tranterlaw16_Ask ds = .agg (ds.map .d) := argSV_agg (n := 34) (by kernel_rfl)
def Ak.nz (x : Ak) : Ak := { x with o := x.o.nz }
theorem nz_dt (d : Dt) : d.ds.map nz = d.ds := rfl
theorem Ak.nz_ds (x : Ak) : x.nz.ds = x.ds.map Go.Sl.nz := by
  show x.a.ds ++ (x.b.ds ++ (.int .u32 x.who :: x.o.nz.ds)) = _
  rw [OpD.nz_ds]; rfl

set_option maxRecDepth 100000 in
theorem treeNone_fit : ∀ dss, FitAll Try.prog 6 Try.f8.params.toList dss → SB Try.prog 8 (argSVs Try.prog Try.f8.params.toList dss) [] 0 0 fun r F => r = bl true := by
  intro dss h
  rw [show Try.f8.params.toList = [T_tranterlaw16_Ask] from by kernel_rfl] at h ⊢
  have hl := fitAll_len h
  match dss, hl, h with
  | [x0], _, h =>
    simp only [FitAll] at h
    obtain ⟨h0, _⟩ := h
    obtain ⟨x, hx, rfl⟩ := ask_fit (d := 2) h0
    simp only [argSVs, ask_arg]
    have hp := law_none x
    exact SB.mono hp fun r F h => h.1
open Go.ChangeShapes Go.WideShapes Go.ChangeAt Go.RowKit in
set_option maxRecDepth 100000 in
theorem treeNone_step (os : Os) (started : os.Started) (H : Type) (enc : TypeId × Value → H) :
    ReturnsInHanded {} Try.checked os 8 .any (Rows.treeNoneSpec.pre6 enc Try.prog Try.f8 Rows.treeNoneRow.domain false) (Rows.treeNoneSpec.post enc Try.prog Try.f8 false true false false) := by
  refine returnsInHanded_of_change (C := Try.checked) own started (by kernel_rfl) Try.func8
    (ChangeSpec.witness6 (enc := enc) (C := Try.checked) false ⟨#[], #[.agg #[.int .u8 0, .int .u32 0, .int .u8 0, .int .u32 0, .int .u32 0, .int .u8 0, .int .u32 0, .int .u32 0, .int .u32 0, .int .u32 0, .int .u32 0, .int .u32 0, .int .u32 0, .int .u32 0, .int .u32 0, .int .u64 0, .int .u32 0, .int .u8 0, .int .u32 0, .int .u8 0, .int .u8 0, .int .u32 0, .int .u32 0, .int .u8 0, .int .u8 0, .int .u64 0, .int .u8 0, .int .u32 0, .int .u8 0, .int .u32 0, .int .u32 0, .int .u32 0, .int .u32 0, .slice none 0 0]], []⟩ 8 (by kernel_rfl) (by kernel_rfl) (by kernel_rfl) (by kernel_rfl)) ?_
  intro W base args ds gs before hval hW hcnd _
  refine law_calls (f := 8) (fn := Try.f8) (spec := Rows.treeNoneSpec) (tb := T_bool) 6 (by kernel_rfl) (by kernel_rfl) rfl (by kernel_rfl) rfl (fun ds hl => ?_) (fun dss hf => ?_) W base args ds gs before hval hW
  · rw [show Try.f8.params.toList.length = 1 from by kernel_rfl] at hl
    match ds, hl with
    | [d0], _ => exact ⟨rfl, rfl, rfl⟩
  · exact treeNone_fit dss hf
theorem treeNone_j0 : (Rows.treeNoneRow.wf (OpenSpec.ofChange Rows.treeNoneSpec)) = true := by kernel_rfl
theorem treeNone_j3 : (Try.f8.params.all (Try.pinned.checked.prog.readableRec ·)) = true := by kernel_rfl
theorem treeNone_j4 : (namedTie Try.pinned.checked.prog Rows.treeNoneRow.named Rows.treeNoneSpec.vars) = true := by kernel_rfl
theorem treeNone_j5 : ((Rows.treeNoneRow.stops == [])) = true := by kernel_rfl
theorem treeNone_j7 : ((Rows.treeNoneRow.knobs == [])) = true := by kernel_rfl
theorem treeNone_j9 : ((Rows.treeNoneRow.inPlace == Try.pinned.checked.prog.inPlace 8)) = true := by kernel_rfl
theorem treeNone_j10 : ((Rows.treeNoneRow.unfollowed == Try.pinned.checked.prog.unfollowed 8)) = true := by kernel_rfl
theorem treeNone_j11 : ((Rows.treeNoneRow.recurses == Try.pinned.checked.prog.recurses 8)) = true := by kernel_rfl
theorem treeNone_j12 : ((Rows.treeNoneRow.named == Try.pinned.checked.prog.varsNamed 8)) = true := by kernel_rfl
theorem treeNone_j13 : ((Rows.treeNoneRow.maps == (Try.f8.params.toList ++ Rows.treeNoneSpec.plain.varTypes Try.pinned.checked.prog).any (Try.pinned.checked.prog.mapsRec ·))) = true := by kernel_rfl
theorem treeNone_j14 : ((Rows.treeNoneRow.ifaces == (Try.f8.params.toList ++ Rows.treeNoneSpec.plain.varTypes Try.pinned.checked.prog).any (Try.pinned.checked.prog.ifacesRec ·))) = true := by kernel_rfl
theorem treeNone_j15 : ((Rows.treeNoneRow.mapsOut == Try.pinned.checked.prog.mapsAmong Try.f8.resultTypes.toList)) = true := by kernel_rfl
theorem treeNone_j16 : ((Rows.treeNoneRow.loops == (Try.f8.params.toList ++ Rows.treeNoneSpec.plain.varTypes Try.pinned.checked.prog).any (Try.pinned.checked.prog.loopsFrom ·))) = true := by kernel_rfl
theorem treeNone_j17 : ((Rows.treeNoneRow.wideKeys == (Try.f8.params.toList ++ Rows.treeNoneSpec.plain.varTypes Try.pinned.checked.prog ++ Try.f8.resultTypes.toList).any (Try.pinned.checked.prog.wideKeysFrom ·))) = true := by kernel_rfl
theorem treeNone_j18 : (Rows.treeNoneSpec.vars.all (Try.pinned.checked.prog.varReadable ·)) = true := by kernel_rfl
theorem treeNone_j19 : (Try.f8.resultTypes.all (fun t => Try.pinned.checked.prog.readableRec t && decide (t < Try.pinned.checked.prog.types.size))) = true := by kernel_rfl
theorem treeNone_j20 : ((Rows.treeNoneRow.ifacesOut == Try.f8.resultTypes.toList.any (Try.pinned.checked.prog.ifacesRec ·))) = true := by kernel_rfl
theorem treeNone_j21 : ((Rows.treeNoneRow.loopsOut == Try.f8.resultTypes.toList.any (Try.pinned.checked.prog.loopsFrom ·))) = true := by kernel_rfl
theorem treeNone_j22 : ((Rows.treeNoneRow.plainKeys == Try.pinned.checked.prog.plainKeys)) = true := by kernel_rfl
theorem treeNone_j23 : (Rows.treeNoneRow.shortTexts.isNone) = true := by kernel_rfl
theorem treeNone_j26 : ((Rows.treeNoneRow.lifted == Try.pinned.checked.prog.liftsFinal)) = true := by kernel_rfl
theorem treeNone_j27 : ((Try.pinned.checked.prog.make == some Rows.treeNoneRow.make)) = true := by kernel_rfl
theorem treeNone_j28 : ((Rows.treeNoneRow.kinds == (if Rows.treeNoneRow.domain.isEmpty then [] else Try.f8.params.toList.map fun t => match Try.pinned.checked.prog.underlying t with | some (.int k) => some k | _ => none))) = true := by kernel_rfl
theorem treeNone_j29 : ((Rows.treeNoneRow.pinned == Rows.treeNoneRow.pinnedBy)) = true := by kernel_rfl
theorem treeNone_j30 : ((Rows.treeNoneRow.veiled == (Try.f8.params.toList ++ Rows.treeNoneSpec.plain.varTypes Try.pinned.checked.prog ++ Try.f8.resultTypes.toList).any (Try.pinned.checked.prog.veiledRec ·))) = true := by kernel_rfl
theorem treeNone_j31 : (Rows.treeNoneRow.veiledFits Try.pinned.checked.prog Try.f8.params.toList (Try.f8.params.toList ++ Rows.treeNoneSpec.plain.varTypes Try.pinned.checked.prog ++ Try.f8.resultTypes.toList)) = true := by kernel_rfl
set_option maxRecDepth 100000 in
theorem treeNone_closed : joinedFacts Try.pinned.checked.prog 8 Try.f8 Rows.treeNoneSpec Rows.treeNoneRow = true := (and_tt (and_tt (and_tt (and_tt (and_tt (and_tt (and_tt (and_tt (and_tt (and_tt (and_tt (and_tt (and_tt (and_tt (and_tt (and_tt (and_tt (and_tt (and_tt (and_tt (and_tt (and_tt (and_tt (and_tt (and_tt (and_tt (and_tt (and_tt (and_tt (and_tt (and_tt treeNone_j0 jg0) jg1) treeNone_j3) treeNone_j4) treeNone_j5) jg2) treeNone_j7) jg3) treeNone_j9) treeNone_j10) treeNone_j11) treeNone_j12) treeNone_j13) treeNone_j14) treeNone_j15) treeNone_j16) treeNone_j17) treeNone_j18) treeNone_j19) treeNone_j20) treeNone_j21) treeNone_j22) treeNone_j23) jg4) jg5) treeNone_j26) treeNone_j27) treeNone_j28) treeNone_j29) treeNone_j30) treeNone_j31)
theorem treeNone_holds : Rows.TreeNoneSaid :=
  OpenClaim.holds_of_wide 8 Try.f8 rfl rfl rfl rfl rfl rfl rfl ⟨rfl, rfl, rfl, rfl, rfl⟩ rfl rfl rfl rfl rfl (by kernel_rfl) Try.func8 treeNone_closed
    (of_decide_eq_true (by kernel_rfl)) (by unfold Func.isWrapper; first | (rw [if_pos (by decide +kernel)]; kernel_rfl) | (rw [if_neg (by decide +kernel)]; exact ⟨rfl, rfl⟩))
    (fun os started H enc _ => treeNone_step os started H enc)
end Go.Proofs.Ytmmonbnlleeloaa
