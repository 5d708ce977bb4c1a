/-
  What the statements' arguments read as: operations with their lines, and rows of them.
-/
import Derived.Test.YtgjgfamgbhlmfaaUV
import Derived.Test.YtgjgfamgbhlmfaaU8
import Derived.Test.YtgjgfamgbhlmfaaRows
import Derived.SizedLaws
import Derived.Test.YtgjgfamgbhlmfaaUD
set_option linter.unusedSectionVars false
set_option linter.unusedVariables false
set_option linter.unusedSimpArgs false
namespace Go.Proofs.Ytgjgfamgbhlmfaa
open Go.Sl Go.Proofs

theorem argSV_agg {P : Program} {t : TypeId} {n : Nat} {ds : List DV} (h : tySz P t = some (some n)) : argSV P t ds = .agg (ds.map .d) := by simp [argSV, h]
theorem argSV_one {P : Program} {t : TypeId} {ds : List DV} (h : tySz P t = some none) : argSV P t ds = .d (ds.headD .nilp) := by simp [argSV, h]
set_option maxRecDepth 100000 in
theorem vec_fit {d : Nat} {ds : List DV} (h : Fit Try.prog (d + 2) T_api_Vector ds) : ∃ v : Vec, v.wf ∧ ds = v.ds :=
  fit_vec (P := Try.prog) (t := T_api_Vector) (e := T_uint32) Try.underlying25 Try.underlying23 (by kernel_rfl) (by kernel_rfl) h
set_option maxRecDepth 100000 in
theorem dot_fit {d : Nat} {ds : List DV} (h : Fit Try.prog (d + 2) T_api_Dot ds) : ∃ x : Dt, x.wf ∧ ds = x.ds :=
  fit_dot (P := Try.prog) (t := T_api_Dot) Try.underlying44 rfl rfl rfl rfl Try.underlying5 Try.underlying23 (by kernel_rfl) (by kernel_rfl) (by kernel_rfl) h
set_option maxRecDepth 100000 in
theorem claim_fit {d : Nat} {ds : List DV} (h : Fit Try.prog (d + 3) T_api_Claim ds) : ∃ x : Cm, x.wf ∧ ds = x.ds := by
  have f0 := fit_field (P := Try.prog) (t := T_api_Claim) Try.underlying70 h 0 _ rfl
  have f1 := fit_field (P := Try.prog) (t := T_api_Claim) Try.underlying70 h 1 _ rfl
  have hl := fit_len (P := Try.prog) (t := T_api_Claim) Try.underlying70 h
  rw [show Try.prog.cellsOf T_api_Claim = 4 from by kernel_rfl] at hl
  obtain ⟨x0, w0, e0⟩ := dot_fit (d := d) f0
  obtain ⟨x1, w1, e1⟩ := dot_fit (d := d) f1
  refine ⟨⟨x0, x1⟩, ⟨w0, w1⟩, ?_⟩
  have g0 : ds.drop 0 = x0.ds ++ ds.drop 2 := cutR (n := 2) e0 rfl
  have g1 : ds.drop 2 = x1.ds ++ ds.drop 4 := cutR (n := 2) e1 rfl
  have g : ds.drop 4 = [] := List.drop_of_length_le (by omega)
  have g' : ds = ds.drop 0 := rfl
  rw [g', g0, g1, g]
  rfl
set_option maxRecDepth 100000 in
theorem lines_fit {d : Nat} {ds : List DV} (h : Fit Try.prog (d + 4) T_L_api_Claim ds) : ds = [.nils] ∨ ∃ l : List Cm, (∀ x ∈ l, x.wf) ∧ l.length ≤ 9223372036854775807 ∧ ds = [.sl l.length (l.flatMap Cm.ds)] :=
  fit_slice Cm.ds Cm.wf (P := Try.prog) (t := T_L_api_Claim) (e := T_api_Claim) Try.underlying46 (fun _ h => claim_fit h) h
/-- What an operation's data are of. -/
structure OpF (o : OpD) : Prop where
  dot : o.dot.wf
  dep : o.dep.wf
  time : o.time < 18446744073709551616
  who : o.who < 4294967296
  cart : o.cart.wf
  kind : o.kind < 256
  cred : o.cred.wf
  to : o.to < 4294967296
  roles : o.roles < 256
  depth : o.depth < 256
  cap : o.cap < 18446744073709551616
  at_ : o.at_.wf
  ver : o.ver.wf
  item : o.item < 4294967296
  qty : o.qty < 4294967296
  price : o.price < 4294967296
  lines : o.lines = .nils ∨ ∃ cl : List Cm, o.lines = .sl cl.length (cl.flatMap Cm.ds) ∧ cl.length ≤ 9223372036854775807 ∧ ∀ x, x ∈ cl → x.wf
set_option maxRecDepth 100000 in
set_option maxHeartbeats 2000000 in
theorem op_fit {d : Nat} {ds : List DV} (h : Fit Try.prog (d + 5) T_api_Op ds) : ∃ o : OpD, OpF o ∧ ds = o.ds := by
  have f0 := fit_field (P := Try.prog) (t := T_api_Op) Try.underlying48 h 0 _ rfl
  have f1 := fit_field (P := Try.prog) (t := T_api_Op) Try.underlying48 h 1 _ rfl
  have f2 := fit_field (P := Try.prog) (t := T_api_Op) Try.underlying48 h 2 _ rfl
  have f3 := fit_field (P := Try.prog) (t := T_api_Op) Try.underlying48 h 3 _ rfl
  have f4 := fit_field (P := Try.prog) (t := T_api_Op) Try.underlying48 h 4 _ rfl
  have f5 := fit_field (P := Try.prog) (t := T_api_Op) Try.underlying48 h 5 _ rfl
  have f6 := fit_field (P := Try.prog) (t := T_api_Op) Try.underlying48 h 6 _ rfl
  have f7 := fit_field (P := Try.prog) (t := T_api_Op) Try.underlying48 h 7 _ rfl
  have f8 := fit_field (P := Try.prog) (t := T_api_Op) Try.underlying48 h 8 _ rfl
  have f9 := fit_field (P := Try.prog) (t := T_api_Op) Try.underlying48 h 9 _ rfl
  have f10 := fit_field (P := Try.prog) (t := T_api_Op) Try.underlying48 h 10 _ rfl
  have f11 := fit_field (P := Try.prog) (t := T_api_Op) Try.underlying48 h 11 _ rfl
  have f12 := fit_field (P := Try.prog) (t := T_api_Op) Try.underlying48 h 12 _ rfl
  have f13 := fit_field (P := Try.prog) (t := T_api_Op) Try.underlying48 h 13 _ rfl
  have f14 := fit_field (P := Try.prog) (t := T_api_Op) Try.underlying48 h 14 _ rfl
  have f15 := fit_field (P := Try.prog) (t := T_api_Op) Try.underlying48 h 15 _ rfl
  have f16 := fit_field (P := Try.prog) (t := T_api_Op) Try.underlying48 h 16 _ rfl
  have hl := fit_len (P := Try.prog) (t := T_api_Op) Try.underlying48 h
  rw [show Try.prog.cellsOf T_api_Op = 29 from by kernel_rfl] at hl
  obtain ⟨x0, w0, e0⟩ := dot_fit (d := d + 2) f0
  obtain ⟨x1, w1, e1⟩ := vec_fit (d := d + 2) f1
  obtain ⟨x2, w2, e2⟩ := fit_u64 (P := Try.prog) Try.underlying45 f2
  obtain ⟨x3, w3, e3⟩ := fit_u32 (P := Try.prog) Try.underlying23 f3
  obtain ⟨x4, w4, e4⟩ := dot_fit (d := d + 2) f4
  obtain ⟨x5, w5, e5⟩ := fit_u8 (P := Try.prog) Try.underlying5 f5
  obtain ⟨x6, w6, e6⟩ := dot_fit (d := d + 2) f6
  obtain ⟨x7, w7, e7⟩ := fit_u32 (P := Try.prog) Try.underlying23 f7
  obtain ⟨x8, w8, e8⟩ := fit_u8 (P := Try.prog) Try.underlying5 f8
  obtain ⟨x9, w9, e9⟩ := fit_u8 (P := Try.prog) Try.underlying5 f9
  obtain ⟨x10, w10, e10⟩ := fit_u64 (P := Try.prog) Try.underlying45 f10
  obtain ⟨x11, w11, e11⟩ := dot_fit (d := d + 2) f11
  obtain ⟨x12, w12, e12⟩ := dot_fit (d := d + 2) f12
  obtain ⟨x13, w13, e13⟩ := fit_u32 (P := Try.prog) Try.underlying23 f13
  obtain ⟨x14, w14, e14⟩ := fit_u32 (P := Try.prog) Try.underlying23 f14
  obtain ⟨x15, w15, e15⟩ := fit_u32 (P := Try.prog) Try.underlying23 f15
  have e16 : ∃ y, (ds.drop 28).take 1 = [y] ∧ (y = .nils ∨ ∃ cl : List Cm, y = .sl cl.length (cl.flatMap Cm.ds) ∧ cl.length ≤ 9223372036854775807 ∧ ∀ x, x ∈ cl → x.wf) := by
    rcases lines_fit (d := d) f16 with e | ⟨cl, hcw, hn, e⟩
    · exact ⟨.nils, e, .inl rfl⟩
    · exact ⟨_, e, .inr ⟨cl, rfl, hn, hcw⟩⟩
  obtain ⟨x16, e16, w16⟩ := e16
  refine ⟨⟨x0, x1, x2, x3, x4, x5, x6, x7, x8, x9, x10, x11, x12, x13, x14, x15, x16⟩, ⟨w0, w1, w2, w3, w4, w5, w6, w7, w8, w9, w10, w11, w12, w13, w14, w15, w16⟩, ?_⟩
  have g0 : ds.drop 0 = x0.ds ++ ds.drop 2 := cutR (n := 2) e0 rfl
  have g1 : ds.drop 2 = x1.ds ++ ds.drop 10 := cutR (n := 8) e1 rfl
  have g2 : ds.drop 10 = [.int .u64 x2] ++ ds.drop 11 := cutR (n := 1) e2 rfl
  have g3 : ds.drop 11 = [.int .u32 x3] ++ ds.drop 12 := cutR (n := 1) e3 rfl
  have g4 : ds.drop 12 = x4.ds ++ ds.drop 14 := cutR (n := 2) e4 rfl
  have g5 : ds.drop 14 = [.int .u8 x5] ++ ds.drop 15 := cutR (n := 1) e5 rfl
  have g6 : ds.drop 15 = x6.ds ++ ds.drop 17 := cutR (n := 2) e6 rfl
  have g7 : ds.drop 17 = [.int .u32 x7] ++ ds.drop 18 := cutR (n := 1) e7 rfl
  have g8 : ds.drop 18 = [.int .u8 x8] ++ ds.drop 19 := cutR (n := 1) e8 rfl
  have g9 : ds.drop 19 = [.int .u8 x9] ++ ds.drop 20 := cutR (n := 1) e9 rfl
  have g10 : ds.drop 20 = [.int .u64 x10] ++ ds.drop 21 := cutR (n := 1) e10 rfl
  have g11 : ds.drop 21 = x11.ds ++ ds.drop 23 := cutR (n := 2) e11 rfl
  have g12 : ds.drop 23 = x12.ds ++ ds.drop 25 := cutR (n := 2) e12 rfl
  have g13 : ds.drop 25 = [.int .u32 x13] ++ ds.drop 26 := cutR (n := 1) e13 rfl
  have g14 : ds.drop 26 = [.int .u32 x14] ++ ds.drop 27 := cutR (n := 1) e14 rfl
  have g15 : ds.drop 27 = [.int .u32 x15] ++ ds.drop 28 := cutR (n := 1) e15 rfl
  have g16 : ds.drop 28 = [x16] ++ ds.drop 29 := cutR (n := 1) e16 rfl
  have g : ds.drop 29 = [] := List.drop_of_length_le (by omega)
  have g' : ds = ds.drop 0 := rfl
  rw [g', g0, g1, g2, g3, g4, g5, g6, g7, g8, g9, g10, g11, g12, g13, g14, g15, g16, g]
  rfl
set_option maxRecDepth 100000 in
theorem ops_fit {d : Nat} {ds : List DV} (h : Fit Try.prog (d + 6) T_L_api_Op ds) : ds = [.nils] ∨ ∃ l : List OpD, (∀ x ∈ l, OpF x) ∧ l.length ≤ 9223372036854775807 ∧ ds = [.sl l.length (l.flatMap OpD.ds)] :=
  fit_slice OpD.ds OpF (P := Try.prog) (t := T_L_api_Op) (e := T_api_Op) Try.underlying22 (fun _ h => op_fit h) h
theorem ops_arg (x : DV) : argSV Try.prog T_L_api_Op [x] = .d x := by rw [argSV_one (by kernel_rfl)]; rfl
theorem vec_arg (v : Vec) : argSV Try.prog T_api_Vector v.ds = .agg v.cells := by rw [argSV_agg (n := 8) (by kernel_rfl), Vec.map_ds]
theorem flat_mem {l : List OpD} {o : OpD} (h : o ∈ l) {x : DV} (hx : x ∈ o.ds) : x ∈ l.flatMap OpD.ds := List.mem_flatMap.2 ⟨o, h, hx⟩
theorem line_mem (o : OpD) : o.lines ∈ o.ds := by simp [OpD.ds]
theorem OpF.nz {q : OpD} (h : OpF q) : OpF q.nz ∧ q.nz.lin := by
  have hl : q.nz.lin ∧ (q.nz.lines = .nils ∨ ∃ cl : List Cm, q.nz.lines = .sl cl.length (cl.flatMap Cm.ds) ∧ cl.length ≤ 9223372036854775807 ∧ ∀ x, x ∈ cl → x.wf) := by
    rcases h.lines with e | ⟨cl, e, hcl, hcw⟩
    · have e' : q.nz.lines = .sl ([] : List Cm).length (([] : List Cm).flatMap Cm.ds) := by show Go.Sl.nz q.lines = _; rw [e]; rfl
      exact ⟨(OpD.lin.of e' (by simp)).1, .inr ⟨[], e', by simp, by simp⟩⟩
    · have e' : q.nz.lines = .sl cl.length (cl.flatMap Cm.ds) := by show Go.Sl.nz q.lines = _; rw [e]; rfl
      exact ⟨(OpD.lin.of e' hcl).1, .inr ⟨cl, e', hcl, hcw⟩⟩
  exact ⟨⟨h.dot, h.dep, h.time, h.who, h.cart, h.kind, h.cred, h.to, h.roles, h.depth, h.cap, h.at_, h.ver, h.item, h.qty, h.price, hl.2⟩, hl.1⟩
set_option maxRecDepth 100000 in
/-- A row of operations, nil or not, is held against one whose lines are rows. -/
theorem ops_weak {d : Nat} {ds : List DV} (h : Fit Try.prog (d + 6) T_L_api_Op ds) : ∃ x l, ds = [x] ∧ l.length ≤ 9223372036854775807 ∧ (∀ o, o ∈ l → OpF o ∧ o.lin) ∧
    ∀ (p : Nat → Prop) (μ : Nat → Nm) (M : Mem) (r r' : List SV) (hr : ∀ vs, Rps p μ M r' vs → Rps p μ M r vs) (vs : List Value), Rps p μ M (.d x :: r') vs → Rps p μ M (ops l :: r) vs := by
  rcases ops_fit h with rfl | ⟨l, hl, hn, rfl⟩
  · exact ⟨.nils, [], rfl, by simp, by simp, fun p μ M r r' hr vs hv => rps_nil_row hr vs hv⟩
  · refine ⟨_, l.map OpD.nz, rfl, by simpa using hn, fun o ho => ?_, fun p μ M r r' hr vs hv => ?_⟩
    · obtain ⟨q, hq, rfl⟩ := List.mem_map.1 ho
      exact (hl q hq).nz
    · have := rps_nzr hr vs hv
      rw [← ops_nz] at this
      simpa [ops] using this
theorem own : ownKnob Try.prog.godebug = none := by kernel_rfl
theorem one_arg {t : TypeId} (x : DV) (h : tySz Try.prog t = some none) : argSV Try.prog t [x] = .d x := by rw [argSV_one h]; rfl
def i64okF (n : Int) : Prop := -9223372036854775808 ≤ n ∧ n ≤ 9223372036854775807
theorem fit_i64 {P : Program} {d : Nat} {t : TypeId} {ds : List DV} (hu : P.underlying t = some (.int .i64)) (h : Fit P (d + 1) t ds) : ∃ n : Int, i64okF n ∧ ds = [.int .i64 n] := by
  simp only [Fit] at h
  rw [hu] at h
  obtain ⟨n, rfl, hw⟩ := h
  refine ⟨n, ?_, rfl⟩
  simp only [Lit.wf, IntKind.min, IntKind.max, Bool.and_eq_true, decide_eq_true_eq] at hw
  unfold i64okF
  revert hw
  simp [IntKind.bits, IntKind.signed]
theorem fitAll3 {P : Program} {d : Nat} {t1 t2 t3 : TypeId} {dss : List (List DV)} (h : FitAll P d [t1, t2, t3] dss) : ∃ x0 x1 x2, dss = [x0, x1, x2] ∧ Fit P d t1 x0 ∧ Fit P d t2 x1 ∧ Fit P d t3 x2 := by
  match dss, h with
  | [x0, x1, x2], h =>
    simp only [FitAll] at h
    exact ⟨x0, x1, x2, rfl, h.1, h.2.1, h.2.2.1⟩
theorem fitAll2 {P : Program} {d : Nat} {t1 t2 : TypeId} {dss : List (List DV)} (h : FitAll P d [t1, t2] dss) : ∃ x0 x1, dss = [x0, x1] ∧ Fit P d t1 x0 ∧ Fit P d t2 x1 := by
  match dss, h with
  | [x0, x1], h =>
    simp only [FitAll] at h
    exact ⟨x0, x1, rfl, h.1, h.2.1⟩

end Go.Proofs.Ytgjgfamgbhlmfaa

/-
  What the statement's arguments read as: short rows of operations, and ends.
-/
set_option linter.unusedSectionVars false
set_option linter.unusedVariables false
set_option linter.unusedSimpArgs false
namespace Go.Proofs.Ytgjgfamgbhlmfaa
open Go.Sl Go.Proofs

theorem globOk_nil (M : Mem) : GlobOk M := fun g cs hg => by simp [globs, rawGlobs] at hg
theorem flat_memN {l : List OpD} {o : OpD} (h : o ∈ l) {x : DV} (hx : x ∈ o.ds) : x ∈ l.flatMap OpD.ds := List.mem_flatMap.2 ⟨o, h, hx⟩
theorem line_memN (o : OpD) : o.lines ∈ o.ds := by simp [OpD.ds]
set_option maxRecDepth 100000 in
/-- A row of operations in reach, nil or not, is held against one whose lines are rows. -/
theorem ops_reach {d : Nat} {ds : List DV} (h : Fit Try.prog (d + 6) T_L_api_Op ds) (hs : smallR reachBytes ds) : ∃ x l, ds = [x] ∧ OpsB l ∧
    ∀ (p : Nat → Prop) (μ : Nat → Nm) (M : Mem) (r r' : List SV) (hr : ∀ vs, Rps p μ M r' vs → Rps p μ M r vs) (vs : List Value), Rps p μ M (.d x :: r') vs → Rps p μ M (ops l :: r) vs := by
  rcases ops_fit h with rfl | ⟨l, hl, hn, rfl⟩
  · exact ⟨.nils, [], rfl, ⟨by simp, by simp⟩, fun p μ M r r' hr vs hv => rps_nil_row hr vs hv⟩
  · simp only [smallR, DV.small, and_true, reachBytes] at hs
    obtain ⟨h1, h2⟩ := hs
    rw [smallR_iff] at h2
    refine ⟨_, l.map OpD.nz, rfl, ⟨by simpa using h1, fun o ho => ?_⟩, fun p μ M r r' hr vs hv => ?_⟩
    · obtain ⟨q, hq, rfl⟩ := List.mem_map.1 ho
      have hk := (hl q hq).nz.1
      rcases (hl q hq).lines with e | ⟨cl, e, hcl, hcw⟩
      · have := OpD.lin.of (o := q.nz) (l := []) (by show Go.Sl.nz q.lines = _; rw [e]; rfl) (by simp)
        exact ⟨this.1, by rw [this.2]; simp, hk.dot⟩
      · have hz := OpD.lin.of (o := q.nz) (l := cl) (by show Go.Sl.nz q.lines = _; rw [e]; rfl) hcl
        have hm := h2 _ (flat_memN hq (line_memN q))
        rw [e] at hm
        simp only [DV.small] at hm
        exact ⟨hz.1, by rw [hz.2]; exact hm.1, hk.dot⟩
    · have := rps_nzr hr vs hv
      rw [← ops_nz] at this
      simpa [ops] using this
theorem weightsEach_more {H : Type} {P : Program} {n : Nat} {us : List TypeId} {gs : List (DataW H)} : ∀ {ts : List TypeId} {ds : List (DataW H)}, n ∈ DataW.weightsEach P ts ds → n ∈ DataW.weightsEach P (ts ++ us) (ds ++ gs)
  | [], _, h => by simp [DataW.weightsEach] at h
  | _ :: _, [], h => by simp [DataW.weightsEach] at h
  | t :: ts, d :: ds, h => by
    simp only [DataW.weightsEach, List.mem_append, List.cons_append] at h ⊢
    exact h.imp id weightsEach_more
set_option maxRecDepth 100000 in
theorem ends_fit {d : Nat} {ds : List DV} (h : Fit Try.prog (d + 2) T_tranterlaw14_Ends ds) : ∃ (fr to : Nat) (most : Int), ds = [.int .u8 fr, .int .u8 to, .int .i64 most] := by
  have f0 := fit_field (P := Try.prog) (t := T_tranterlaw14_Ends) Try.underlying27 h 0 _ rfl
  have f1 := fit_field (P := Try.prog) (t := T_tranterlaw14_Ends) Try.underlying27 h 1 _ rfl
  have f2 := fit_field (P := Try.prog) (t := T_tranterlaw14_Ends) Try.underlying27 h 2 _ rfl
  have hl := fit_len (P := Try.prog) (t := T_tranterlaw14_Ends) Try.underlying27 h
  rw [show Try.prog.cellsOf T_tranterlaw14_Ends = 3 from by kernel_rfl] at hl
  obtain ⟨x0, w0, e0⟩ := fit_u8 (P := Try.prog) Try.underlying5 f0
  obtain ⟨x1, w1, e1⟩ := fit_u8 (P := Try.prog) Try.underlying5 f1
  obtain ⟨x2, w2, e2⟩ := fit_i64 (P := Try.prog) Try.underlying3 f2
  refine ⟨x0, x1, x2, ?_⟩
  have g0 : ds.drop 0 = [.int .u8 x0] ++ ds.drop 1 := cutR (n := 1) e0 rfl
  have g1 : ds.drop 1 = [.int .u8 x1] ++ ds.drop 2 := cutR (n := 1) e1 rfl
  have g2 : ds.drop 2 = [.int .i64 x2] ++ ds.drop 3 := cutR (n := 1) e2 rfl
  have g : ds.drop 3 = [] := List.drop_of_length_le (by omega)
  have g' : ds = ds.drop 0 := rfl
  rw [g', g0, g1, g2, g]
  rfl
end Go.Proofs.Ytgjgfamgbhlmfaa
