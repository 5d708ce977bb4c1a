/-
  What the statements' arguments read as: operations with their lines, and rows of them.
-/
import Derived.Test.YtacdkgkpoelhdaaKV
import Derived.Test.YtacdkgkpoelhdaaK5
import Derived.Test.YtacdkgkpoelhdaaRows
import Derived.JoinedCond
import Derived.Test.YtacdkgkpoelhdaaKD
import Derived.Test.YtacdkgkpoelhdaaKG
import Derived.Test.YtacdkgkpoelhdaaKE
set_option linter.unusedSectionVars false
set_option linter.unusedVariables false
set_option linter.unusedSimpArgs false
namespace Go.Proofs.Ytacdkgkpoelhdaa
open Go.Sl Go.Proofs
theorem argSV_one {P : Program} {t : TypeId} {ds : List DV} (h : tySz P t = some none) : argSV P t ds = .d (ds.headD .nilp) := by simp [argSV, h]
set_option maxRecDepth 100000 in
theorem vec_fit {d : Nat} {ds : List DV} (h : Fit Try.prog (d + 2) T_api_Vector ds) : ∃ v : Vec, v.wf ∧ ds = v.ds :=
  fit_vec (P := Try.prog) (t := T_api_Vector) (e := T_uint32) Try.underlying25 Try.underlying23 (by kernel_rfl) (by kernel_rfl) h
set_option maxRecDepth 100000 in
theorem dot_fit {d : Nat} {ds : List DV} (h : Fit Try.prog (d + 2) T_api_Dot ds) : ∃ x : Dt, x.wf ∧ ds = x.ds :=
  fit_dot (P := Try.prog) (t := T_api_Dot) Try.underlying37 rfl rfl rfl rfl Try.underlying5 Try.underlying23 (by kernel_rfl) (by kernel_rfl) (by kernel_rfl) h
set_option maxRecDepth 100000 in
theorem claim_fit {d : Nat} {ds : List DV} (h : Fit Try.prog (d + 3) T_api_Claim ds) : ∃ x : Cm, x.wf ∧ ds = x.ds := by
  have f0 := fit_field (P := Try.prog) (t := T_api_Claim) Try.underlying120 h 0 _ rfl
  have f1 := fit_field (P := Try.prog) (t := T_api_Claim) Try.underlying120 h 1 _ rfl
  have hl := fit_len (P := Try.prog) (t := T_api_Claim) Try.underlying120 h
  rw [show Try.prog.cellsOf T_api_Claim = 4 from by kernel_rfl] at hl
  obtain ⟨x0, w0, e0⟩ := dot_fit (d := d) f0
  obtain ⟨x1, w1, e1⟩ := dot_fit (d := d) f1
  refine ⟨⟨x0, x1⟩, ⟨w0, w1⟩, ?_⟩
  have g0 : ds.drop 0 = x0.ds ++ ds.drop 2 := cutR (n := 2) e0 rfl
  have g1 : ds.drop 2 = x1.ds ++ ds.drop 4 := cutR (n := 2) e1 rfl
  have g : ds.drop 4 = [] := List.drop_of_length_le (by omega)
  have g' : ds = ds.drop 0 := rfl
  rw [g', g0, g1, g]
  rfl
set_option maxRecDepth 100000 in
theorem lines_fit {d : Nat} {ds : List DV} (h : Fit Try.prog (d + 4) T_L_api_Claim ds) : ds = [.nils] ∨ ∃ l : List Cm, (∀ x ∈ l, x.wf) ∧ l.length ≤ 9223372036854775807 ∧ ds = [.sl l.length (l.flatMap Cm.ds)] :=
  fit_slice Cm.ds Cm.wf (P := Try.prog) (t := T_L_api_Claim) (e := T_api_Claim) Try.underlying39 (fun _ h => claim_fit h) h
structure OpF (o : OpD) : Prop where
  dot : o.dot.wf
  dep : o.dep.wf
  time : o.time < 18446744073709551616
  who : o.who < 4294967296
  cart : o.cart.wf
  kind : o.kind < 256
  cred : o.cred.wf
  to : o.to < 4294967296
  roles : o.roles < 256
  depth : o.depth < 256
  cap : o.cap < 18446744073709551616
  at_ : o.at_.wf
  ver : o.ver.wf
  item : o.item < 4294967296
  qty : o.qty < 4294967296
  price : o.price < 4294967296
  lines : o.lines = .nils ∨ ∃ cl : List Cm, o.lines = .sl cl.length (cl.flatMap Cm.ds) ∧ cl.length ≤ 9223372036854775807
set_option maxRecDepth 100000 in
set_option maxHeartbeats 2000000 in
theorem op_fit {d : Nat} {ds : List DV} (h : Fit Try.prog (d + 5) T_api_Op ds) : ∃ o : OpD, OpF o ∧ ds = o.ds := by
  have f0 := fit_field (P := Try.prog) (t := T_api_Op) Try.underlying41 h 0 _ rfl
  have f1 := fit_field (P := Try.prog) (t := T_api_Op) Try.underlying41 h 1 _ rfl
  have f2 := fit_field (P := Try.prog) (t := T_api_Op) Try.underlying41 h 2 _ rfl
  have f3 := fit_field (P := Try.prog) (t := T_api_Op) Try.underlying41 h 3 _ rfl
  have f4 := fit_field (P := Try.prog) (t := T_api_Op) Try.underlying41 h 4 _ rfl
  have f5 := fit_field (P := Try.prog) (t := T_api_Op) Try.underlying41 h 5 _ rfl
  have f6 := fit_field (P := Try.prog) (t := T_api_Op) Try.underlying41 h 6 _ rfl
  have f7 := fit_field (P := Try.prog) (t := T_api_Op) Try.underlying41 h 7 _ rfl
  have f8 := fit_field (P := Try.prog) (t := T_api_Op) Try.underlying41 h 8 _ rfl
  have f9 := fit_field (P := Try.prog) (t := T_api_Op) Try.underlying41 h 9 _ rfl
  have f10 := fit_field (P := Try.prog) (t := T_api_Op) Try.underlying41 h 10 _ rfl
  have f11 := fit_field (P := Try.prog) (t := T_api_Op) Try.underlying41 h 11 _ rfl
  have f12 := fit_field (P := Try.prog) (t := T_api_Op) Try.underlying41 h 12 _ rfl
  have f13 := fit_field (P := Try.prog) (t := T_api_Op) Try.underlying41 h 13 _ rfl
  have f14 := fit_field (P := Try.prog) (t := T_api_Op) Try.underlying41 h 14 _ rfl
  have f15 := fit_field (P := Try.prog) (t := T_api_Op) Try.underlying41 h 15 _ rfl
  have f16 := fit_field (P := Try.prog) (t := T_api_Op) Try.underlying41 h 16 _ rfl
  have hl := fit_len (P := Try.prog) (t := T_api_Op) Try.underlying41 h
  rw [show Try.prog.cellsOf T_api_Op = 29 from by kernel_rfl] at hl
  obtain ⟨x0, w0, e0⟩ := dot_fit (d := d + 2) f0
  obtain ⟨x1, w1, e1⟩ := vec_fit (d := d + 2) f1
  obtain ⟨x2, w2, e2⟩ := fit_u64 (P := Try.prog) Try.underlying38 f2
  obtain ⟨x3, w3, e3⟩ := fit_u32 (P := Try.prog) Try.underlying23 f3
  obtain ⟨x4, w4, e4⟩ := dot_fit (d := d + 2) f4
  obtain ⟨x5, w5, e5⟩ := fit_u8 (P := Try.prog) Try.underlying5 f5
  obtain ⟨x6, w6, e6⟩ := dot_fit (d := d + 2) f6
  obtain ⟨x7, w7, e7⟩ := fit_u32 (P := Try.prog) Try.underlying23 f7
  obtain ⟨x8, w8, e8⟩ := fit_u8 (P := Try.prog) Try.underlying5 f8
  obtain ⟨x9, w9, e9⟩ := fit_u8 (P := Try.prog) Try.underlying5 f9
  obtain ⟨x10, w10, e10⟩ := fit_u64 (P := Try.prog) Try.underlying38 f10
  obtain ⟨x11, w11, e11⟩ := dot_fit (d := d + 2) f11
  obtain ⟨x12, w12, e12⟩ := dot_fit (d := d + 2) f12
  obtain ⟨x13, w13, e13⟩ := fit_u32 (P := Try.prog) Try.underlying23 f13
  obtain ⟨x14, w14, e14⟩ := fit_u32 (P := Try.prog) Try.underlying23 f14
  obtain ⟨x15, w15, e15⟩ := fit_u32 (P := Try.prog) Try.underlying23 f15
  have e16 : ∃ y, (ds.drop 28).take 1 = [y] ∧ (y = .nils ∨ ∃ cl : List Cm, y = .sl cl.length (cl.flatMap Cm.ds) ∧ cl.length ≤ 9223372036854775807) := by
    rcases lines_fit (d := d) f16 with e | ⟨cl, _, hn, e⟩
    · exact ⟨.nils, e, .inl rfl⟩
    · exact ⟨_, e, .inr ⟨cl, rfl, hn⟩⟩
  obtain ⟨x16, e16, w16⟩ := e16
  refine ⟨⟨x0, x1, x2, x3, x4, x5, x6, x7, x8, x9, x10, x11, x12, x13, x14, x15, x16⟩, ⟨w0, w1, w2, w3, w4, w5, w6, w7, w8, w9, w10, w11, w12, w13, w14, w15, w16⟩, ?_⟩
  have g0 : ds.drop 0 = x0.ds ++ ds.drop 2 := cutR (n := 2) e0 rfl
  have g1 : ds.drop 2 = x1.ds ++ ds.drop 10 := cutR (n := 8) e1 rfl
  have g2 : ds.drop 10 = [.int .u64 x2] ++ ds.drop 11 := cutR (n := 1) e2 rfl
  have g3 : ds.drop 11 = [.int .u32 x3] ++ ds.drop 12 := cutR (n := 1) e3 rfl
  have g4 : ds.drop 12 = x4.ds ++ ds.drop 14 := cutR (n := 2) e4 rfl
  have g5 : ds.drop 14 = [.int .u8 x5] ++ ds.drop 15 := cutR (n := 1) e5 rfl
  have g6 : ds.drop 15 = x6.ds ++ ds.drop 17 := cutR (n := 2) e6 rfl
  have g7 : ds.drop 17 = [.int .u32 x7] ++ ds.drop 18 := cutR (n := 1) e7 rfl
  have g8 : ds.drop 18 = [.int .u8 x8] ++ ds.drop 19 := cutR (n := 1) e8 rfl
  have g9 : ds.drop 19 = [.int .u8 x9] ++ ds.drop 20 := cutR (n := 1) e9 rfl
  have g10 : ds.drop 20 = [.int .u64 x10] ++ ds.drop 21 := cutR (n := 1) e10 rfl
  have g11 : ds.drop 21 = x11.ds ++ ds.drop 23 := cutR (n := 2) e11 rfl
  have g12 : ds.drop 23 = x12.ds ++ ds.drop 25 := cutR (n := 2) e12 rfl
  have g13 : ds.drop 25 = [.int .u32 x13] ++ ds.drop 26 := cutR (n := 1) e13 rfl
  have g14 : ds.drop 26 = [.int .u32 x14] ++ ds.drop 27 := cutR (n := 1) e14 rfl
  have g15 : ds.drop 27 = [.int .u32 x15] ++ ds.drop 28 := cutR (n := 1) e15 rfl
  have g16 : ds.drop 28 = [x16] ++ ds.drop 29 := cutR (n := 1) e16 rfl
  have g : ds.drop 29 = [] := List.drop_of_length_le (by omega)
  have g' : ds = ds.drop 0 := rfl
  rw [g', g0, g1, g2, g3, g4, g5, g6, g7, g8, g9, g10, g11, g12, g13, g14, g15, g16, g]
  rfl
set_option maxRecDepth 100000 in
theorem ops_fit {d : Nat} {ds : List DV} (h : Fit Try.prog (d + 6) T_L_api_Op ds) : ds = [.nils] ∨ ∃ l : List OpD, (∀ x ∈ l, OpF x) ∧ l.length ≤ 9223372036854775807 ∧ ds = [.sl l.length (l.flatMap OpD.ds)] :=
  fit_slice OpD.ds OpF (P := Try.prog) (t := T_L_api_Op) (e := T_api_Op) Try.underlying22 (fun _ h => op_fit h) h
theorem ops_arg (x : DV) : argSV Try.prog T_L_api_Op [x] = .d x := by rw [argSV_one (by kernel_rfl)]; rfl
theorem OpF.nz {q : OpD} (h : OpF q) : OpF q.nz ∧ q.nz.lin := by
  have hl : q.nz.lin ∧ (q.nz.lines = .nils ∨ ∃ cl : List Cm, q.nz.lines = .sl cl.length (cl.flatMap Cm.ds) ∧ cl.length ≤ 9223372036854775807) := by
    rcases h.lines with e | ⟨cl, e, hcl⟩
    · have e' : q.nz.lines = .sl ([] : List Cm).length (([] : List Cm).flatMap Cm.ds) := by show Go.Sl.nz q.lines = _; rw [e]; rfl
      exact ⟨(OpD.lin.of e' (by simp)).1, .inr ⟨[], e', by simp⟩⟩
    · have e' : q.nz.lines = .sl cl.length (cl.flatMap Cm.ds) := by show Go.Sl.nz q.lines = _; rw [e]; rfl
      exact ⟨(OpD.lin.of e' hcl).1, .inr ⟨cl, e', hcl⟩⟩
  exact ⟨⟨h.dot, h.dep, h.time, h.who, h.cart, h.kind, h.cred, h.to, h.roles, h.depth, h.cap, h.at_, h.ver, h.item, h.qty, h.price, hl.2⟩, hl.1⟩
set_option maxRecDepth 100000 in
theorem ops_weak {d : Nat} {ds : List DV} (h : Fit Try.prog (d + 6) T_L_api_Op ds) : ∃ x l, ds = [x] ∧ l.length ≤ 9223372036854775807 ∧ (∀ o, o ∈ l → OpF o ∧ o.lin) ∧
    ∀ (p : Nat → Prop) (μ : Nat → Nm) (M : Mem) (r r' : List SV) (hr : ∀ vs, Rps p μ M r' vs → Rps p μ M r vs) (vs : List Value), Rps p μ M (.d x :: r') vs → Rps p μ M (ops l :: r) vs := by
  rcases ops_fit h with rfl | ⟨l, hl, hn, rfl⟩
  · exact ⟨.nils, [], rfl, by simp, by simp, fun p μ M r r' hr vs hv => rps_nil_row hr vs hv⟩
  · refine ⟨_, l.map OpD.nz, rfl, by simpa using hn, fun o ho => ?_, fun p μ M r r' hr vs hv => ?_⟩
    · obtain ⟨q, hq, rfl⟩ := List.mem_map.1 ho
      exact (hl q hq).nz
    · have := rps_nzr hr vs hv
      rw [← ops_nz] at this
      simpa [ops] using this
theorem own : ownKnob Try.prog.godebug = none := by kernel_rfl
theorem one_arg {t : TypeId} (x : DV) (h : tySz Try.prog t = some none) : argSV Try.prog t [x] = .d x := by rw [argSV_one h]; rfl
def i64ok (n : Int) : Prop := -9223372036854775808 ≤ n ∧ n ≤ 9223372036854775807
theorem fit_i64 {P : Program} {d : Nat} {t : TypeId} {ds : List DV} (hu : P.underlying t = some (.int .i64)) (h : Fit P (d + 1) t ds) : ∃ n : Int, i64ok n ∧ ds = [.int .i64 n] := by
  simp only [Fit] at h
  rw [hu] at h
  obtain ⟨n, rfl, hw⟩ := h
  refine ⟨n, ?_, rfl⟩
  simp only [Lit.wf, IntKind.min, IntKind.max, Bool.and_eq_true, decide_eq_true_eq] at hw
  unfold i64ok
  revert hw
  simp [IntKind.bits, IntKind.signed]
theorem globOk_nil (M : Mem) : GlobOk M := fun g cs hg => by simp [globs, rawGlobs] at hg
theorem fitAll3 {P : Program} {d : Nat} {t1 t2 t3 : TypeId} {dss : List (List DV)} (h : FitAll P d [t1, t2, t3] dss) : ∃ x0 x1 x2, dss = [x0, x1, x2] ∧ Fit P d t1 x0 ∧ Fit P d t2 x1 ∧ Fit P d t3 x2 := by
  match dss, h with
  | [x0, x1, x2], h =>
    simp only [FitAll] at h
    exact ⟨x0, x1, x2, rfl, h.1, h.2.1, h.2.2.1⟩
end Go.Proofs.Ytacdkgkpoelhdaa
namespace Go.Proofs.Ytacdkgkpoelhdaa
open Go.Sl Go.Proofs
theorem bulk_pos {H : Type} (x : DataW H) : 1 ≤ Rows.uptoBulk x := by
  unfold Rows.uptoBulk
  split <;> omega
theorem bulk_mem {H : Type} : ∀ (es : List (DataW H)) (x : DataW H), x ∈ es → Rows.uptoBulk x ≤ Rows.uptoBulkAll es
  | y :: es, x, h => by
    rw [Rows.uptoBulkAll]
    rcases List.mem_cons.1 h with rfl | h
    · omega
    · have := bulk_mem es x h; omega
theorem bulk_len {H : Type} : ∀ (es : List (DataW H)), es.length ≤ Rows.uptoBulkAll es
  | [] => by simp [Rows.uptoBulkAll]
  | y :: es => by
    have h1 := bulk_len es
    have h2 := bulk_pos y
    rw [Rows.uptoBulkAll, List.length_cons]; omega
theorem bulk {H : Type} : Bulk (H := H) Rows.uptoBulk := by
  refine ⟨fun es sp x hx => ?_, fun es sp => ?_, fun xs x hx => ?_⟩
  · have := bulk_mem es x hx
    rw [Rows.uptoBulk]; omega
  · have := bulk_len es
    rw [Rows.uptoBulk]; omega
  · have := bulk_mem xs x hx
    rw [Rows.uptoBulk]; omega
end Go.Proofs.Ytacdkgkpoelhdaa
namespace Go.Proofs.Ytacdkgkpoelhdaa
open Go.Sl Go.Proofs
attribute [local irreducible] SW RW SCd SC CallP Pruned
theorem chainYes {a : MM Dt Cr} {d : Dt} {L : List Cr} {c : Cr} (hg : MM.get a d = some c) : chainR a d L = .tup [dots (L.map (·.dot)), .d (.int .i64 0)] := by
  unfold chainR MM.has
  rw [hg]
  simp [dots]
theorem chainNo {a : MM Dt Cr} {d : Dt} {L : List Cr} (hg : MM.get a d = none) : chainR a d L = .tup [.d .nils, .d (.int .i64 7)] := by
  unfold chainR MM.has
  rw [hg]; rfl
theorem mapsF (a : MM Dt Cr) (m : MM Dt OpD) : (∀ q : Nat → Bool, ((mapE Dt.cells cv a).all fun e => e.2.1.ok q && e.2.2.ok q) = true) ∧ (∀ q : Nat → Bool, ((mapE Dt.cells ov m).all fun e => e.2.1.ok q && e.2.2.ok q) = true) ∧ (∀ r : Nat → Nat, (mapE Dt.cells cv a).map (fun e => (e.1, e.2.1.ren r, e.2.2.ren r)) = mapE Dt.cells cv a) ∧ (∀ r : Nat → Nat, (mapE Dt.cells ov m).map (fun e => (e.1, e.2.1.ren r, e.2.2.ren r)) = mapE Dt.cells ov m) :=
  ⟨fun q => cmap_ok q a, fun q => omap_ok q m, fun r => cmap_ren r a, fun r => omap_ren r m⟩
theorem same_nils (k : Nat) : SCd Try.prog ref03_Same.f [.d .nils, .d .nils] [] k 0 (.d (.bool true)) [] := by
  have h : Go.Sl.Pure Try.prog ref03_Same.f [.d .nils, .d .nils] (.d (.bool true)) :=
    SB.args (same_ok [] [] (by decide) (by decide)) rfl fun p μ M vs => rps_nil_row (fun _ => rps_nil_row (fun _ h => h) _) vs
  exact h.sc rfl k
section
variable {l : List OpD} {a : MM Dt Cr} {ca : Nat} {m : MM Dt OpD} {cm : Nat} (h : Tn l a ca m cm)
include h
theorem Tn.getYes {d : Dt} {c : Cr} (hg : MM.get a d = some c) (k : Nat) : SCd Try.prog tree_Tree_Get.f [.ptr 2 0, .agg d.cells] (H2 a ca m cm) k 3 (.tup [.agg c.cells, .d (.int .i64 0)]) (H2 a ca m cm) := by
  have := h.getC d k
  unfold MM.has at this
  rw [hg] at this; exact this
theorem Tn.getNo {d : Dt} (hg : MM.get a d = none) (k : Nat) : SCd Try.prog tree_Tree_Get.f [.ptr 2 0, .agg d.cells] (H2 a ca m cm) k 3 (.tup [.agg Cr.zero.cells, .d (.int .i64 7)]) (H2 a ca m cm) := by
  have := h.getC d k
  unfold MM.has at this
  rw [hg] at this; exact this
end
abbrev tr9 (a : MM Dt Cr) (ca : Nat) (m : MM Dt OpD) (cm : Nat) : Tr := ⟨9, 7, 8, a, ca, m, cm⟩
abbrev H9 (a : MM Dt Cr) (ca : Nat) (m : MM Dt OpD) (cm : Nat) : Hp := [(9, .box 101 [.mp 7, .mp 8]), (7, .map (mapE Dt.cells cv a) ca), (8, .map (mapE Dt.cells ov m) cm)]
section
variable {l : List OpD} {a : MM Dt Cr} {ca : Nat} {m : MM Dt OpD} {cm : Nat} (h : Tn l a ca m cm)
include h
theorem Tn.new9 : newTr' l 7 = tr9 a ca m cm := by
  have h0 := h.new
  unfold newTr' Tr.sh at h0 ⊢
  injection h0 with h1 h2 h3 h4 h5 h6 h7
  rw [h4, h5, h6, h7]
  congr 1
  · omega
  · omega
  · omega
theorem Tn.sep9 : (tr9 a ca m cm).sep := by rw [← h.new9]; exact (newTr_ok l 7).1
theorem Tn.newC9 (hl : l.length < 1000000000) : SCd Try.prog tree_New.f [ops l] [] 7 7 (.ptr 9 0) (H9 a ca m cm) := by
  have := new_at l hl 7
  rw [h.new9] at this; exact this
theorem Tn.getYes9 {d : Dt} {c : Cr} (hg : MM.get a d = some c) (k : Nat) : SCd Try.prog tree_Tree_Get.f [.ptr 9 0, .agg d.cells] (H9 a ca m cm) k 3 (.tup [.agg c.cells, .d (.int .i64 0)]) (H9 a ca m cm) := by
  have : SCd Try.prog tree_Tree_Get.f [.ptr 9 0, .agg d.cells] (H9 a ca m cm) k 3 (.tup [.agg ((MM.get a d).getD Cr.zero).cells, i64 (if MM.has a d then 0 else 7)]) (H9 a ca m cm) := get_at h.sep9 d k
  unfold MM.has at this
  rw [hg] at this; exact this
theorem Tn.getNo9 {d : Dt} (hg : MM.get a d = none) (k : Nat) : SCd Try.prog tree_Tree_Get.f [.ptr 9 0, .agg d.cells] (H9 a ca m cm) k 3 (.tup [.agg Cr.zero.cells, .d (.int .i64 7)]) (H9 a ca m cm) := by
  have : SCd Try.prog tree_Tree_Get.f [.ptr 9 0, .agg d.cells] (H9 a ca m cm) k 3 (.tup [.agg ((MM.get a d).getD Cr.zero).cells, i64 (if MM.has a d then 0 else 7)]) (H9 a ca m cm) := get_at h.sep9 d k
  unfold MM.has at this
  rw [hg] at this; exact this
theorem Tn.chainC9 (d : Dt) (L : List Cr) (hL : Ups a (MM.get a d) L) (hlen : L.length < 1000000) (k : Nat) : SCd Try.prog tree_Tree_Chain.f [.ptr 9 0, .agg d.cells] (H9 a ca m cm) k (6 + L.length * (1 + 2)) (chainR a d L) (H9 a ca m cm) := chain_at h.sep9 d L hL hlen k
end
abbrev HB (a : MM Dt Cr) (ca : Nat) (m : MM Dt OpD) (cm : Nat) (b : MM Dt Cr) (cb : Nat) (w : MM Dt OpD) (cw : Nat) : Hp := [(2, .box 101 [.mp 0, .mp 1]), (0, .map (mapE Dt.cells cv a) ca), (1, .map (mapE Dt.cells ov m) cm), (9, .box 101 [.mp 7, .mp 8]), (7, .map (mapE Dt.cells cv b) cb), (8, .map (mapE Dt.cells ov w) cw)]
set_option maxHeartbeats 16000000 in
theorem law_begins (l : List OpD) (n : Int) (q : Nat) (hq : q < 256) (hd : ∀ o, o ∈ l → o.dot.wf ∧ o.kind < 256 ∧ o.lin) (hlen : l.length ≤ 9223372036854775807) :
    SB Try.prog law16_TreeBegins.f [ops l, .d (.int .i64 n), u8 q] [] 0 0 (fun r F => r = bl true) := by
  refine law16_TreeBegins.enter (by first | rfl | simp [SV.ok, SV.oks]) (by first | rfl | simp [Hp.ok, Ob.ok, SV.ok, SV.oks, Vec.cells_ok]) (by simp) ?_
  unfold law16_TreeBegins.s
  have hG' := great_at l (fun o ho => ⟨_, _, (hd o ho).2.2.eq, (hd o ho).2.2.le⟩) hlen
  rcases hG : greatV l with _ | _
  rotate_left
  · rw [hG] at hG'
    (repeat (first | refine SW.seq ?_ | refine SW.block ?_ | (refine SW.regL [0, 1, 2, 6, 7, 8, 9, 10, 11, 12, 13, 14, 15, 16, 18, 27, 48, 52, 122] mixed ?_; (repeat (first | refine RW.ro bq_tt (h := ?_) | refine RW.skip (h := ?_) | refine RW.op bq_tt (h := ?_) | refine RW.opN bq_tt (h := ?_) | refine RW.skip0 (h := ?_) | (refine RW.callC (h := ?_); (first | refine CallP.mk bq_tt (hc := hG' _) (h := ?_) | refine CallP.mk bq_tt (hc := head16_at _) (h := ?_))))); refine RW.nil ⟨by kernel_rfl, Pruned.mk (h := ?_)⟩) | refine SW.skip ?_ | refine SW.exit ?_ | refine SW.ret ?_ | refine SW.condT rfl ?_ | refine SW.condF rfl ?_))
    exact End.mk [] (h4 := rfl)
  rw [hG] at hG'
  have hl80 := great_len hG
  have hH' := history_at l (by omega) n hd
  rcases hH : (histV n l != 0) with _ | _
  rotate_left
  · 
    (repeat (first | refine SW.seq ?_ | refine SW.block ?_ | (refine SW.regL [0, 1, 2, 6, 7, 8, 9, 10, 11, 12, 13, 14, 15, 16, 18, 27, 48, 52, 122] mixed ?_; (repeat (first | refine RW.ro (hH) (h := ?_) | refine RW.skip (h := ?_) | refine RW.op (hH) (h := ?_) | refine RW.opN (hH) (h := ?_) | refine RW.skip0 (h := ?_) | (refine RW.callC (h := ?_); (first | refine CallP.mk (hH) (hc := hG' _) (h := ?_) | refine CallP.mk (hH) (hc := hH' _) (h := ?_) | refine CallP.mk (hH) (hc := head16_at _) (h := ?_))))); refine RW.nil ⟨by kernel_rfl, Pruned.mk (h := ?_)⟩) | refine SW.skip ?_ | refine SW.exit ?_ | refine SW.ret ?_ | refine SW.condT rfl ?_ | refine SW.condF rfl ?_))
    exact End.mk [] (h4 := rfl)
  have hh : Hist n l := histV_zero.1 (by simpa using hH)
  refine SW.seq ?_
  (refine SW.regL [0, 1, 2, 6, 7, 8, 9, 10, 11, 12, 13, 14, 15, 16, 18, 27, 48, 52, 122] mixed ?_; (repeat (first | refine RW.ro bq_tt (h := ?_) | refine RW.skip (h := ?_) | refine RW.op bq_tt (h := ?_) | refine RW.opN bq_tt (h := ?_) | refine RW.skip0 (h := ?_) | (refine RW.callC (h := ?_); (first | refine CallP.mk bq_tt (hc := hG' _) (h := ?_) | refine CallP.mk bq_tt (hc := hH' _) (h := ?_) | refine CallP.mk bq_tt (hc := rosort_at l (by first | assumption | omega) (fun o ho => (hd o ho).1) _) (h := ?_))))); refine RW.nil ⟨by kernel_rfl, Pruned.mk (h := ?_)⟩)
  refine SW.seq (SW.seq ?_)
  (refine SW.regL [0, 1, 2, 6, 7, 8, 9, 10, 11, 12, 13, 14, 15, 16, 18, 27, 48, 52, 122] mixed ?_; (repeat (first | refine RW.ro (hH) (h := ?_) | refine RW.skip (h := ?_) | refine RW.op (hH) (h := ?_) | refine RW.opN (hH) (h := ?_) | refine RW.skip0 (h := ?_) | (refine RW.callC (h := ?_); (first | refine CallP.mk (hH) (hc := hG' _) (h := ?_) | refine CallP.mk (hH) (hc := hH' _) (h := ?_) | refine CallP.mk (hH) (hc := rosort_at l (by first | assumption | omega) (fun o ho => (hd o ho).1) _) (h := ?_))))); refine RW.nil ⟨by kernel_rfl, Pruned.mk (h := ?_)⟩)
  refine SW.condF rfl (SW.skip ?_)
  refine SW.seq ?_
  (refine SW.regL [0, 1, 2, 6, 7, 8, 9, 10, 11, 12, 13, 14, 15, 16, 18, 27, 48, 52, 122] mixed ?_; (repeat (first | refine RW.ro bq_tt (h := ?_) | refine RW.skip (h := ?_) | refine RW.op bq_tt (h := ?_) | refine RW.opN bq_tt (h := ?_) | refine RW.skip0 (h := ?_) | (refine RW.callC (h := ?_); (first | refine CallP.mk bq_tt (hc := hG' _) (h := ?_) | refine CallP.mk bq_tt (hc := hH' _) (h := ?_) | refine CallP.mk bq_tt (hc := rosort_at l (by first | assumption | omega) (fun o ho => (hd o ho).1) _) (h := ?_))))); refine RW.nil ⟨by kernel_rfl, Pruned.mk (h := ?_)⟩)
  have hs80 : (osort l).length ≤ 80 := Nat.le_trans (osort_len l) hl80
  obtain ⟨k, hk, ek⟩ : ∃ k : Nat, k ≤ (osort l).length ∧ ((q : Int).tmod (((osort l).length + 1 : Nat) : Int)) = ((k : Nat) : Int) := ⟨q % ((osort l).length + 1), by have := Nat.mod_lt q (show 0 < (osort l).length + 1 by omega); omega, (Int.ofNat_tmod q _).symm⟩
  refine SW.seq ?_
  (refine SW.regL [0, 1, 2, 6, 7, 8, 9, 10, 11, 12, 13, 14, 15, 16, 18, 27, 48, 52, 122] mixed ?_; (repeat (first | refine RW.ro (ek) (h := ?_) | refine RW.skip (h := ?_) | refine RW.op (ek) (h := ?_) | refine RW.opN (ek) (h := ?_) | refine RW.skip0 (h := ?_))); refine RW.nil ⟨by kernel_rfl, Pruned.mk (h := ?_)⟩)
  have e0 : (k : Int).toNat = k := Int.toNat_natCast k
  have e5 : ops ((osort l).take k) = .d (.sl k (((osort l).flatMap OpD.ds).take (k * 29))) := by unfold ops; rw [rops_take, List.length_take, Nat.min_eq_left hk]
  have hP := Hist.begin hh k
  obtain ⟨a, ca, m, cm, ht⟩ := tn_of ((osort l).take k)
  obtain ⟨b, cb, w, cw, hu⟩ := tn_of l
  have c1 := ht.newC (by rw [List.length_take]; omega)
  rw [e5] at c1
  have c2 := hu.newC9 (by omega)
  refine SW.seq ?_
  (have fx := (And.intro (e0) (Nat.sub_zero)); refine SW.regL [0, 1, 2, 6, 7, 8, 9, 10, 11, 12, 13, 14, 15, 16, 18, 27, 48, 52, 122] mixed ?_; (repeat (first | refine RW.ro fx (h := ?_) | refine RW.skip (h := ?_) | refine RW.op fx (h := ?_) | refine RW.opN fx (h := ?_) | refine RW.skip0 (h := ?_) | (refine RW.callC (h := ?_); (first | refine CallP.mk fx (hc := c1) (h := ?_) | refine CallP.mk fx (hc := c2) (h := ?_))))); refine RW.nil ⟨by kernel_rfl, Pruned.mk (h := ?_)⟩)
  refine SW.seq (SW.seq ?_)
  (refine SW.regL [0, 1, 2, 6, 7, 8, 9, 10, 11, 12, 13, 14, 15, 16, 18, 27, 48, 52, 122] mixed ?_; (repeat (first | refine RW.ro bq_tt (h := ?_) | refine RW.skip (h := ?_) | refine RW.op bq_tt (h := ?_) | refine RW.opN bq_tt (h := ?_) | refine RW.skip0 (h := ?_))); refine RW.nil ⟨by kernel_rfl, Pruned.mk (h := ?_)⟩)
  refine SW.condF rfl (SW.skip ?_)
  refine SW.seq (SW.seq ?_)
  (refine SW.regL [0, 1, 2, 6, 7, 8, 9, 10, 11, 12, 13, 14, 15, 16, 18, 27, 48, 52, 122] mixed ?_; (repeat (first | refine RW.ro bq_tt (h := ?_) | refine RW.skip (h := ?_) | refine RW.op bq_tt (h := ?_) | refine RW.opN bq_tt (h := ?_) | refine RW.skip0 (h := ?_))); refine RW.nil ⟨by kernel_rfl, Pruned.mk (h := ?_)⟩)
  refine SW.block ?_
  have tt := ht.tok
  have tu := hu.tok
  have hperm : (osort l).Perm l := hh.uniq.sortPerm
  refine SW.loopA (α := {i : Nat // i ≤ (osort l).length}) (fun i => ⟨[(11, i64 i.1), (7, ops (osort l)), (8, i64 k), (9, .ptr 2 0), (10, .ptr 9 0)], HB a ca m cm b cb w cw, 14⟩) (fun i => (osort l).length - i.1) ⟨0, by omega⟩ id (And.intro (mapsF a m) (mapsF b w)) (round := ?_)
  rintro ⟨i, hi⟩
  dsimp only
  by_cases h : i < (osort l).length
  · obtain ⟨x, hx⟩ := get_of_lt h
    have hxl : x ∈ l := hperm.mem_iff.1 (List.mem_of_getElem? hx)
    have hfl : findO l x.dot = some x := hh.uniq.find hxl
    have h1 : decide ((i : Int) < (osort l).length) = true := by simp only [decide_eq_true_eq]; omega
    have e2 : IntKind.i64.wrap ((i : Int) + 1) = ((i + 1 : Nat) : Int) := wrap_i64 _ (by omega)
    have e8 : decide (Cr.zero = Cr.zero) = true := decide_eq_true rfl
    refine SW.seq (SW.seq ?_)
    (refine SW.regL [0, 1, 2, 6, 7, 8, 9, 10, 11, 12, 13, 14, 15, 16, 18, 27, 48, 52, 122] mixed ?_; (repeat (first | refine RW.ro (h1) (h := ?_) | refine RW.skip (h := ?_) | refine RW.op (h1) (h := ?_) | refine RW.opN (h1) (h := ?_) | refine RW.skip0 (h := ?_))); refine RW.nil ⟨by kernel_rfl, Pruned.mk (h := ?_)⟩)
    refine SW.condT rfl (SW.skip ?_)
    refine SW.seq (SW.block ?_)
    by_cases hik : i < k
    · have f1 : decide ((i : Int) < k) = true := by simp; exact hik
      have f2 : decide ((i : Int) ≥ k) = false := by simp; exact hik
      have hft : findO ((osort l).take k) x.dot = some x := hP.utop.find (List.mem_of_getElem? (i := i) (by rw [List.getElem?_take_of_lt hik]; exact hx))
      have hgg : MM.get a x.dot = MM.get b x.dot := hP.get tt tu hft
      obtain ⟨L, hL, hL9, hLl⟩ := tt.ups x.dot
      have hM : Ups b (MM.get b x.dot) L := hP.upsAt tt tu hft hL
      have ch := ht.chainC x.dot L hL (by omega)
      have ch9 := hu.chainC9 x.dot L hM (by omega)
      cases hg : MM.get a x.dot with
      | none =>
        have hg' : MM.get b x.dot = none := by rw [← hgg]; exact hg
        rw [chainNo hg] at ch
        rw [chainNo hg'] at ch9
        refine SW.seq ?_
        (have fx := (And.intro (op_load hx) (op_roomd hx)); refine SW.regL [0, 1, 2, 6, 7, 8, 9, 10, 11, 12, 13, 14, 15, 16, 18, 27, 48, 52, 122] mixed ?_; (repeat (first | refine RW.ro fx (h := ?_) | refine RW.skip (h := ?_) | refine RW.op fx (h := ?_) | refine RW.opN fx (h := ?_) | refine RW.skip0 (h := ?_) | (refine RW.callC (h := ?_); (first | refine CallP.mk fx (hc := ht.getNo hg _) (h := ?_) | refine CallP.mk fx (hc := hu.getNo9 hg' _) (h := ?_) | refine CallP.mk fx (hc := ch _) (h := ?_) | refine CallP.mk fx (hc := ch9 _) (h := ?_) | refine CallP.mk fx (hc := same_nils _) (h := ?_))))); refine RW.nil ⟨by kernel_rfl, Pruned.mk (h := ?_)⟩)
        refine SW.seq ?_
        (have fx := (And.intro (op_load hx) (op_roomd hx)); refine SW.regL [0, 1, 2, 6, 7, 8, 9, 10, 11, 12, 13, 14, 15, 16, 18, 27, 48, 52, 122] mixed ?_; (repeat (first | refine RW.ro fx (h := ?_) | refine RW.skip (h := ?_) | refine RW.op fx (h := ?_) | refine RW.opN fx (h := ?_) | refine RW.skip0 (h := ?_) | (refine RW.callC (h := ?_); (first | refine CallP.mk fx (hc := ht.getNo hg _) (h := ?_) | refine CallP.mk fx (hc := hu.getNo9 hg' _) (h := ?_) | refine CallP.mk fx (hc := ch _) (h := ?_) | refine CallP.mk fx (hc := ch9 _) (h := ?_) | refine CallP.mk fx (hc := same_nils _) (h := ?_))))); refine RW.nil ⟨by kernel_rfl, Pruned.mk (h := ?_)⟩)
        refine SW.seq ?_
        (have fx := (And.intro (op_load hx) (op_roomd hx)); refine SW.regL [0, 1, 2, 6, 7, 8, 9, 10, 11, 12, 13, 14, 15, 16, 18, 27, 48, 52, 122] mixed ?_; (repeat (first | refine RW.ro fx (h := ?_) | refine RW.skip (h := ?_) | refine RW.op fx (h := ?_) | refine RW.opN fx (h := ?_) | refine RW.skip0 (h := ?_) | (refine RW.callC (h := ?_); (first | refine CallP.mk fx (hc := ht.getNo hg _) (h := ?_) | refine CallP.mk fx (hc := hu.getNo9 hg' _) (h := ?_) | refine CallP.mk fx (hc := ch _) (h := ?_) | refine CallP.mk fx (hc := ch9 _) (h := ?_) | refine CallP.mk fx (hc := same_nils _) (h := ?_))))); refine RW.nil ⟨by kernel_rfl, Pruned.mk (h := ?_)⟩)
        refine SW.seq ?_
        (have fx := (And.intro (op_load hx) (op_roomd hx)); refine SW.regL [0, 1, 2, 6, 7, 8, 9, 10, 11, 12, 13, 14, 15, 16, 18, 27, 48, 52, 122] mixed ?_; (repeat (first | refine RW.ro fx (h := ?_) | refine RW.skip (h := ?_) | refine RW.op fx (h := ?_) | refine RW.opN fx (h := ?_) | refine RW.skip0 (h := ?_) | (refine RW.callC (h := ?_); (first | refine CallP.mk fx (hc := ht.getNo hg _) (h := ?_) | refine CallP.mk fx (hc := hu.getNo9 hg' _) (h := ?_) | refine CallP.mk fx (hc := ch _) (h := ?_) | refine CallP.mk fx (hc := ch9 _) (h := ?_) | refine CallP.mk fx (hc := same_nils _) (h := ?_))))); refine RW.nil ⟨by kernel_rfl, Pruned.mk (h := ?_)⟩)
        refine SW.seq ?_
        (have fx := (And.intro (f1) (And.intro (f2) (e8))); refine SW.regL [0, 1, 2, 6, 7, 8, 9, 10, 11, 12, 13, 14, 15, 16, 18, 27, 48, 52, 122] mixed ?_; (repeat (first | refine RW.ro fx (h := ?_) | refine RW.skip (h := ?_) | refine RW.op fx (h := ?_) | refine RW.opN fx (h := ?_) | refine RW.skip0 (h := ?_) | (refine RW.callC (h := ?_); (first | refine CallP.mk fx (hc := ht.getNo hg _) (h := ?_) | refine CallP.mk fx (hc := hu.getNo9 hg' _) (h := ?_) | refine CallP.mk fx (hc := ch _) (h := ?_) | refine CallP.mk fx (hc := ch9 _) (h := ?_) | refine CallP.mk fx (hc := same_nils _) (h := ?_))))); refine RW.nil ⟨by kernel_rfl, Pruned.mk (h := ?_)⟩)
        refine SW.condF rfl (SW.skip ?_)
        (refine SW.regL [0, 1, 2, 6, 7, 8, 9, 10, 11, 12, 13, 14, 15, 16, 18, 27, 48, 52, 122] mixed ?_; (repeat (first | refine RW.ro (e2) (h := ?_) | refine RW.skip (h := ?_) | refine RW.op (e2) (h := ?_) | refine RW.opN (e2) (h := ?_) | refine RW.skip0 (h := ?_))); refine RW.nil ⟨by kernel_rfl, Pruned.mk (h := ?_)⟩)
        dsimp only
        exact ⟨⟨i + 1, by omega⟩, id, by show (osort l).length - (i + 1) < _; omega, Weak.mk (And.intro (mapsF a m) (mapsF b w))⟩
      | some c =>
        have hg' : MM.get b x.dot = some c := by rw [← hgg]; exact hg
        rw [chainYes hg] at ch
        rw [chainYes hg'] at ch9
        have e9 : decide (c = c) = true := decide_eq_true rfl
        have hsm := same_at (L.map (·.dot)) (L.map (·.dot)) (by rw [List.length_map]; omega) (by rw [List.length_map]; omega)
        rw [decide_eq_true rfl] at hsm
        refine SW.seq ?_
        (have fx := (And.intro (op_load hx) (op_roomd hx)); refine SW.regL [0, 1, 2, 6, 7, 8, 9, 10, 11, 12, 13, 14, 15, 16, 18, 27, 48, 52, 122] mixed ?_; (repeat (first | refine RW.ro fx (h := ?_) | refine RW.skip (h := ?_) | refine RW.op fx (h := ?_) | refine RW.opN fx (h := ?_) | refine RW.skip0 (h := ?_) | (refine RW.callC (h := ?_); (first | refine CallP.mk fx (hc := ht.getYes hg _) (h := ?_) | refine CallP.mk fx (hc := hu.getYes9 hg' _) (h := ?_) | refine CallP.mk fx (hc := ch _) (h := ?_) | refine CallP.mk fx (hc := ch9 _) (h := ?_) | refine CallP.mk fx (hc := hsm _) (h := ?_))))); refine RW.nil ⟨by kernel_rfl, Pruned.mk (h := ?_)⟩)
        refine SW.seq ?_
        (have fx := (And.intro (op_load hx) (op_roomd hx)); refine SW.regL [0, 1, 2, 6, 7, 8, 9, 10, 11, 12, 13, 14, 15, 16, 18, 27, 48, 52, 122] mixed ?_; (repeat (first | refine RW.ro fx (h := ?_) | refine RW.skip (h := ?_) | refine RW.op fx (h := ?_) | refine RW.opN fx (h := ?_) | refine RW.skip0 (h := ?_) | (refine RW.callC (h := ?_); (first | refine CallP.mk fx (hc := ht.getYes hg _) (h := ?_) | refine CallP.mk fx (hc := hu.getYes9 hg' _) (h := ?_) | refine CallP.mk fx (hc := ch _) (h := ?_) | refine CallP.mk fx (hc := ch9 _) (h := ?_) | refine CallP.mk fx (hc := hsm _) (h := ?_))))); refine RW.nil ⟨by kernel_rfl, Pruned.mk (h := ?_)⟩)
        refine SW.seq ?_
        (have fx := (And.intro (op_load hx) (op_roomd hx)); refine SW.regL [0, 1, 2, 6, 7, 8, 9, 10, 11, 12, 13, 14, 15, 16, 18, 27, 48, 52, 122] mixed ?_; (repeat (first | refine RW.ro fx (h := ?_) | refine RW.skip (h := ?_) | refine RW.op fx (h := ?_) | refine RW.opN fx (h := ?_) | refine RW.skip0 (h := ?_) | (refine RW.callC (h := ?_); (first | refine CallP.mk fx (hc := ht.getYes hg _) (h := ?_) | refine CallP.mk fx (hc := hu.getYes9 hg' _) (h := ?_) | refine CallP.mk fx (hc := ch _) (h := ?_) | refine CallP.mk fx (hc := ch9 _) (h := ?_) | refine CallP.mk fx (hc := hsm _) (h := ?_))))); refine RW.nil ⟨by kernel_rfl, Pruned.mk (h := ?_)⟩)
        refine SW.seq ?_
        (have fx := (And.intro (op_load hx) (op_roomd hx)); refine SW.regL [0, 1, 2, 6, 7, 8, 9, 10, 11, 12, 13, 14, 15, 16, 18, 27, 48, 52, 122] mixed ?_; (repeat (first | refine RW.ro fx (h := ?_) | refine RW.skip (h := ?_) | refine RW.op fx (h := ?_) | refine RW.opN fx (h := ?_) | refine RW.skip0 (h := ?_) | (refine RW.callC (h := ?_); (first | refine CallP.mk fx (hc := ht.getYes hg _) (h := ?_) | refine CallP.mk fx (hc := hu.getYes9 hg' _) (h := ?_) | refine CallP.mk fx (hc := ch _) (h := ?_) | refine CallP.mk fx (hc := ch9 _) (h := ?_) | refine CallP.mk fx (hc := hsm _) (h := ?_))))); refine RW.nil ⟨by kernel_rfl, Pruned.mk (h := ?_)⟩)
        refine SW.seq ?_
        (have fx := (And.intro (f1) (And.intro (f2) (e9))); refine SW.regL [0, 1, 2, 6, 7, 8, 9, 10, 11, 12, 13, 14, 15, 16, 18, 27, 48, 52, 122] mixed ?_; (repeat (first | refine RW.ro fx (h := ?_) | refine RW.skip (h := ?_) | refine RW.op fx (h := ?_) | refine RW.opN fx (h := ?_) | refine RW.skip0 (h := ?_) | (refine RW.callC (h := ?_); (first | refine CallP.mk fx (hc := ht.getYes hg _) (h := ?_) | refine CallP.mk fx (hc := hu.getYes9 hg' _) (h := ?_) | refine CallP.mk fx (hc := ch _) (h := ?_) | refine CallP.mk fx (hc := ch9 _) (h := ?_) | refine CallP.mk fx (hc := hsm _) (h := ?_))))); refine RW.nil ⟨by kernel_rfl, Pruned.mk (h := ?_)⟩)
        refine SW.condF rfl (SW.skip ?_)
        (refine SW.regL [0, 1, 2, 6, 7, 8, 9, 10, 11, 12, 13, 14, 15, 16, 18, 27, 48, 52, 122] mixed ?_; (repeat (first | refine RW.ro (e2) (h := ?_) | refine RW.skip (h := ?_) | refine RW.op (e2) (h := ?_) | refine RW.opN (e2) (h := ?_) | refine RW.skip0 (h := ?_))); refine RW.nil ⟨by kernel_rfl, Pruned.mk (h := ?_)⟩)
        dsimp only
        exact ⟨⟨i + 1, by omega⟩, id, by show (osort l).length - (i + 1) < _; omega, Weak.mk (And.intro (mapsF a m) (mapsF b w))⟩
    · have f1 : decide ((i : Int) < k) = false := by simp; omega
      have f2 : decide ((i : Int) ≥ k) = true := by simp; omega
      have hft : findO ((osort l).take k) x.dot = none := Hist.late hh hx (by omega)
      have hg : MM.get a x.dot = none := hP.getNone tt hft
      obtain ⟨L, hL, hL9, hLl⟩ := tt.ups x.dot
      obtain ⟨M, hM, hM9, hMl⟩ := tu.ups x.dot
      have ch := ht.chainC x.dot L hL (by omega)
      have ch9 := hu.chainC9 x.dot M hM (by omega)
      rw [chainNo hg] at ch
      cases hg' : MM.get b x.dot with
      | none =>
        rw [chainNo hg'] at ch9
        refine SW.seq ?_
        (have fx := (And.intro (op_load hx) (op_roomd hx)); refine SW.regL [0, 1, 2, 6, 7, 8, 9, 10, 11, 12, 13, 14, 15, 16, 18, 27, 48, 52, 122] mixed ?_; (repeat (first | refine RW.ro fx (h := ?_) | refine RW.skip (h := ?_) | refine RW.op fx (h := ?_) | refine RW.opN fx (h := ?_) | refine RW.skip0 (h := ?_) | (refine RW.callC (h := ?_); (first | refine CallP.mk fx (hc := ht.getNo hg _) (h := ?_) | refine CallP.mk fx (hc := hu.getNo9 hg' _) (h := ?_) | refine CallP.mk fx (hc := ch _) (h := ?_) | refine CallP.mk fx (hc := ch9 _) (h := ?_) | refine CallP.mk fx (hc := same_nils _) (h := ?_))))); refine RW.nil ⟨by kernel_rfl, Pruned.mk (h := ?_)⟩)
        refine SW.seq ?_
        (have fx := (And.intro (op_load hx) (op_roomd hx)); refine SW.regL [0, 1, 2, 6, 7, 8, 9, 10, 11, 12, 13, 14, 15, 16, 18, 27, 48, 52, 122] mixed ?_; (repeat (first | refine RW.ro fx (h := ?_) | refine RW.skip (h := ?_) | refine RW.op fx (h := ?_) | refine RW.opN fx (h := ?_) | refine RW.skip0 (h := ?_) | (refine RW.callC (h := ?_); (first | refine CallP.mk fx (hc := ht.getNo hg _) (h := ?_) | refine CallP.mk fx (hc := hu.getNo9 hg' _) (h := ?_) | refine CallP.mk fx (hc := ch _) (h := ?_) | refine CallP.mk fx (hc := ch9 _) (h := ?_) | refine CallP.mk fx (hc := same_nils _) (h := ?_))))); refine RW.nil ⟨by kernel_rfl, Pruned.mk (h := ?_)⟩)
        refine SW.seq ?_
        (have fx := (And.intro (op_load hx) (op_roomd hx)); refine SW.regL [0, 1, 2, 6, 7, 8, 9, 10, 11, 12, 13, 14, 15, 16, 18, 27, 48, 52, 122] mixed ?_; (repeat (first | refine RW.ro fx (h := ?_) | refine RW.skip (h := ?_) | refine RW.op fx (h := ?_) | refine RW.opN fx (h := ?_) | refine RW.skip0 (h := ?_) | (refine RW.callC (h := ?_); (first | refine CallP.mk fx (hc := ht.getNo hg _) (h := ?_) | refine CallP.mk fx (hc := hu.getNo9 hg' _) (h := ?_) | refine CallP.mk fx (hc := ch _) (h := ?_) | refine CallP.mk fx (hc := ch9 _) (h := ?_) | refine CallP.mk fx (hc := same_nils _) (h := ?_))))); refine RW.nil ⟨by kernel_rfl, Pruned.mk (h := ?_)⟩)
        refine SW.seq ?_
        (have fx := (And.intro (op_load hx) (op_roomd hx)); refine SW.regL [0, 1, 2, 6, 7, 8, 9, 10, 11, 12, 13, 14, 15, 16, 18, 27, 48, 52, 122] mixed ?_; (repeat (first | refine RW.ro fx (h := ?_) | refine RW.skip (h := ?_) | refine RW.op fx (h := ?_) | refine RW.opN fx (h := ?_) | refine RW.skip0 (h := ?_) | (refine RW.callC (h := ?_); (first | refine CallP.mk fx (hc := ht.getNo hg _) (h := ?_) | refine CallP.mk fx (hc := hu.getNo9 hg' _) (h := ?_) | refine CallP.mk fx (hc := ch _) (h := ?_) | refine CallP.mk fx (hc := ch9 _) (h := ?_) | refine CallP.mk fx (hc := same_nils _) (h := ?_))))); refine RW.nil ⟨by kernel_rfl, Pruned.mk (h := ?_)⟩)
        refine SW.seq ?_
        (have fx := (And.intro (f1) (And.intro (f2) (e8))); refine SW.regL [0, 1, 2, 6, 7, 8, 9, 10, 11, 12, 13, 14, 15, 16, 18, 27, 48, 52, 122] mixed ?_; (repeat (first | refine RW.ro fx (h := ?_) | refine RW.skip (h := ?_) | refine RW.op fx (h := ?_) | refine RW.opN fx (h := ?_) | refine RW.skip0 (h := ?_) | (refine RW.callC (h := ?_); (first | refine CallP.mk fx (hc := ht.getNo hg _) (h := ?_) | refine CallP.mk fx (hc := hu.getNo9 hg' _) (h := ?_) | refine CallP.mk fx (hc := ch _) (h := ?_) | refine CallP.mk fx (hc := ch9 _) (h := ?_) | refine CallP.mk fx (hc := same_nils _) (h := ?_))))); refine RW.nil ⟨by kernel_rfl, Pruned.mk (h := ?_)⟩)
        refine SW.condF rfl (SW.skip ?_)
        (refine SW.regL [0, 1, 2, 6, 7, 8, 9, 10, 11, 12, 13, 14, 15, 16, 18, 27, 48, 52, 122] mixed ?_; (repeat (first | refine RW.ro (e2) (h := ?_) | refine RW.skip (h := ?_) | refine RW.op (e2) (h := ?_) | refine RW.opN (e2) (h := ?_) | refine RW.skip0 (h := ?_))); refine RW.nil ⟨by kernel_rfl, Pruned.mk (h := ?_)⟩)
        dsimp only
        exact ⟨⟨i + 1, by omega⟩, id, by show (osort l).length - (i + 1) < _; omega, Weak.mk (And.intro (mapsF a m) (mapsF b w))⟩
      | some c =>
        rw [chainYes hg'] at ch9
        refine SW.seq ?_
        (have fx := (And.intro (op_load hx) (op_roomd hx)); refine SW.regL [0, 1, 2, 6, 7, 8, 9, 10, 11, 12, 13, 14, 15, 16, 18, 27, 48, 52, 122] mixed ?_; (repeat (first | refine RW.ro fx (h := ?_) | refine RW.skip (h := ?_) | refine RW.op fx (h := ?_) | refine RW.opN fx (h := ?_) | refine RW.skip0 (h := ?_) | (refine RW.callC (h := ?_); (first | refine CallP.mk fx (hc := ht.getNo hg _) (h := ?_) | refine CallP.mk fx (hc := hu.getYes9 hg' _) (h := ?_) | refine CallP.mk fx (hc := ch _) (h := ?_) | refine CallP.mk fx (hc := ch9 _) (h := ?_) | refine CallP.mk fx (hc := same_nils _) (h := ?_))))); refine RW.nil ⟨by kernel_rfl, Pruned.mk (h := ?_)⟩)
        refine SW.seq ?_
        (have fx := (And.intro (op_load hx) (op_roomd hx)); refine SW.regL [0, 1, 2, 6, 7, 8, 9, 10, 11, 12, 13, 14, 15, 16, 18, 27, 48, 52, 122] mixed ?_; (repeat (first | refine RW.ro fx (h := ?_) | refine RW.skip (h := ?_) | refine RW.op fx (h := ?_) | refine RW.opN fx (h := ?_) | refine RW.skip0 (h := ?_) | (refine RW.callC (h := ?_); (first | refine CallP.mk fx (hc := ht.getNo hg _) (h := ?_) | refine CallP.mk fx (hc := hu.getYes9 hg' _) (h := ?_) | refine CallP.mk fx (hc := ch _) (h := ?_) | refine CallP.mk fx (hc := ch9 _) (h := ?_) | refine CallP.mk fx (hc := same_nils _) (h := ?_))))); refine RW.nil ⟨by kernel_rfl, Pruned.mk (h := ?_)⟩)
        refine SW.seq ?_
        (have fx := (And.intro (op_load hx) (op_roomd hx)); refine SW.regL [0, 1, 2, 6, 7, 8, 9, 10, 11, 12, 13, 14, 15, 16, 18, 27, 48, 52, 122] mixed ?_; (repeat (first | refine RW.ro fx (h := ?_) | refine RW.skip (h := ?_) | refine RW.op fx (h := ?_) | refine RW.opN fx (h := ?_) | refine RW.skip0 (h := ?_) | (refine RW.callC (h := ?_); (first | refine CallP.mk fx (hc := ht.getNo hg _) (h := ?_) | refine CallP.mk fx (hc := hu.getYes9 hg' _) (h := ?_) | refine CallP.mk fx (hc := ch _) (h := ?_) | refine CallP.mk fx (hc := ch9 _) (h := ?_) | refine CallP.mk fx (hc := same_nils _) (h := ?_))))); refine RW.nil ⟨by kernel_rfl, Pruned.mk (h := ?_)⟩)
        refine SW.seq ?_
        (have fx := (And.intro (op_load hx) (op_roomd hx)); refine SW.regL [0, 1, 2, 6, 7, 8, 9, 10, 11, 12, 13, 14, 15, 16, 18, 27, 48, 52, 122] mixed ?_; (repeat (first | refine RW.ro fx (h := ?_) | refine RW.skip (h := ?_) | refine RW.op fx (h := ?_) | refine RW.opN fx (h := ?_) | refine RW.skip0 (h := ?_) | (refine RW.callC (h := ?_); (first | refine CallP.mk fx (hc := ht.getNo hg _) (h := ?_) | refine CallP.mk fx (hc := hu.getYes9 hg' _) (h := ?_) | refine CallP.mk fx (hc := ch _) (h := ?_) | refine CallP.mk fx (hc := ch9 _) (h := ?_) | refine CallP.mk fx (hc := same_nils _) (h := ?_))))); refine RW.nil ⟨by kernel_rfl, Pruned.mk (h := ?_)⟩)
        refine SW.seq ?_
        (have fx := (And.intro (f1) (And.intro (f2) (e8))); refine SW.regL [0, 1, 2, 6, 7, 8, 9, 10, 11, 12, 13, 14, 15, 16, 18, 27, 48, 52, 122] mixed ?_; (repeat (first | refine RW.ro fx (h := ?_) | refine RW.skip (h := ?_) | refine RW.op fx (h := ?_) | refine RW.opN fx (h := ?_) | refine RW.skip0 (h := ?_) | (refine RW.callC (h := ?_); (first | refine CallP.mk fx (hc := ht.getNo hg _) (h := ?_) | refine CallP.mk fx (hc := hu.getYes9 hg' _) (h := ?_) | refine CallP.mk fx (hc := ch _) (h := ?_) | refine CallP.mk fx (hc := ch9 _) (h := ?_) | refine CallP.mk fx (hc := same_nils _) (h := ?_))))); refine RW.nil ⟨by kernel_rfl, Pruned.mk (h := ?_)⟩)
        refine SW.condF rfl (SW.skip ?_)
        (refine SW.regL [0, 1, 2, 6, 7, 8, 9, 10, 11, 12, 13, 14, 15, 16, 18, 27, 48, 52, 122] mixed ?_; (repeat (first | refine RW.ro (e2) (h := ?_) | refine RW.skip (h := ?_) | refine RW.op (e2) (h := ?_) | refine RW.opN (e2) (h := ?_) | refine RW.skip0 (h := ?_))); refine RW.nil ⟨by kernel_rfl, Pruned.mk (h := ?_)⟩)
        dsimp only
        exact ⟨⟨i + 1, by omega⟩, id, by show (osort l).length - (i + 1) < _; omega, Weak.mk (And.intro (mapsF a m) (mapsF b w))⟩
  · have h1 : decide ((i : Int) < (osort l).length) = false := by simp; omega
    (repeat (first | refine SW.seq ?_ | refine SW.block ?_ | (refine SW.regL [0, 1, 2, 6, 7, 8, 9, 10, 11, 12, 13, 14, 15, 16, 18, 27, 48, 52, 122] mixed ?_; (repeat (first | refine RW.ro (h1) (h := ?_) | refine RW.skip (h := ?_) | refine RW.op (h1) (h := ?_) | refine RW.opN (h1) (h := ?_) | refine RW.skip0 (h := ?_) | (refine RW.callC (h := ?_); (first | refine CallP.mk (h1) (hc := head16_at _) (h := ?_))))); refine RW.nil ⟨by kernel_rfl, Pruned.mk (h := ?_)⟩) | refine SW.skip ?_ | refine SW.exit ?_ | refine SW.ret ?_ | refine SW.condT rfl ?_ | refine SW.condF rfl ?_))
    exact End.mk [] (h4 := rfl)
end Go.Proofs.Ytacdkgkpoelhdaa
