/-
  The machine does what 'sop' says: third part: stores, literals, slices of slices.
-/
import Derived.Test.YtdnjkeeiopcipaaSl8
set_option linter.unusedSimpArgs false
set_option linter.unusedSectionVars false
set_option linter.unusedVariables false
namespace Go.Sl
open Go.RowKit

section
variable {P : Program} {o : Oper} {E : Nat → Option SV} {H : Nat → Option Ob} {k : Nat} {own : Bool} {e : Eff}

theorem splV_take (vs us : List Value) (o n : Nat) (h : o + us.length ≤ n) (hn : n ≤ vs.length) : (splV vs o us).take n = splV (vs.take n) o us := by
  have h0 : o ≤ vs.length := by omega
  unfold splV
  apply List.ext_getElem?
  intro i
  simp only [List.getElem?_take, List.getElem?_append, List.length_append, List.length_take, List.getElem?_drop, Nat.min_eq_left h0, Nat.min_eq_left (show o ≤ min n vs.length by omega)]
  by_cases h1 : i < n
  · simp only [h1, if_true]
    by_cases h2 : i < o
    · simp [h2, show i < o + us.length by omega]
    · by_cases h3 : i < o + us.length
      · simp [h2, h3]
      · simp [h3, show o + us.length + (i - (o + us.length)) < n by omega]
  · simp only [h1, if_false]
    simp [show ¬ i < o + us.length by omega, show ¬ o + us.length + (i - (o + us.length)) < n by omega]

theorem run_storeVar {w : World} {t ty : TypeId} {i : TypeInfo} {b off : Nat} {vs : Array Value} {v : Value} (hi : P.info? t = some i) (hb : w.heap[b]? = some (.cells vs ty (0, 0))) (hs : v.cells.size = i.size)
    (h1 : ∀ u ∈ v.cells.toList, u.oneCell' = true) (hl : off + i.size ≤ vs.size) :
    ∃ w', (storeVar t ⟨b, off, none⟩ v).run P w = .ok () w' ∧ w'.heap[b]? = some (.cells (splV vs.toList off v.cells.toList).toArray ty (0, 0)) ∧ (∀ c, c ≠ b → w'.heap[c]? = w.heap[c]?) ∧
      w'.heap.size = w.heap.size ∧ w'.os = w.os ∧ Tape w w' ∧ w'.output = w.output := by
  obtain ⟨w', hr, h2, h3⟩ := run_storeCells (P := P) v.cells.toList vs w off 0 hb (by simp [hs]; omega) h1
  refine ⟨w', ?_, by simpa using h2, h3⟩
  simp [storeVar, run_size hi, hs, hr]

theorem s_store {t : TypeId} {x v : Operand} {x' v' : X} {i : TypeInfo} (ho : o.op = .store t x v) (hi : P.info? t = some i) (hx : cX x = some x') (hv : cX v = some v')
    (he : sop E H k own (.store i.size x' v') = some e) (hob : e.ob) : Sound P o E H k e := by
  simp only [sop] at he
  split at he <;> first | (cases he; done) | skip
  rename_i n off s h1 h2
  split at he <;> first | (cases he; done) | skip
  rename_i hone
  split at he <;> first | (cases he; done) | skip
  · rename_i ty cs hH
    injection he with he
    subst he
    obtain ⟨hob1, hob2⟩ := hob
    refine ⟨OT.write fun p μ M a w hk hp hob => ?_, sub_one hH⟩
    obtain ⟨h0, vs, hb, hr⟩ := hob
    have e1 := (hk.get (by simp [ho, Op.operands]) hx h1).ptr_of
    obtain ⟨c1, c2⟩ := Rp.cells hone (hk.get (by simp [ho, Op.operands]) hv h2)
    have hvs : vs.size = cs.length := by simpa using hr.length
    have hsz : (a.eval v).cells.size = i.size := by have := c1.length; simp at this; omega
    obtain ⟨w', hr', q1, q2, q3, q4, q5, q6⟩ := run_storeVar (P := P) (v := a.eval v) hi hb hsz c2 (off := off) (by omega)
    refine ⟨undef, w', .inr ⟨?_, rfl⟩, Rp.any, ⟨h0, _, q1, ?_⟩, fun b hb => q2 b (hb h0), q3, q4, q5, q6⟩
    · simp [execOp, ho, Instr.storeAt, e1, Instr.sureAddr, hr']
    · simpa using Rps.spl hr c1 (by omega)
  · rename_i el z l cs hH
    injection he with he
    subst he
    obtain ⟨hob1, hob2, hob3⟩ := hob
    refine ⟨OT.write fun p μ M a w hk hp hob => ?_, sub_one hH⟩
    rcases hob with ⟨_, _, rfl⟩ | hob
    · simp at hob2; omega
    obtain ⟨h0, vs, hb, hl1, hl2, hl3, hl4, hr⟩ := hob
    have e1 := (hk.get (by simp [ho, Op.operands]) hx h1).ptr_of
    obtain ⟨c1, c2⟩ := Rp.cells hone (hk.get (by simp [ho, Op.operands]) hv h2)
    have hle : l * z ≤ vs.size := by rw [hl4]; exact Nat.mul_le_mul_right z hl2
    have hsz : (a.eval v).cells.size = i.size := by have := c1.length; simp at this; omega
    obtain ⟨w', hr', q1, q2, q3, q4, q5, q6⟩ := run_storeVar (P := P) (v := a.eval v) hi hb hsz c2 (off := off) (by omega)
    refine ⟨undef, w', .inr ⟨?_, rfl⟩, Rp.any, .inr ⟨h0, _, q1, ?_, hl2, hl3, ?_, ?_⟩, fun b hb => q2 b (hb h0), q3, q4, q5, q6⟩
    · simp [execOp, ho, Instr.storeAt, e1, Instr.sureAddr, hr']
    · rw [spl_eq (by omega)]
      simp
      omega
    · simp [splV]
      omega
    · have hcl : (a.eval v).cells.toList.length = i.size := by simpa using hsz
      have := Rps.spl (o := off) hr c1 (by omega)
      rw [← splV_take _ _ _ _ (by omega) (by simpa using hle)] at this
      simpa using this

/-! ### literals -/
theorem foldl_splV (us : List Value) : ∀ (j off : Nat) (vs : Array Value), off + j + us.length ≤ vs.size → ((us.zipIdx j).foldl (fun cs (x : Value × Nat) => cs.setIfInBounds (off + x.2) x.1) vs).toList = splV vs.toList (off + j) us := by
  induction us with
  | nil => intro j off vs _; simp [splV]
  | cons u us ih =>
    intro j off vs h
    simp only [List.length_cons] at h
    simp only [List.zipIdx_cons, List.foldl_cons]
    rw [ih (j + 1) off _ (by simp; omega), Array.toList_setIfInBounds, show off + (j + 1) = off + j + 1 by omega]
    exact splV_step vs.toList (off + j) u us (by simp; omega)

theorem fill_rep (pl : Nat → Option (Nat × Nat)) {p : Nat → Prop} {μ : Nat → Nm} {M : Mem} {a : Act} {xs : Array Operand} (hk : Known E xs p μ M a) : ∀ (parts : List (Nat × Operand)) (qs : List (Nat × Nat × X)) (ps : List (Nat × Nat × SV)) (cells cs : List SV) (ob : Prop) (vs : Array Value),
    cParts pl parts = some qs → evp E qs = some ps → bldS cells ps = some (cs, ob) → ob → (∀ x ∈ parts, x.2 ∈ xs) → Rps p μ M cells vs.toList →
    ∃ vs' : Array Value, Instr.fill pl vs (parts.map fun (i, x) => (i, a.eval x)) = some vs' ∧ Rps p μ M cs vs'.toList
  | [], qs, ps, cells, cs, ob, vs, h1, h2, h3, hob, _, hr => by
    simp [cParts] at h1; subst h1
    simp [evp] at h2; subst h2
    simp [bldS] at h3; obtain ⟨rfl, _⟩ := h3
    exact ⟨vs, rfl, hr⟩
  | (i, x) :: parts, qs, ps, cells, cs, ob, vs, h1, h2, h3, hob, hin, hr => by
    simp only [cParts] at h1
    split at h1 <;> first | (cases h1; done) | skip
    rename_i off n y qs' hpl hy hqs
    injection h1 with h1; subst h1
    simp only [evp] at h2
    split at h2 <;> first | (cases h2; done) | skip
    rename_i s ss hs hss
    injection h2 with h2; subst h2
    simp only [bldS] at h3
    split at h3 <;> first | (cases h3; done) | skip
    rename_i hone
    split at h3 <;> first | (cases h3; done) | skip
    rename_i cs' ob' hb
    injection h3 with h3
    injection h3 with h3 h3'
    subst h3; subst h3'
    obtain ⟨hob1, hob2, hob3⟩ := hob
    obtain ⟨c1, c2⟩ := Rp.cells hone (hk.get (hin (i, x) (by simp)) hy hs)
    have hvl := hr.length
    have hcl := c1.length
    simp only [Array.length_toList] at hvl hcl
    have hsp := Rps.spl (o := off) hr c1 (by omega)
    have hf := foldl_splV (a.eval x).cells.toList 0 off vs (by simp; omega)
    simp only [Nat.add_zero] at hf
    rw [← hf] at hsp
    obtain ⟨vs', r1, r2⟩ := fill_rep pl hk parts qs' ss _ _ ob' _ hqs hss hb hob3 (fun y hy => hin y (by simp [hy])) hsp
    refine ⟨vs', ?_, r2⟩
    simp only [List.map_cons, Instr.fill, hpl]
    rw [if_neg (by simp; omega)]
    rw [← Array.foldl_toList, Array.toList_zipIdx]
    exact r1


theorem run_places {w : World} : ∀ (fs : List Field), (fs.all fun f => (P.info? f.type).isSome) = true →
    (fs.mapM (m := Sem) fun f => do pure (f.offset, ← sizeOf f.type)).run P w = .ok (fs.map fun f => (f.offset, P.cellsOf f.type)) w
  | [], _ => by simp
  | f :: fs, h => by
    simp only [List.all_cons, Bool.and_eq_true] at h
    obtain ⟨i, hi⟩ := Option.isSome_iff_exists.1 h.1
    have ih := run_places (w := w) fs h.2
    simp only [List.mapM_cons, Sem.run_bind, run_size hi, Result.andThen_ok, Sem.run_pure, ih, List.map_cons, Program.cellsOf, hi, Option.map_some, Option.getD_some]

theorem fill_congr {pl pl' : Nat → Option (Nat × Nat)} : ∀ (parts : List (Nat × Value)) (vs : Array Value), (∀ i, pl i = pl' i) → Instr.fill pl vs parts = Instr.fill pl' vs parts
  | parts, vs, h => by rw [show pl = pl' from funext h]

theorem s_bldS {t : TypeId} {parts : Array (Nat × Operand)} {fs : Array Field} {z : List SV} {qs : List (Nat × Nat × X)} (ho : o.op = .build t parts) (ht : P.underlying t = some (.struct fs)) (hz : zCells P t = some z)
    (hfs : fs.all (fun f => (P.info? f.type).isSome) = true) (hq : cParts (fieldPl P fs) parts.toList = some qs) (he : sop E H k own (.bld z qs) = some e) (hob : e.ob) : Sound P o E H k e := by
  simp only [sop] at he
  split at he <;> first | (cases he; done) | skip
  rename_i ps hps
  split at he <;> first | (cases he; done) | skip
  rename_i cs ob hb
  injection he with he
  subst he
  refine ⟨OT.pure fun p μ M a w hk hS => ?_, sub_nil⟩
  obtain ⟨v, hv, hr, _⟩ := zCells_rep hz (p := p) (μ := μ) (M := M)
  obtain ⟨vs', r1, r2⟩ := fill_rep (fieldPl P fs) hk parts.toList qs ps z cs ob v.cells hq hps hb hob (fun x hx => by
    rw [ho]; simp only [Op.operands, List.mem_toArray, List.mem_map]; exact ⟨x, by simpa using hx, rfl⟩) hr
  refine ⟨.agg vs', ?_, Rp.agg_iff.2 ⟨_, rfl, r2⟩⟩
  have hpl : (fs.mapM (m := Sem) fun f => do pure (f.offset, ← sizeOf f.type)).run P w = .ok (fs.map fun f => (f.offset, P.cellsOf f.type)) w := by
    rw [← Array.toArray_toList (xs := fs), List.mapM_toArray]
    rw [Sem.run_map, run_places fs.toList (by simpa using hfs)]
    simp only [Result.andThen_ok]
    congr 1
    apply Array.ext'
    simp
  have hpe : ∀ i, (fs.map fun f => (f.offset, P.cellsOf f.type))[i]? = fieldPl P fs i := by
    intro i
    unfold fieldPl
    rw [Array.getElem?_map]
    cases hi : fs[i]? with
    | none => rfl
    | some f =>
      have hf : (P.info? f.type).isSome = true := by
        have := Array.all_eq_true_iff_forall_mem.1 hfs f (Array.mem_of_getElem? hi)
        exact this
      obtain ⟨j, hj⟩ := Option.isSome_iff_exists.1 hf
      simp [hj, Program.cellsOf]
  have hfill : Instr.fill ((fs.map fun f => (f.offset, P.cellsOf f.type))[·]?) v.cells (parts.map fun (i, x) => (i, a.eval x)).toList = some vs' := by
    rw [fill_congr _ _ hpe]
    simpa using r1
  simp only [execOp, ho, Instr.build, Sem.run_bind, hv w, Result.andThen_ok, run_underlying ht, hpl, hfill, Sem.run_pure]

theorem s_bldA {t el : TypeId} {n : Nat} {parts : Array (Nat × Operand)} {ti : TypeInfo} {z : List SV} {qs : List (Nat × Nat × X)} (ho : o.op = .build t parts) (ht : P.underlying t = some (.array n el)) (hz : zCells P t = some z)
    (hi : P.info? el = some ti) (hq : cParts (fun i => some (i * ti.size, ti.size)) parts.toList = some qs) (he : sop E H k own (.bld z qs) = some e) (hob : e.ob) : Sound P o E H k e := by
  simp only [sop] at he
  split at he <;> first | (cases he; done) | skip
  rename_i ps hps
  split at he <;> first | (cases he; done) | skip
  rename_i cs ob hb
  injection he with he
  subst he
  refine ⟨OT.pure fun p μ M a w hk hS => ?_, sub_nil⟩
  obtain ⟨v, hv, hr, _⟩ := zCells_rep hz (p := p) (μ := μ) (M := M)
  obtain ⟨vs', r1, r2⟩ := fill_rep _ hk parts.toList qs ps z cs ob v.cells hq hps hb hob (fun x hx => by
    rw [ho]; simp only [Op.operands, List.mem_toArray, List.mem_map]; exact ⟨x, by simpa using hx, rfl⟩) hr
  refine ⟨.agg vs', ?_, Rp.agg_iff.2 ⟨_, rfl, r2⟩⟩
  have hfill : Instr.fill (fun i => some (i * ti.size, ti.size)) v.cells (parts.map fun (i, x) => (i, a.eval x)).toList = some vs' := by simpa using r1
  simp only [execOp, ho, Instr.build, Sem.run_bind, hv w, Result.andThen_ok, run_underlying ht, run_size hi, hfill, Sem.run_pure]
end
end Go.Sl
