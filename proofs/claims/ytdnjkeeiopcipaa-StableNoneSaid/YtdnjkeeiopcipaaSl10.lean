/-
  The machine does what 'sop' says: fourth part: new rows, slices of slices, append.
-/
import Derived.Test.YtdnjkeeiopcipaaSl9
set_option linter.unusedSimpArgs false
set_option linter.unusedSectionVars false
set_option linter.unusedVariables false
namespace Go.Sl
open Go.RowKit

section
variable {P : Program} {o : Oper} {E : Nat → Option SV} {H : Nat → Option Ob} {k : Nat} {own : Bool} {e : Eff}

theorem Rps.mk {p : Nat → Prop} {μ : Nat → Nm} {M : Mem} : ∀ {cs : List SV} {vs : List Value}, vs.length = cs.length → (∀ (i : Nat) (c : SV), cs[i]? = some c → ∃ u, vs[i]? = some u ∧ Rp p μ M c u) → Rps p μ M cs vs
  | [], vs, hl, _ => by
    simp at hl
    exact Rps.nil_iff.2 hl
  | c :: cs, [], hl, _ => by simp at hl
  | c :: cs, v :: vs, hl, h => by
    obtain ⟨u, hu, hr⟩ := h 0 c rfl
    simp at hu
    subst hu
    exact Rps.cons_iff.2 ⟨_, _, rfl, hr, Rps.mk (by simpa using hl) fun i c' hi => by simpa using h (i + 1) c' (by simpa using hi)⟩

theorem flat_rep {α : Type} (z : List α) : ∀ (n i : Nat), i < n * z.length → ((List.replicate n z).flatten)[i]? = z[i % z.length]?
  | 0, i, h => by simp at h
  | n + 1, i, h => by
    rw [List.replicate_succ, List.flatten_cons, List.getElem?_append]
    split
    · rename_i hlt
      rw [Nat.mod_eq_of_lt hlt]
    · rename_i hge
      have hpos : 0 < z.length := by
        rcases Nat.eq_zero_or_pos z.length with h0 | h0
        · rw [h0] at h; simp at h
        · exact h0
      rw [Nat.add_mul, Nat.one_mul] at h
      rw [flat_rep z n (i - z.length) (by omega)]
      congr 1
      rw [Nat.mod_eq_sub_mod (a := i) (by omega)]

theorem flat_len {α : Type} (z : List α) (n : Nat) : ((List.replicate n z).flatten).length = n * z.length := by simp

theorem made_rep {p : Nat → Prop} {μ : Nat → Nm} {M : Mem} {z : List SV} {zs : Array Value} (hz : Rps p μ M z zs.toList) (n m : Nat) (hm : m = n * z.length) :
    Rps p μ M ((List.replicate n z).flatten) ((Array.range m).map (zs[· % zs.size]!)).toList := by
  subst hm
  have hl := hz.length
  simp only [Array.length_toList] at hl
  refine Rps.mk (by simp) fun i c hi => ?_
  have hlt : i < n * z.length := by
    have := (List.getElem?_eq_some_iff.1 hi).1
    simpa using this
  rw [flat_rep z n i hlt] at hi
  obtain ⟨u, hu, hr⟩ := hz.get hi
  refine ⟨u, ?_, hr⟩
  have hpos : 0 < zs.size := by
    rcases Nat.eq_zero_or_pos z.length with h0 | h0
    · rw [h0] at hlt; simp at hlt
    · omega
  have hu' : zs[i % zs.size]? = some u := by rw [hl]; simpa using hu
  have hlt' : i % zs.size < zs.size := Nat.mod_lt _ hpos
  rw [Array.getElem?_eq_getElem hlt'] at hu'
  injection hu' with hu'
  simp [hlt, getElem!_pos zs (i % zs.size) hlt', hu']

theorem made_rep' {p : Nat → Prop} {μ : Nat → Nm} {M : Mem} {t : TypeId} {z : List SV} (hz : zCells P t = some z) (n m : Nat) (hm : m = n * z.length) : ∃ zs : Array Value,
    (m = 0 → zs = #[]) ∧ (m ≠ 0 → ∃ v, (∀ w : World, (zeroValue t).run P w = .ok v w) ∧ v.cells = zs) ∧ Rps p μ M ((List.replicate n z).flatten) ((Array.range m).map (zs[· % zs.size]!)).toList := by
  by_cases h0 : m = 0
  · subst h0
    refine ⟨#[], fun _ => rfl, fun h => absurd rfl h, ?_⟩
    have : (List.replicate n z).flatten = [] := List.eq_nil_of_length_eq_zero (by simp; omega)
    rw [this]
    exact Rps.nil_iff.2 (by simp)
  · obtain ⟨v, hv, hr, _⟩ := zCells_rep hz (p := p) (μ := μ) (M := M)
    exact ⟨v.cells, fun h => absurd h h0, fun _ => ⟨v, hv, rfl⟩, made_rep hr n m hm⟩

/-- An operation that makes memory that nobody will write. -/
theorem OT.makeMem {v : SV} (h : ∀ (p : Nat → Prop) (μ : Nat → Nm) (M : Mem) (a : Act) (w : World), Known E o.op.operands p μ M a → (∀ b o v, M b o = some v → w.cell? ⟨b, o, none⟩ = some v) →
    ∃ u vs t, (execOp a.eval o).run P w = .ok (.value u) (w.alloc (.cells vs t)) ∧ ∀ M' : Mem, Mem.le M M' → (∀ i, M' w.heap.size i = vs[i]?) → Rp p μ M' v u) : OT P o E [] (fun n => k ≤ n ∧ n < k + 0) v [] := by
  intro rd p μ M a w K Q hnew hkn hS hK
  obtain ⟨u, vs, t, hr, hu⟩ := h p μ M a w hkn hS.mem
  have hno := mem_lt hS.mem (Nat.le_refl _)
  let M' : Mem := fun b i => if b = w.heap.size then vs[i]? else M b i
  have hle : Mem.le M M' := fun b i x hx => by
    have : b ≠ w.heap.size := fun e => by rw [e, hno] at hx; cases hx
    simp [M', this, hx]
  refine wp_value hr (hK u μ M' _ ((hu M' hle fun i => by simp [M']).more (fun n h => .inl h) (fun _ _ => rfl) (Mem.le_refl _)) ⟨fun b i x hx => ?_, fun n ob hn => by simp [lk_nil] at hn, fun n m hn => by simp [lk_nil] at hn⟩
    ⟨fun _ _ => rfl, hle, fun b hb _ => ⟨heap_old w _ hb, fun i => by simp [M', Nat.ne_of_lt hb]⟩, by simp, fun n hn => by simp [lk_nil] at hn, rfl, ⟨rfl, Nat.le_refl _⟩, rfl⟩)
  by_cases hb : b = w.heap.size
  · subst hb
    simp [M'] at hx
    rw [cell_of (heap_new w _), hx]
  · simp [M', hb] at hx
    exact mem_alloc _ hS.mem b i x hx

theorem datas_map : ∀ {cs : List SV} {ds : List DV}, datas cs = some ds → cs = ds.map .d
  | [], ds, h => by simp [datas] at h; subst h; rfl
  | .d x :: r, ds, h => by
    simp only [datas] at h
    split at h
    · rename_i xs hxs
      simp at h; subst h
      simp [datas_map hxs]
    · cases h
  | .ptr _ _ :: _, _, h | .gs _ _ :: _, _, h | .vp _ _ :: _, _, h | .mp _ :: _, _, h | .bs _ _ _ :: _, _, h | .it _ :: _, _, h | .yl _ :: _, _, h | .fn _ _ _ :: _, _, h | .agg _ :: _, _, h | .tup _ :: _, _, h | .any :: _, _, h => by simp [datas] at h

theorem RepR_of {p : Nat → Prop} {μ : Nat → Nm} {M M' : Mem} {b : Nat} (hle : Mem.le M M') {vs : Array Value} (hM : ∀ i, M' b i = vs[i]?) {ds : List DV} (h : Rps p μ M (ds.map .d) vs.toList) : RepR M' b 0 ds := by
  refine RepR.mk fun i c hi => ?_
  obtain ⟨u, hu, hr⟩ := h.get (i := i) (c := .d c) (by simp [hi])
  exact ⟨u, by rw [Nat.zero_add, hM]; simpa using hu, (Rp.d_iff.1 hr).mono hle⟩

theorem Rp.gs_mk {p : Nat → Prop} {μ : Nat → Nm} {M : Mem} {n len : Nat} (hp : p n) (hl : (μ n).live = true) : Rp p μ M (.gs n len) (.slice (some ⟨(μ n).blk, 0, none⟩) len (μ n).cap) := fun μ' h => by
  simp [Rep, h n hp, hl]

theorem bldS_length : ∀ {ps : List (Nat × Nat × SV)} {cells cs : List SV} {ob : Prop}, bldS cells ps = some (cs, ob) → ob → cs.length = cells.length
  | [], cells, cs, ob, h, _ => by simp [bldS] at h; rw [← h.1]
  | (off, n, s) :: ps, cells, cs, ob, h, hob => by
    simp only [bldS] at h
    split at h <;> first | (cases h; done) | skip
    split at h <;> first | (cases h; done) | skip
    rename_i cs' ob' hb
    injection h with h
    injection h with h h'
    subst h; subst h'
    have := bldS_length hb hob.2.2
    rw [this, spl_eq (by have := hob.1; have := hob.2.1; omega)]
    simp
    have := hob.1; have := hob.2.1; omega

theorem s_bsl {t el : TypeId} {len : Nat} {parts : Array (Nat × Operand)} {ti : TypeInfo} {z : List SV} {qs : List (Nat × Nat × X)} (ho : o.op = .buildSlice t len parts) (ht : P.underlying t = some (.slice el)) (hi : P.info? el = some ti) (hz : zCells P el = some z)
    (hsz : (len * ti.size ≤ 16777216 ∧ len ≤ 16777216) ∧ z.length = ti.size) (hq : cParts (fun i => some (i * ti.size, ti.size)) parts.toList = some qs)
    (he : sop E H k own (.bsl el ti.size len ((List.replicate len z).flatten) qs) = some e) (hob : e.ob) : Sound P o E H k e := by
  simp only [sop] at he
  split at he <;> first | (cases he; done) | skip
  rename_i ps hps
  split at he <;> first | (cases he; done) | skip
  rename_i cs ob hb
  split at he <;> first | (cases he; done) | skip
  rename_i hone
  have hcl : ob → cs.length = len * ti.size := fun h => by rw [bldS_length hb h]; simp [hsz.2]
  have run : ∀ (p : Nat → Prop) (μ : Nat → Nm) (M : Mem) (a : Act) (w : World), ob → Known E o.op.operands p μ M a → ∃ vs : Array Value, (execOp a.eval o).run P w = .ok (.value (.slice (some ⟨w.heap.size, 0, none⟩) len len)) (w.alloc (.cells vs el)) ∧ Rps p μ M cs vs.toList := by
    intro p μ M a w hob hk
    obtain ⟨zs, hz0, hz1, hr⟩ := made_rep' (P := P) (p := p) (μ := μ) (M := M) hz len (len * ti.size) (by rw [hsz.2])
    obtain ⟨vs', r1, r2⟩ := fill_rep _ hk parts.toList qs ps _ cs ob _ hq hps hb hob (fun x hx => by
      rw [ho]; simp only [Op.operands, List.mem_toArray, List.mem_map]; exact ⟨x, by simpa using hx, rfl⟩) hr
    refine ⟨vs', ?_, r2⟩
    have hfill : Instr.fill (fun i => some (i * ti.size, ti.size)) ((Array.range (len * ti.size)).map (zs[· % zs.size]!)) (parts.map fun (i, x) => (i, a.eval x)).toList = some vs' := by simpa using r1
    have hgt : ¬ (len * ti.size > 2 ^ 24) := by have := hsz.1.1; omega
    by_cases h0 : len * ti.size = 0
    · rw [hz0 h0] at hfill
      simp only [execOp, ho, Instr.buildSlice, Sem.run_bind, run_underlying ht, Result.andThen_ok, run_size hi, hgt, if_false, if_pos h0, Sem.run_pure, hfill, newRow, run_newObj, World.alloc_eq]
    · obtain ⟨v, hv, rfl⟩ := hz1 h0
      simp only [execOp, ho, Instr.buildSlice, Sem.run_bind, run_underlying ht, Result.andThen_ok, run_size hi, hgt, if_false, if_neg h0, hv w, Sem.run_pure, hfill, newRow, run_newObj, World.alloc_eq]
  have arr : ob → Sound P o E H k ⟨.gs k len, [], [(k, .arr el ti.size len cs)], 1, ob⟩ := by
    intro hob
    refine ⟨OT.make fun p μ M a w hk hM => ?_, sub_nil⟩
    obtain ⟨vs, hr, hc⟩ := run p μ M a w hob hk
    have hvl := hc.length
    simp only [Array.length_toList] at hvl
    refine ⟨_, _, len, hr, fun p' μ' hp hμ hpk hk' => ⟨.inr ⟨rfl, vs, heap_new w _, hcl hob, Nat.le_refl _, ?_, ?_, ?_⟩, ?_⟩⟩
    · show len ≤ maxLen
      have := hsz.1.2; unfold maxLen; omega
    · show vs.size = len * ti.size
      rw [hvl, hcl hob]
    · rw [List.take_of_length_le (by rw [Array.length_toList, hvl, hcl hob]; exact Nat.le_refl _)]
      exact hc.more hp hμ (Mem.le_refl M)
    · have := Rp.gs_mk (μ := μ') (M := M) (n := k) (len := len) hpk (by rw [hk'])
      rwa [hk'] at this
  split at he
  · injection he with he
    subst he
    exact arr hob
  · rename_i hno
    split at he
    · rename_i ds hds
      injection he with he
      subst he
      refine ⟨OT.makeMem fun p μ M a w hk hM => ?_, sub_nil⟩
      obtain ⟨vs, hr, hc⟩ := run p μ M a w hob hk
      rw [datas_map hds] at hc
      refine ⟨_, vs, el, hr, fun M' hle hM' => Rp.d_iff.2 ?_⟩
      simp only [RepD]
      refine ⟨_, len, rfl, Nat.le_refl _, fun h0 => ?_, fun hpos => ⟨w.heap.size, 0, rfl, RepR_of hle hM' hc⟩⟩
      simp [h0] at hno
    · injection he with he
      subst he
      exact arr hob

theorem s_mks {t el : TypeId} {l c : Operand} {l' c' : X} {ti : TypeInfo} {z : List SV} (ho : o.op = .makeSlice t l c) (ht : P.underlying t = some (.slice el)) (hi : P.info? el = some ti) (hz : zCells P el = some z) (hsz : z.length = ti.size ∧ 0 < ti.size)
    (hl : cX l = some l') (hc : cX c = some c') (he : sop E H k own (.mks el ti.size ti.bytes z l' c') = some e) (hob : e.ob) : Sound P o E H k e := by
  simp only [sop] at he
  split at he <;> first | (cases he; done) | skip
  rename_i kl lv kc cv h1 h2
  injection he with he
  subst he
  obtain ⟨b1, b2, b3, b4⟩ := hob
  refine ⟨OT.make fun p μ M a w hk hM => ?_, sub_nil⟩
  have e1 := Rp.int_iff.1 (hk.get (by simp [ho, Op.operands]) hl h1)
  have e2 := Rp.int_iff.1 (hk.get (by simp [ho, Op.operands]) hc h2)
  obtain ⟨v, hv, hr, _⟩ := zCells_rep hz (p := p) (μ := μ) (M := M)
  have hzv : ti.zero = some v := by
    have hz' := hz
    unfold zCells at hz'
    rw [hi] at hz'
    cases hzz : ti.zero with
    | none => simp [hzz] at hz'
    | some v' =>
      have := hv w
      rw [run_zero hi hzz] at this
      injection this with this
      rw [this]
  have hm := made_rep hr cv.toNat (cv.toNat * ti.size) (by rw [hsz.1])
  have hrun := run_make (P := P) w t el ti v ht hi hzv kl kc lv cv b1 b2 b4 b3
  have hex : (execOp a.eval o).run P w = .ok (.value (.slice (some ⟨w.heap.size, 0, none⟩) lv.toNat cv.toNat)) (w.alloc (.cells (madeCells v.cells (cv.toNat * ti.size)) el)) := by
    simp only [execOp, ho, e1, e2, Sem.run_bind, hrun, Result.andThen_ok, Sem.run_pure]
  have hle1 : lv.toNat ≤ cv.toNat := by omega
  have hle2 : cv.toNat ≤ maxLen := by unfold maxLen; omega
  refine ⟨_, _, cv.toNat, hex, fun p' μ' hp hμ hpk hk' => ⟨.inr ⟨rfl, _, heap_new w _, by simp [hsz.1], hle1, hle2, ?_, ?_⟩, ?_⟩⟩
  · rw [size_madeCells]
  · have hle : lv.toNat * ti.size ≤ cv.toNat * ti.size := Nat.mul_le_mul_right _ (by omega)
    have h1 := (hm.more hp hμ (Mem.le_refl M)).take (lv.toNat * ti.size)
    have h2 : ((List.replicate cv.toNat z).flatten).take (lv.toNat * ti.size) = (List.replicate lv.toNat z).flatten := by
      apply List.ext_getElem?
      intro i
      rw [List.getElem?_take]
      split
      · rename_i hlt
        rw [flat_rep z _ _ (by rw [hsz.1]; omega), flat_rep z _ _ (by rw [hsz.1]; omega)]
      · rename_i hge
        rw [List.getElem?_eq_none (by simp [hsz.1]; omega)]
    rw [h2] at h1
    exact h1
  · have := Rp.gs_mk (μ := μ') (M := M) (n := k) (len := lv.toNat) hpk (by rw [hk'])
    rwa [hk'] at this
end
end Go.Sl
