/-
  The machine does what 'sop' says: fourth part: new rows, slices of slices, append.
-/
import Derived.Test.YtgjgfamgbhlmfaaU2
import Derived.Maps.AppendAt
import Derived.ArgAppend
set_option linter.unusedSimpArgs false
set_option linter.unusedSectionVars false
set_option linter.unusedVariables false
namespace Go.Sl
open Go.RowKit

section
variable {P : Program} {o : Oper} {E : Nat → Option SV} {H : Nat → Option Ob} {k : Nat} {own : Bool} {e : Eff}

theorem Rps.mk {p : Nat → Prop} {μ : Nat → Nm} {M : Mem} : ∀ {cs : List SV} {vs : List Value}, vs.length = cs.length → (∀ (i : Nat) (c : SV), cs[i]? = some c → ∃ u, vs[i]? = some u ∧ Rp p μ M c u) → Rps p μ M cs vs
  | [], vs, hl, _ => by
    simp at hl
    exact Rps.nil_iff.2 hl
  | c :: cs, [], hl, _ => by simp at hl
  | c :: cs, v :: vs, hl, h => by
    obtain ⟨u, hu, hr⟩ := h 0 c rfl
    simp at hu
    subst hu
    exact Rps.cons_iff.2 ⟨_, _, rfl, hr, Rps.mk (by simpa using hl) fun i c' hi => by simpa using h (i + 1) c' (by simpa using hi)⟩

theorem flat_rep {α : Type} (z : List α) : ∀ (n i : Nat), i < n * z.length → ((List.replicate n z).flatten)[i]? = z[i % z.length]?
  | 0, i, h => by simp at h
  | n + 1, i, h => by
    rw [List.replicate_succ, List.flatten_cons, List.getElem?_append]
    split
    · rename_i hlt
      rw [Nat.mod_eq_of_lt hlt]
    · rename_i hge
      have hpos : 0 < z.length := by
        rcases Nat.eq_zero_or_pos z.length with h0 | h0
        · rw [h0] at h; simp at h
        · exact h0
      rw [Nat.add_mul, Nat.one_mul] at h
      rw [flat_rep z n (i - z.length) (by omega)]
      congr 1
      rw [Nat.mod_eq_sub_mod (a := i) (by omega)]

theorem flat_len {α : Type} (z : List α) (n : Nat) : ((List.replicate n z).flatten).length = n * z.length := by simp

theorem made_rep {p : Nat → Prop} {μ : Nat → Nm} {M : Mem} {z : List SV} {zs : Array Value} (hz : Rps p μ M z zs.toList) (n m : Nat) (hm : m = n * z.length) :
    Rps p μ M ((List.replicate n z).flatten) ((Array.range m).map (zs[· % zs.size]!)).toList := by
  subst hm
  have hl := hz.length
  simp only [Array.length_toList] at hl
  refine Rps.mk (by simp) fun i c hi => ?_
  have hlt : i < n * z.length := by
    have := (List.getElem?_eq_some_iff.1 hi).1
    simpa using this
  rw [flat_rep z n i hlt] at hi
  obtain ⟨u, hu, hr⟩ := hz.get hi
  refine ⟨u, ?_, hr⟩
  have hpos : 0 < zs.size := by
    rcases Nat.eq_zero_or_pos z.length with h0 | h0
    · rw [h0] at hlt; simp at hlt
    · omega
  have hu' : zs[i % zs.size]? = some u := by rw [hl]; simpa using hu
  have hlt' : i % zs.size < zs.size := Nat.mod_lt _ hpos
  rw [Array.getElem?_eq_getElem hlt'] at hu'
  injection hu' with hu'
  simp [hlt, getElem!_pos zs (i % zs.size) hlt', hu']

theorem made_rep' {p : Nat → Prop} {μ : Nat → Nm} {M : Mem} {t : TypeId} {z : List SV} (hz : zCells P t = some z) (n m : Nat) (hm : m = n * z.length) : ∃ zs : Array Value,
    (m = 0 → zs = #[]) ∧ (m ≠ 0 → ∃ v, (∀ w : World, (zeroValue t).run P w = .ok v w) ∧ v.cells = zs) ∧ Rps p μ M ((List.replicate n z).flatten) ((Array.range m).map (zs[· % zs.size]!)).toList := by
  by_cases h0 : m = 0
  · subst h0
    refine ⟨#[], fun _ => rfl, fun h => absurd rfl h, ?_⟩
    have : (List.replicate n z).flatten = [] := List.eq_nil_of_length_eq_zero (by simp; omega)
    rw [this]
    exact Rps.nil_iff.2 (by simp)
  · obtain ⟨v, hv, hr, _⟩ := zCells_rep hz (p := p) (μ := μ) (M := M)
    exact ⟨v.cells, fun h => absurd h h0, fun _ => ⟨v, hv, rfl⟩, made_rep hr n m hm⟩

/-- An operation that makes memory that nobody will write. -/
theorem OT.makeMem {v : SV} (h : ∀ (p : Nat → Prop) (μ : Nat → Nm) (M : Mem) (a : Act) (w : World), Known E o.op.operands p μ M a → MemOk M w →
    ∃ u vs t, (execOp a.eval o).run P w = .ok (.value u) (w.alloc (.cells vs t)) ∧ ∀ M' : Mem, Mem.le M M' → (∀ i, M' w.heap.size i = vs[i]?) → Rp p μ M' v u) : OT P o E [] (fun n => k ≤ n ∧ n < k + 0) v [] := by
  intro rd p μ M a w K Q hnew hkn hS hK
  obtain ⟨u, vs, t, hr, hu⟩ := h p μ M a w hkn hS.mem
  have hno := mem_lt hS.mem (Nat.le_refl _)
  let M' : Mem := fun b i => if b = w.heap.size then vs[i]? else M b i
  have hle : Mem.le M M' := fun b i x hx => by
    have : b ≠ w.heap.size := fun e => by rw [e, hno] at hx; cases hx
    simp [M', this, hx]
  refine wp_value hr (hK u μ M' _ ((hu M' hle fun i => by simp [M']).more (fun n h => .inl h) (fun _ _ => rfl) (Mem.le_refl _)) ⟨⟨fun b i x hx => ?_, hS.mem.glob.le hle⟩, fun n ob hn => by simp [lk_nil] at hn, fun n m hn => by simp [lk_nil] at hn⟩
    ⟨fun _ _ => rfl, hle, fun b hb _ => ⟨heap_old w _ hb, fun i => by simp [M', Nat.ne_of_lt hb]⟩, by simp, fun n hn => by simp [lk_nil] at hn, rfl, ⟨rfl, Nat.le_refl _⟩, rfl⟩)
  by_cases hb : b = w.heap.size
  · subst hb
    simp [M'] at hx
    rw [cell_of (heap_new w _), hx]
  · simp [M', hb] at hx
    exact mem_alloc _ hS.mem b i x hx

theorem datas_map : ∀ {cs : List SV} {ds : List DV}, datas cs = some ds → cs = ds.map .d
  | [], ds, h => by simp [datas] at h; subst h; rfl
  | .d x :: r, ds, h => by
    simp only [datas] at h
    split at h
    · rename_i xs hxs
      simp at h; subst h
      simp [datas_map hxs]
    · cases h
  | .ptr _ _ :: _, _, h | .gs _ _ :: _, _, h | .vp _ _ :: _, _, h | .mp _ :: _, _, h | .bs _ _ _ :: _, _, h | .it _ :: _, _, h | .yl _ :: _, _, h | .fn _ _ _ :: _, _, h | .agg _ :: _, _, h | .tup _ :: _, _, h | .any :: _, _, h => by simp [datas] at h

theorem RepR_of {p : Nat → Prop} {μ : Nat → Nm} {M M' : Mem} {b : Nat} (hle : Mem.le M M') {vs : Array Value} (hM : ∀ i, M' b i = vs[i]?) {ds : List DV} (h : Rps p μ M (ds.map .d) vs.toList) : RepR M' b 0 ds := by
  refine RepR.mk fun i c hi => ?_
  obtain ⟨u, hu, hr⟩ := h.get (i := i) (c := .d c) (by simp [hi])
  exact ⟨u, by rw [Nat.zero_add, hM]; simpa using hu, (Rp.d_iff.1 hr).mono hle⟩

theorem Rp.gs_mk {p : Nat → Prop} {μ : Nat → Nm} {M : Mem} {n len : Nat} (hp : p n) (hl : (μ n).live = true) : Rp p μ M (.gs n len) (.slice (some ⟨(μ n).blk, 0, none⟩) len (μ n).cap) := fun μ' h => by
  simp [Rep, h n hp, hl]

theorem bldS_length : ∀ {ps : List (Nat × Nat × SV)} {cells cs : List SV} {ob : Prop}, bldS cells ps = some (cs, ob) → ob → cs.length = cells.length
  | [], cells, cs, ob, h, _ => by simp [bldS] at h; rw [← h.1]
  | (off, n, s) :: ps, cells, cs, ob, h, hob => by
    simp only [bldS] at h
    split at h <;> first | (cases h; done) | skip
    split at h <;> first | (cases h; done) | skip
    rename_i cs' ob' hb
    injection h with h
    injection h with h h'
    subst h; subst h'
    have := bldS_length hb hob.2.2
    rw [this, spl_eq (by have := hob.1; have := hob.2.1; omega)]
    simp
    have := hob.1; have := hob.2.1; omega

theorem s_bsl {t el : TypeId} {len : Nat} {parts : Array (Nat × Operand)} {ti : TypeInfo} {z : List SV} {qs : List (Nat × Nat × X)} (ho : o.op = .buildSlice t len parts) (ht : P.underlying t = some (.slice el)) (hi : P.info? el = some ti) (hz : zCells P el = some z)
    (hsz : (len * ti.size ≤ 16777216 ∧ len ≤ 16777216) ∧ z.length = ti.size) (hq : cParts (fun i => some (i * ti.size, ti.size)) parts.toList = some qs)
    (he : sop E H k own (.bsl el ti.size len ((List.replicate len z).flatten) qs) = some e) (hob : e.ob) : Sound P o E H k e := by
  simp only [sop] at he
  split at he <;> first | (cases he; done) | skip
  rename_i ps hps
  split at he <;> first | (cases he; done) | skip
  rename_i cs ob hb
  split at he <;> first | (cases he; done) | skip
  rename_i hone
  have hcl : ob → cs.length = len * ti.size := fun h => by rw [bldS_length hb h]; simp [hsz.2]
  have run : ∀ (p : Nat → Prop) (μ : Nat → Nm) (M : Mem) (a : Act) (w : World), ob → Known E o.op.operands p μ M a → ∃ vs : Array Value, (execOp a.eval o).run P w = .ok (.value (.slice (some ⟨w.heap.size, 0, none⟩) len len)) (w.alloc (.cells vs el)) ∧ Rps p μ M cs vs.toList := by
    intro p μ M a w hob hk
    obtain ⟨zs, hz0, hz1, hr⟩ := made_rep' (P := P) (p := p) (μ := μ) (M := M) hz len (len * ti.size) (by rw [hsz.2])
    obtain ⟨vs', r1, r2⟩ := fill_rep _ hk parts.toList qs ps _ cs ob _ hq hps hb hob (fun x hx => by
      rw [ho]; simp only [Op.operands, List.mem_toArray, List.mem_map]; exact ⟨x, by simpa using hx, rfl⟩) hr
    refine ⟨vs', ?_, r2⟩
    have hfill : Instr.fill (fun i => some (i * ti.size, ti.size)) ((Array.range (len * ti.size)).map (zs[· % zs.size]!)) (parts.map fun (i, x) => (i, a.eval x)).toList = some vs' := by simpa using r1
    have hgt : ¬ (len * ti.size > 2 ^ 24) := by have := hsz.1.1; omega
    by_cases h0 : len * ti.size = 0
    · rw [hz0 h0] at hfill
      simp only [execOp, ho, Instr.buildSlice, Sem.run_bind, run_underlying ht, Result.andThen_ok, run_size hi, hgt, if_false, if_pos h0, Sem.run_pure, hfill, newRow, run_newObj, World.alloc_eq]
    · obtain ⟨v, hv, rfl⟩ := hz1 h0
      simp only [execOp, ho, Instr.buildSlice, Sem.run_bind, run_underlying ht, Result.andThen_ok, run_size hi, hgt, if_false, if_neg h0, hv w, Sem.run_pure, hfill, newRow, run_newObj, World.alloc_eq]
  have arr : ob → Sound P o E H k ⟨.gs k len, [], [(k, .arr el ti.size len cs)], 1, ob⟩ := by
    intro hob
    refine ⟨OT.make fun p μ M a w hk hM => ?_, sub_nil⟩
    obtain ⟨vs, hr, hc⟩ := run p μ M a w hob hk
    have hvl := hc.length
    simp only [Array.length_toList] at hvl
    refine ⟨_, _, len, hr, fun p' μ' hp hμ hpk hk' => ⟨.inr ⟨rfl, vs, heap_new w _, hcl hob, Nat.le_refl _, ?_, ?_, ?_⟩, ?_⟩⟩
    · show len ≤ maxLen
      have := hsz.1.2; unfold maxLen; omega
    · show vs.size = len * ti.size
      rw [hvl, hcl hob]
    · rw [List.take_of_length_le (by rw [Array.length_toList, hvl, hcl hob]; exact Nat.le_refl _)]
      exact hc.more hp hμ (Mem.le_refl M)
    · have := Rp.gs_mk (μ := μ') (M := M) (n := k) (len := len) hpk (by rw [hk'])
      rwa [hk'] at this
  split at he
  · injection he with he
    subst he
    exact arr hob
  · rename_i hno
    split at he
    · rename_i ds hds
      injection he with he
      subst he
      refine ⟨OT.makeMem fun p μ M a w hk hM => ?_, sub_nil⟩
      obtain ⟨vs, hr, hc⟩ := run p μ M a w hob hk
      rw [datas_map hds] at hc
      refine ⟨_, vs, el, hr, fun M' hle hM' => Rp.d_iff.2 ?_⟩
      simp only [RepD]
      refine ⟨_, len, rfl, Nat.le_refl _, fun h0 => ?_, fun hpos => ⟨w.heap.size, 0, rfl, RepR_of hle hM' hc⟩⟩
      simp [h0] at hno
    · injection he with he
      subst he
      exact arr hob

theorem s_mks {t el : TypeId} {l c : Operand} {l' c' : X} {ti : TypeInfo} {z : List SV} (ho : o.op = .makeSlice t l c) (ht : P.underlying t = some (.slice el)) (hi : P.info? el = some ti) (hz : zCells P el = some z) (hsz : z.length = ti.size ∧ 0 < ti.size)
    (hl : cX l = some l') (hc : cX c = some c') (he : sop E H k own (.mks el ti.size ti.bytes z l' c') = some e) (hob : e.ob) : Sound P o E H k e := by
  simp only [sop] at he
  split at he <;> first | (cases he; done) | skip
  rename_i kl lv kc cv h1 h2
  injection he with he
  subst he
  obtain ⟨b1, b2, b3, b4⟩ := hob
  refine ⟨OT.make fun p μ M a w hk hM => ?_, sub_nil⟩
  have e1 := Rp.int_iff.1 (hk.get (by simp [ho, Op.operands]) hl h1)
  have e2 := Rp.int_iff.1 (hk.get (by simp [ho, Op.operands]) hc h2)
  obtain ⟨v, hv, hr, _⟩ := zCells_rep hz (p := p) (μ := μ) (M := M)
  have hzv : ti.zero = some v := by
    have hz' := hz
    unfold zCells at hz'
    rw [hi] at hz'
    cases hzz : ti.zero with
    | none => simp [hzz] at hz'
    | some v' =>
      have := hv w
      rw [run_zero hi hzz] at this
      injection this with this
      rw [this]
  have hm := made_rep hr cv.toNat (cv.toNat * ti.size) (by rw [hsz.1])
  have hrun := run_make (P := P) w t el ti v ht hi hzv kl kc lv cv b1 b2 b4 b3
  have hex : (execOp a.eval o).run P w = .ok (.value (.slice (some ⟨w.heap.size, 0, none⟩) lv.toNat cv.toNat)) (w.alloc (.cells (madeCells v.cells (cv.toNat * ti.size)) el)) := by
    simp only [execOp, ho, e1, e2, Sem.run_bind, hrun, Result.andThen_ok, Sem.run_pure]
  have hle1 : lv.toNat ≤ cv.toNat := by omega
  have hle2 : cv.toNat ≤ maxLen := by unfold maxLen; omega
  refine ⟨_, _, cv.toNat, hex, fun p' μ' hp hμ hpk hk' => ⟨.inr ⟨rfl, _, heap_new w _, by simp [hsz.1], hle1, hle2, ?_, ?_⟩, ?_⟩⟩
  · rw [size_madeCells]
  · have hle : lv.toNat * ti.size ≤ cv.toNat * ti.size := Nat.mul_le_mul_right _ (by omega)
    have h1 := (hm.more hp hμ (Mem.le_refl M)).take (lv.toNat * ti.size)
    have h2 : ((List.replicate cv.toNat z).flatten).take (lv.toNat * ti.size) = (List.replicate lv.toNat z).flatten := by
      apply List.ext_getElem?
      intro i
      rw [List.getElem?_take]
      split
      · rename_i hlt
        rw [flat_rep z _ _ (by rw [hsz.1]; omega), flat_rep z _ _ (by rw [hsz.1]; omega)]
      · rename_i hge
        rw [List.getElem?_eq_none (by simp [hsz.1]; omega)]
    rw [h2] at h1
    exact h1
  · have := Rp.gs_mk (μ := μ') (M := M) (n := k) (len := lv.toNat) hpk (by rw [hk'])
    rwa [hk'] at this
end
end Go.Sl

/-
  The machine does what 'sop' says: fifth part: slices of slices, append; all together.
-/
set_option linter.unusedSimpArgs false
set_option linter.unusedSectionVars false
set_option linter.unusedVariables false
namespace Go.Sl
open Go.RowKit

section
variable {P : Program} {o : Oper} {E : Nat → Option SV} {H : Nat → Option Ob} {k : Nat} {own : Bool} {e : Eff}

theorem run_bound {w : World} {kd : IntKind} {m : Int} {y : Nat} {code : BoundsCode} (h0 : 0 ≤ m) (h1 : m ≤ y) : (Instr.sliceBound (.int kd m) y code).run P w = .ok m.toNat w := by
  simp [Instr.sliceBound, asIntOf, h0, h1]
theorem run_slice {w : World} {t el : TypeId} {ti : TypeInfo} (ht : P.underlying t = some (.slice el)) (hi : P.info? el = some ti) (A : Option Addr) (n c : Nat) (lo hi' : Option Value) (l h : Nat) (hn : n ≤ c)
    (hlo : (lo = none ∧ l = 0) ∨ ∃ kd m, lo = some (.int kd m) ∧ 0 ≤ m ∧ m.toNat = l) (hhi : (hi' = none ∧ h = n) ∨ ∃ kd m, hi' = some (.int kd m) ∧ 0 ≤ m ∧ m.toNat = h) (hlh : l ≤ h) (hhc : h ≤ c) :
    (Instr.sliceAt t (.slice A n c) lo hi' none).run P w = .ok (.slice (if c = l then A else A.map (·.add (l * ti.size))) (h - l) (c - l)) w := by
  have hb : (Instr.sliceBounds true n c lo hi' none).run P w = .ok (l, h, c) w := by
    rcases hlo with ⟨rfl, rfl⟩ | ⟨kl, ml, rfl, hl0, rfl⟩ <;> rcases hhi with ⟨rfl, rfl⟩ | ⟨kh, mh, rfl, hh0, rfl⟩
    · simp [Instr.sliceBounds]
    · simp [Instr.sliceBounds, run_bound (P := P) (w := w) (kd := kh) (code := .sliceAcap) hh0 (show mh ≤ (c : Int) by omega)]
    · simp [Instr.sliceBounds, run_bound (P := P) (w := w) (kd := kl) (code := .sliceB) hl0 (show ml ≤ (h : Int) by omega)]
    · simp [Instr.sliceBounds, run_bound (P := P) (w := w) (kd := kh) (code := .sliceAcap) hh0 (show mh ≤ (c : Int) by omega), run_bound (P := P) (w := w) (kd := kl) (code := .sliceB) hl0 (show ml ≤ (mh.toNat : Int) by omega)]
  simp [Instr.sliceAt, run_underlying ht, Instr.slice, hb, run_size hi]

theorem maybe_eval {E : Nat → Option SV} {xs : Array Operand} {p : Nat → Prop} {μ : Nat → Nm} {M : Mem} {a : Act} (hk : Known E xs p μ M a) {lo : Option Operand} {lo' : Option X} {d l : Int} {kd dk : IntKind}
    (h : cMaybe lo = some lo') (he : (match lo' with | some l => ev E l | none => some (.d (.int dk d))) = some (.d (.int kd l))) (hin : ∀ x, lo = some x → x ∈ xs) :
    (lo.map a.eval = none ∧ l = d) ∨ ∃ kd m, lo.map a.eval = some (.int kd m) ∧ m = l := by
  cases lo with
  | none =>
    simp [cMaybe] at h; subst h
    simp at he
    exact .inl ⟨rfl, he.2.symm⟩
  | some x =>
    simp only [cMaybe] at h
    obtain ⟨y, hy, rfl⟩ := Option.map_eq_some_iff.1 h
    have := Rp.int_iff.1 (hk.get (hin x rfl) hy he)
    exact .inr ⟨kd, l, by simp [this], rfl⟩

theorem s_slc {t el : TypeId} {ti : TypeInfo} {x : Operand} {lo hi : Option Operand} {x' : X} {lo' hi' : Option X} (ho : o.op = .slice t x lo hi none) (ht : P.underlying t = some (.slice el)) (hti : P.info? el = some ti) (hx : cX x = some x')
    (hl : cMaybe lo = some lo') (hh : cMaybe hi = some hi') (he : sop E H k own (.slc ti.size x' lo' hi') = some e) (hob : e.ob) : Sound P o E H k e := by
  have hinl : ∀ y, lo = some y → y ∈ o.op.operands := fun y h => by subst h; simp [ho, Op.operands]
  have hinh : ∀ y, hi = some y → y ∈ o.op.operands := fun y h => by subst h; simp [ho, Op.operands]
  simp only [sop] at he
  split at he <;> first | (cases he; done) | skip
  · rename_i n cs hs
    split at he <;> first | (cases he; done) | skip
    rename_i kl l kh h h1 h2
    injection he with he
    subst he
    obtain ⟨b1, b2, b3, b4⟩ := hob
    refine ⟨OT.pure fun p μ M a w hk hS => ?_, sub_nil⟩
    obtain ⟨A, c, e1, e2, e3, e4⟩ := (by simpa [RepD] using Rp.d_iff.1 (hk.get (by simp [ho, Op.operands]) hx hs) : ∃ A cp, a.eval x = .slice A n cp ∧ n ≤ cp ∧ (n = 0 → cs = []) ∧ (0 < n → ∃ b q, A = some ⟨b, q, none⟩ ∧ RepR M b q cs))
    have q1 := maybe_eval hk hl h1 hinl
    have q2 := maybe_eval hk hh h2 hinh
    have hr := run_slice (P := P) (w := w) ht hti A n c (lo.map a.eval) (hi.map a.eval) l.toNat h.toNat e2 (by
        rcases q1 with ⟨u, rfl⟩ | ⟨kd, m, u, rfl⟩
        · exact .inl ⟨u, rfl⟩
        · exact .inr ⟨kd, m, u, b1, rfl⟩) (by
        rcases q2 with ⟨u, rfl⟩ | ⟨kd, m, u, rfl⟩
        · exact .inl ⟨u, by simp⟩
        · exact .inr ⟨kd, m, u, by omega, rfl⟩) (by omega) (by omega)
    have hex : (execOp a.eval o).run P w = .ok (.value (.slice (if c = l.toNat then A else A.map (·.add (l.toNat * ti.size))) (h.toNat - l.toNat) (c - l.toNat))) w := by
      simp only [execOp, ho, e1, Option.map_none, Sem.run_bind, hr, Result.andThen_ok, Sem.run_pure]
    refine ⟨_, hex, Rp.d_iff.2 ?_⟩
    simp only [RepD]
    refine ⟨_, _, rfl, by omega, fun h0 => by simp [h0], fun hpos => ?_⟩
    obtain ⟨b, q, rfl, hrr⟩ := e4 (by omega)
    rw [if_neg (by omega)]
    exact ⟨b, q + l.toNat * ti.size, by simp [addr_add], (hrr.drop _).take _⟩
  · rename_i hs
    split at he <;> first | (cases he; done) | skip
    rename_i kl l kh h h1 h2
    injection he with he
    subst he
    obtain ⟨b1, b2⟩ := hob
    refine ⟨OT.pure fun p μ M a w hk hS => ?_, sub_nil⟩
    have e1 : a.eval x = .slice none 0 0 := by simpa [RepD] using Rp.d_iff.1 (hk.get (by simp [ho, Op.operands]) hx hs)
    have q1 := maybe_eval hk hl h1 hinl
    have q2 := maybe_eval hk hh h2 hinh
    have hr := run_slice (P := P) (w := w) ht hti none 0 0 (lo.map a.eval) (hi.map a.eval) 0 0 (Nat.le_refl _) (by
        rcases q1 with ⟨u, rfl⟩ | ⟨kd, m, u, rfl⟩
        · exact .inl ⟨u, rfl⟩
        · exact .inr ⟨kd, m, u, by omega, by omega⟩) (by
        rcases q2 with ⟨u, rfl⟩ | ⟨kd, m, u, rfl⟩
        · exact .inl ⟨u, rfl⟩
        · exact .inr ⟨kd, m, u, by omega, by omega⟩) (Nat.le_refl _) (Nat.le_refl _)
    exact ⟨.slice none 0 0, by simp [execOp, ho, e1, hr], Rp.d_iff.2 (by simp [RepD])⟩
  · rename_i n len hs
    split at he <;> first | (cases he; done) | skip
    rename_i el' z len' cs hH
    split at he <;> first | (cases he; done) | skip
    · rename_i kh h h2
      injection he with he
      subst he
      obtain ⟨b1, b2, b3⟩ := hob
      subst b3
      refine ⟨OT.pure fun p μ M a w hk hS => ?_, sub_one hH⟩
      have hlo : lo = none := by
        cases lo with
        | none => rfl
        | some y =>
          simp only [cMaybe] at hl
          obtain ⟨_, _, h⟩ := Option.map_eq_some_iff.1 hl
          cases h
      have q2 := maybe_eval hk hh h2 hinh
      have hs' := hk.get (by simp [ho, Op.operands]) hx hs
      obtain ⟨hpn, hob, _⟩ := hS.one
      have mk : ∀ A c, a.eval x = .slice A len' c → len' ≤ c → (execOp a.eval o).run P w = .ok (.value (.slice A h.toNat c)) w := fun A c e1 hc => by
        have hr := run_slice (P := P) (w := w) ht hti A len' c (lo.map a.eval) (hi.map a.eval) 0 h.toNat hc (.inl ⟨by rw [hlo]; rfl, rfl⟩) (by
          rcases q2 with ⟨u, rfl⟩ | ⟨kd, m, u, rfl⟩
          · exact .inl ⟨u, by simp⟩
          · exact .inr ⟨kd, m, u, by omega, rfl⟩) (by omega) (by omega)
        have hA : (if c = 0 then A else A.map (·.add (0 * ti.size))) = A := by
          split
          · rfl
          · cases A with
            | none => rfl
            | some ad => obtain ⟨b, q, f⟩ := ad; cases f <;> simp [Addr.add]
        rw [hA] at hr
        simp only [execOp, ho, e1, Option.map_none, Sem.run_bind, hr, Result.andThen_ok, Sem.run_pure, Nat.sub_zero]
      rcases hs'.gs_of with ⟨hlive, e1⟩ | ⟨hdead, h0, A, e1⟩
      · have hcap : len' ≤ (μ n).cap := by
          rcases hob with ⟨hd, _⟩ | ⟨_, _, _, _, h, _⟩
          · rw [hlive] at hd; cases hd
          · exact h
        refine ⟨_, mk _ _ e1 hcap, fun ν hν => ?_⟩
        have he := hν n hpn
        simp only [Rep, he]
        exact .inl ⟨hlive, trivial⟩
      · subst h0
        have e0 : h.toNat = 0 := by omega
        refine ⟨_, mk _ _ e1 (Nat.le_refl _), fun ν hν => ?_⟩
        have he := hν n hpn
        simp only [Rep, he, e0]
        exact .inr ⟨hdead, trivial, A, rfl⟩
    · rename_i ll kh h h2
      split at he <;> first | (cases he; done) | skip
      rename_i kl l h1
      injection he with he
      subst he
      obtain ⟨b1, b2, b3, b4⟩ := hob
      subst b4
      refine ⟨OT.pure fun p μ M a w hk hS => ?_, sub_one hH⟩
      have q1 := maybe_eval (d := 0) (dk := .i64) hk hl (show (match (some ll : Option X) with | some l => ev E l | none => some (.d (.int .i64 0))) = some (.d (.int kl l)) from h1) hinl
      have q2 := maybe_eval hk hh h2 hinh
      have hs' := hk.get (by simp [ho, Op.operands]) hx hs
      obtain ⟨hpn, hob, _⟩ := hS.one
      rcases hs'.gs_of with ⟨hlive, e1⟩ | ⟨hdead, h0, A, e1⟩
      · have hcap : len' ≤ (μ n).cap := by
          rcases hob with ⟨hd, _⟩ | ⟨_, _, _, _, h, _⟩
          · rw [hlive] at hd; cases hd
          · exact h
        have hr := run_slice (P := P) (w := w) ht hti (some ⟨(μ n).blk, 0, none⟩) len' (μ n).cap (lo.map a.eval) (hi.map a.eval) l.toNat h.toNat hcap (by
          rcases q1 with ⟨u, rfl⟩ | ⟨kd, m, u, rfl⟩
          · exact .inl ⟨u, rfl⟩
          · exact .inr ⟨kd, m, u, by omega, rfl⟩) (by
          rcases q2 with ⟨u, rfl⟩ | ⟨kd, m, u, rfl⟩
          · exact .inl ⟨u, by simp⟩
          · exact .inr ⟨kd, m, u, by omega, rfl⟩) (by omega) (by omega)
        have hex : (execOp a.eval o).run P w = .ok (.value (.slice (some ⟨(μ n).blk, l.toNat * ti.size, none⟩) (h.toNat - l.toNat) ((μ n).cap - l.toNat))) w := by
          rw [if_neg (by omega)] at hr
          simp only [execOp, ho, e1, Option.map_none, Sem.run_bind, hr, Result.andThen_ok, Sem.run_pure, Option.map_some, addr_add, Nat.zero_add]
        refine ⟨_, hex, fun ν hν => ?_⟩
        have he := hν n hpn
        simp only [Rep, he]
        exact ⟨_, _, rfl, by omega, fun _ => rfl⟩
      · omega

theorem s_slc3 {t el : TypeId} {ti : TypeInfo} {x h m : Operand} {x' h' m' : X} (ho : o.op = .slice t x none (some h) (some m)) (ht : P.underlying t = some (.slice el)) (hti : P.info? el = some ti) (hx : cX x = some x')
    (hh : cX h = some h') (hm : cX m = some m') (he : sop E H k own (.slc3 x' h' m') = some e) (hob : e.ob) : Sound P o E H k e := by
  have key : ∀ (w : World) (A : Option Addr) (n c : Nat) (kh km : IntKind), n ≤ c → (Instr.sliceAt t (.slice A n c) none (some (.int kh n)) (some (.int km n))).run P w = .ok (.slice (if n = 0 then A else A.map (·.add (0 * ti.size))) n n) w := fun w A n c kh km hc => by
    have hb : (Instr.sliceBounds true n c none (some (.int kh n)) (some (.int km n))).run P w = .ok (0, n, n) w := by
      simp [Instr.sliceBounds, run_bound (P := P) (w := w) (kd := km) (code := .slice3Acap) (Int.natCast_nonneg n) (show (n : Int) ≤ (c : Int) by omega), run_bound (P := P) (w := w) (kd := kh) (code := .slice3B) (Int.natCast_nonneg n) (show (n : Int) ≤ (n : Int) by omega)]
    simp [Instr.sliceAt, run_underlying ht, Instr.slice, hb, run_size hti]
  simp only [sop] at he
  split at he <;> first | (cases he; done) | skip
  · rename_i n cs kh h kl l h1 h2 h3
    injection he with he
    subst he
    obtain ⟨rfl, rfl⟩ := hob
    refine ⟨OT.pure fun p μ M a w hk hS => ?_, sub_nil⟩
    obtain ⟨A, c, e1, e2, e3, e4⟩ := (by simpa [RepD] using Rp.d_iff.1 (hk.get (by simp [ho, Op.operands]) hx h1) : ∃ A cp, a.eval x = .slice A n cp ∧ n ≤ cp ∧ (n = 0 → cs = []) ∧ (0 < n → ∃ b q, A = some ⟨b, q, none⟩ ∧ RepR M b q cs))
    have q1 := Rp.int_iff.1 (hk.get (by simp [ho, Op.operands]) hh h2)
    have q2 := Rp.int_iff.1 (hk.get (by simp [ho, Op.operands]) hm h3)
    have hr := key w A n c kh kl e2
    refine ⟨_, by simp only [execOp, ho, e1, Option.map_none, Option.map_some, q1, q2, Sem.run_bind, hr, Result.andThen_ok, Sem.run_pure]; rfl, Rp.d_iff.2 ?_⟩
    simp only [RepD]
    refine ⟨_, _, rfl, Nat.le_refl _, e3, fun hpos => ?_⟩
    obtain ⟨b, q, rfl, hrr⟩ := e4 hpos
    rw [if_neg (by omega)]
    exact ⟨b, q, by simp [addr_add], hrr⟩
  · rename_i kh h kl l h1 h2 h3
    injection he with he
    subst he
    obtain ⟨rfl, rfl⟩ := hob
    refine ⟨OT.pure fun p μ M a w hk hS => ?_, sub_nil⟩
    have e1 : a.eval x = .slice none 0 0 := by simpa [RepD] using Rp.d_iff.1 (hk.get (by simp [ho, Op.operands]) hx h1)
    have q1 := Rp.int_iff.1 (hk.get (by simp [ho, Op.operands]) hh h2)
    have q2 := Rp.int_iff.1 (hk.get (by simp [ho, Op.operands]) hm h3)
    have hr : (Instr.sliceAt t (.slice none 0 0) none (some (.int kh 0)) (some (.int kl 0))).run P w = .ok (.slice none 0 0) w := by simpa using key w none 0 0 kh kl (Nat.le_refl _)
    exact ⟨.slice none 0 0, by simp only [execOp, ho, e1, Option.map_none, Option.map_some, q1, q2, Sem.run_bind, hr, Result.andThen_ok, Sem.run_pure], Rp.d_iff.2 (by simp [RepD])⟩

theorem s_slcA {t el : TypeId} {nn : Nat} {ti : TypeInfo} {x : Operand} {lo hi : Option Operand} {x' : X} {lo' hi' : Option X} (ho : o.op = .slice t x lo hi none) (ht : P.underlying t = some (.array nn el)) (hti : P.info? el = some ti) (hx : cX x = some x')
    (hl : cMaybe lo = some lo') (hh : cMaybe hi = some hi') (he : sop E H k own (.slcA nn ti.size x' lo' hi') = some e) (hob : e.ob) : Sound P o E H k e := by
  have hinl : ∀ y, lo = some y → y ∈ o.op.operands := fun y h => by subst h; simp [ho, Op.operands]
  have hinh : ∀ y, hi = some y → y ∈ o.op.operands := fun y h => by subst h; simp [ho, Op.operands]
  simp only [sop] at he
  split at he <;> first | (cases he; done) | skip
  rename_i m off kl l kh h hs h1 h2
  injection he with he
  subst he
  obtain ⟨b1, b2, b3⟩ := hob
  refine ⟨OT.pure fun p μ M a w hk hS => ?_, sub_nil⟩
  have hs' := hk.get (by simp [ho, Op.operands]) hx hs
  have e1 := hs'.ptr_of
  have q1 := maybe_eval hk hl h1 hinl
  have q2 := maybe_eval hk hh h2 hinh
  have hb : (Instr.sliceBounds false nn nn (lo.map a.eval) (hi.map a.eval) none).run P w = .ok (l.toNat, h.toNat, nn) w := by
    rcases q1 with ⟨u, rfl⟩ | ⟨ki, mi, u, rfl⟩ <;> rcases q2 with ⟨u', rfl⟩ | ⟨kj, mj, u', rfl⟩ <;> rw [u, u']
    · simp [Instr.sliceBounds]
    · simp [Instr.sliceBounds, asIntOf, run_bound (P := P) (w := w) (kd := kj) (code := .sliceAlen) (show 0 ≤ mj by omega) b3]
    · simp [Instr.sliceBounds, run_bound (P := P) (w := w) (kd := ki) (code := .sliceB) b1 b2]
    · simp [Instr.sliceBounds, run_bound (P := P) (w := w) (kd := kj) (code := .sliceAlen) (show 0 ≤ mj by omega) b3, run_bound (P := P) (w := w) (kd := ki) (code := .sliceB) b1 (show mi ≤ (mj.toNat : Int) by omega)]
  have hex : (execOp a.eval o).run P w = .ok (.value (.slice (some (if nn = l.toNat then ⟨(μ m).blk, off, none⟩ else ⟨(μ m).blk, off + l.toNat * ti.size, none⟩)) (h.toNat - l.toNat) (nn - l.toNat))) w := by
    simp only [execOp, ho, e1, Option.map_none, Sem.run_bind, Instr.sliceAt, run_underlying ht, Instr.sureAddr, Sem.run_pure, hb, Result.andThen_ok, run_size hti, addr_add]
  refine ⟨_, hex, fun ν hν => ?_⟩
  have hm : (ν m).blk = (μ m).blk := by
    have := hs' ν hν
    rw [e1] at this
    simp only [Rep] at this
    injection this with this
    injection this with this
    injection this with this
    exact this.symm
  simp only [Rep, hm]
  refine ⟨_, _, rfl, by omega, fun hne => ?_⟩
  rw [if_neg (by omega)]

/-! ### append -/
theorem run_append_nil' {w : World} (base : Nat) (t ty el : TypeId) (i : TypeInfo) (size : Nat) (ht : P.underlying t = some (.slice el)) (hi : P.info? el = some i)
    (v : Value) (n : Nat) (xs : List Value) (hown : w.ownsRow base el size v n xs) (c : Nat) : (Builtin.append_ #[t, t] ty #[v, .slice none 0 c]).run P w = .ok v w := by
  rcases hown.2 with ⟨rfl, rfl⟩ | ⟨g, cap, cur, rfl, _, _, hnc, _⟩
  · simp [Builtin.append_, run_underlying ht, sizeOf, typeInfo, hi, Builtin.lenOf, Builtin.firstCells]
  · simp [Builtin.append_, run_underlying ht, sizeOf, typeInfo, hi, Builtin.lenOf, Builtin.firstCells, hnc, storeCells]

theorem grownBy_refl (w : World) (r : Option Nat) : w.grownBy w r := ⟨rfl, rfl, rfl, Nat.le_refl _, fun _ _ _ => rfl⟩

/-- The source of an append: m elements, their cells. -/
def Src (w : World) (v : Value) (m : Nat) (us : List Value) : Prop :=
  ∃ A c, v = .slice A m c ∧ ((A = none ∧ m = 0 ∧ us = []) ∨ ∃ ad, A = some ad ∧ ∀ (j : Nat) (u : Value), us[j]? = some u → w.cell? (ad.add j) = some u)

theorem run_app {w : World} (t ty el : TypeId) (i : TypeInfo) (z : Value) (ht : P.underlying t = some (.slice el)) (hi : P.info? el = some i) (hz : i.zero = some z) (hzs : z.cells.size = i.size) (hsz : 0 < i.size)
    (v : Value) (n : Nat) (xs : List Value) (hown : w.ownsRow 0 el i.size v n xs) (x : Value) (m : Nat) (us : List Value) (hx : Src w x m us) (hl : us.length = m * i.size) (h1 : ∀ u ∈ us, u.oneCell' = true)
    (h63 : n + m ≤ 9223372036854775807) (hbytes : (n + m) * i.bytes ≤ 140737488355328) (hne : v ≠ .slice none 0 0 ∨ m ≠ 0) :
    ∃ v' w' g cap cur, (Builtin.append_ #[t, t] ty #[v, x]).run P w = .ok v' w' ∧ v' = .slice (some ⟨g, 0, none⟩) (n + m) cap ∧ w'.heap[g]? = some (.cells cur el (0, 0)) ∧ n + m ≤ cap ∧ cap ≤ maxLen ∧ cur.size = cap * i.size ∧ cur.toList.take ((n + m) * i.size) = xs ++ us ∧
      w.grownBy w' v.ownBlock ∧ (v.ownBlock = some g ∨ g = w.heap.size) := by
  obtain ⟨A, c, rfl, hA⟩ := hx
  have fin : ∀ v' w', w'.ownsRow 0 el i.size v' (n + m) (xs ++ us) → w.grownBy w' v.ownBlock → v' ≠ .slice none 0 0 → (v'.ownBlock = v.ownBlock ∨ v'.ownBlock = some w.heap.size) → (Builtin.append_ #[t, t] ty #[v, .slice A m c]).run P w = .ok v' w' →
      ∃ v' w' g cap cur, (Builtin.append_ #[t, t] ty #[v, .slice A m c]).run P w = .ok v' w' ∧ v' = .slice (some ⟨g, 0, none⟩) (n + m) cap ∧ w'.heap[g]? = some (.cells cur el (0, 0)) ∧ n + m ≤ cap ∧ cap ≤ maxLen ∧ cur.size = cap * i.size ∧ cur.toList.take ((n + m) * i.size) = xs ++ us ∧
      w.grownBy w' v.ownBlock ∧ (v.ownBlock = some g ∨ g = w.heap.size) := by
    intro v' w' ho' hg hnn hob hr
    rcases ho'.2 with ⟨rfl, h0⟩ | ⟨g, cap, cur, rfl, _, r1, r2, r3, r4, r5⟩
    · exact absurd rfl hnn
    · refine ⟨_, w', g, cap, cur, hr, rfl, r1, r2, r3, r4, r5, hg, ?_⟩
      rcases hob with hob | hob
      · exact .inl (by rw [← hob]; rfl)
      · exact .inr (by simpa [Value.ownBlock] using hob)
  rcases hA with ⟨rfl, rfl, rfl⟩ | ⟨ad, rfl, hc⟩
  · refine fin v w (by simpa using hown) (grownBy_refl _ _) (by simpa using hne) (.inl rfl) (run_append_nil' 0 t ty el i i.size ht hi v n xs hown c)
  · obtain ⟨v', w', hrun, h2, h3, h4, h5⟩ := run_append_own_at (P := P) w 0 t ty el i z i.size i.bytes ht hi hz rfl rfl hzs hsz v n xs hown ad m c us hl hc h1 (by unfold maxLen; omega) hbytes (Nat.zero_le _)
    refine fin v' w' h2 h3 (fun e => ?_) h5 hrun
    obtain ⟨a1, a2⟩ := h4.1 e
    rcases hne with h | h
    · exact h a1
    · exact h a2

/-- An append, whatever the base: a row of one's own, or a slice without capacity. -/
theorem run_appR {w : World} (t ty el : TypeId) (i : TypeInfo) (z : Value) (ht : P.underlying t = some (.slice el)) (hi : P.info? el = some i) (hz : i.zero = some z) (hzs : z.cells.size = i.size) (hsz : 0 < i.size)
    (v : Value) (n : Nat) (xs : List Value) (r : Option Nat) (hown : (w.ownsRow 0 el i.size v n xs ∧ v ≠ .slice none 0 0 ∧ v.ownBlock = r) ∨ ((∃ A0, v = .slice A0 0 0) ∧ n = 0 ∧ xs = [] ∧ r = none))
    (x : Value) (m : Nat) (us : List Value) (hx : Src w x m us) (hl : us.length = m * i.size) (h1 : ∀ u ∈ us, u.oneCell' = true)
    (h63 : n + m ≤ 9223372036854775807) (hbytes : (n + m) * i.bytes ≤ 140737488355328) :
    ∃ v' w', (Builtin.append_ #[t, t] ty #[v, x]).run P w = .ok v' w' ∧ w.grownBy w' r ∧ ((n + m = 0 ∧ ∃ A, v' = .slice A 0 0) ∨
      ∃ g cap cur, v' = .slice (some ⟨g, 0, none⟩) (n + m) cap ∧ w'.heap[g]? = some (.cells cur el (0, 0)) ∧ n + m ≤ cap ∧ cap ≤ maxLen ∧ cur.size = cap * i.size ∧ cur.toList.take ((n + m) * i.size) = xs ++ us ∧
      (r = some g ∨ w.heap.size ≤ g)) := by
  rcases hown with ⟨hown, hne, rfl⟩ | ⟨⟨A0, rfl⟩, rfl, rfl, rfl⟩
  · obtain ⟨v', w', g, cap, cur, hrun, a1, a2, a3, a4, a5, a6, a7, a8⟩ := run_app t ty el i z ht hi hz hzs hsz v n xs hown x m us hx hl h1 h63 hbytes (.inl hne)
    exact ⟨v', w', hrun, a7, .inr ⟨g, cap, cur, a1, a2, a3, a4, a5, a6, a8.imp id fun h => by omega⟩⟩
  · obtain ⟨A, c, rfl, hA⟩ := hx
    rcases hA with ⟨rfl, rfl, rfl⟩ | ⟨ad, rfl, hc⟩
    · refine ⟨_, w, ?_, grownBy_refl _ _, .inl ⟨rfl, A0, rfl⟩⟩
      cases A0 with
      | none => simp [Builtin.append_, run_underlying ht, sizeOf, typeInfo, hi, Builtin.lenOf, Builtin.firstCells]
      | some b => simp [Builtin.append_, run_underlying ht, sizeOf, typeInfo, hi, Builtin.lenOf, Builtin.firstCells, storeCells]
    · rcases Nat.eq_zero_or_pos m with rfl | hm
      · refine ⟨_, w, ?_, grownBy_refl _ _, .inl ⟨rfl, A0, rfl⟩⟩
        have hus : us = [] := List.eq_nil_of_length_eq_zero (by simpa using hl)
        subst hus
        have hf := run_firstCells_some (P := P) w i.size 0 ad 0 c [] (by simp) (by simp)
        cases A0 with
        | none => simp [Builtin.append_, run_underlying ht, sizeOf, typeInfo, hi, Builtin.lenOf, hf, storeCells]
        | some b => simp [Builtin.append_, run_underlying ht, sizeOf, typeInfo, hi, Builtin.lenOf, hf, storeCells]
      · have key : ∃ v' w', (Builtin.append_ #[t, t] ty #[.slice A0 0 0, .slice (some ad) m c]).run P w = .ok v' w' ∧ w'.ownsRow w.heap.size el i.size v' (0 + m) ([] ++ us) ∧ w.grownBy w' none := by
          cases A0 with
          | none =>
            obtain ⟨v', w', hrun, h2, h3, _⟩ := run_append_own_at (P := P) w w.heap.size t ty el i z i.size i.bytes ht hi hz rfl rfl hzs hsz (.slice none 0 0) 0 [] (World.ownsRow_nil w _ el i.size) ad m c us hl hc h1 (by unfold maxLen; omega) hbytes (Nat.le_refl _)
            exact ⟨v', w', hrun, h2, h3⟩
          | some b =>
            exact run_append_arg_grows (P := P) w t ty el i z i.size i.bytes ht hi hz rfl rfl hzs hsz b 0 0 [] (by simp) (fun j u hj => by simp at hj) ad m c us hl hc (by omega) (by unfold maxLen; omega) hbytes
        obtain ⟨v', w', hrun, h2, h3⟩ := key
        refine ⟨v', w', hrun, h3, .inr ?_⟩
        rcases h2.2 with ⟨_, h0⟩ | ⟨g, cap, cur, rfl, r0, r1, r2, r3, r4, r5⟩
        · omega
        · exact ⟨g, cap, cur, rfl, r1, r2, r3, r4, r5, .inr r0⟩

theorem lk_append {F F2 : Hp} {n : Nat} : lk (F ++ F2) n = match lk F n with
    | some ob => some ob
    | none => lk F2 n := by
  unfold lk
  induction F with
  | nil => rfl
  | cons x F ih =>
    obtain ⟨m, ob⟩ := x
    simp only [List.cons_append, List.lookup]
    cases n == m
    · exact ih
    · rfl
theorem lk_cons {F : Hp} {m n : Nat} {ob : Ob} : lk ((m, ob) :: F) n = if n = m then some ob else lk F n := by
  unfold lk
  simp only [List.lookup]
  by_cases h : n = m
  · subst h; simp
  · rw [if_neg h, show (n == m) = false by simpa using h]

theorem appX_src {xs : Array Operand} {p : Nat → Prop} {μ : Nat → Nm} {M : Mem} {a : Act} {w : World} {x : Operand} {x' : X} {m : Nat} {news : List SV} {F2 : Hp} {ob2 : Prop} (hk : Known E xs p μ M a) (hin : x ∈ xs) (hx : cX x = some x')
    (h : appX H (ev E x') = some (m, news, F2, ob2)) (hob : ob2) (hS : SatF p μ M (lk F2) w) (hlen : ∀ sz, news.length = m * sz → True) :
    (∃ us, (∀ sz, news.length = m * sz → us.length = m * sz) ∧ Src w (a.eval x) m us ∧ Rps p μ M news us) ∧ (∀ n ob, lk F2 n = some ob → H n = some ob) := by
  unfold appX at h
  split at h <;> first | (cases h; done) | skip
  · rename_i hs
    simp at h
    obtain ⟨rfl, rfl, rfl, _⟩ := h
    have e1 : a.eval x = .slice none 0 0 := by simpa [RepD] using Rp.d_iff.1 (hk.get hin hx hs)
    exact ⟨⟨[], by simp, ⟨none, 0, e1, .inl ⟨rfl, rfl, rfl⟩⟩, Rps.nil_iff.2 rfl⟩, sub_nil⟩
  · rename_i m' ds hs
    simp at h
    obtain ⟨rfl, rfl, rfl, _⟩ := h
    obtain ⟨A, c, e1, e2, e3, e4⟩ := (by simpa [RepD] using Rp.d_iff.1 (hk.get hin hx hs) : ∃ A cp, a.eval x = .slice A m' cp ∧ m' ≤ cp ∧ (m' = 0 → ds = []) ∧ (0 < m' → ∃ b q, A = some ⟨b, q, none⟩ ∧ RepR M b q ds))
    refine ⟨?_, sub_nil⟩
    rcases Nat.eq_zero_or_pos m' with h0 | h0
    · have := e3 h0
      subst this
      refine ⟨[], by simp, ⟨A, c, e1, ?_⟩, Rps.nil_iff.2 rfl⟩
      cases A with
      | none => exact .inl ⟨rfl, h0, rfl⟩
      | some ad => exact .inr ⟨ad, rfl, fun j u hj => by simp at hj⟩
    · obtain ⟨b, q, rfl, hr⟩ := e4 h0
      have key : ∀ (l : List DV) (q : Nat), RepR M b q l → ∃ us : List Value, us.length = l.length ∧ Rps p μ M (l.map .d) us ∧ ∀ (j : Nat) (u : Value), us[j]? = some u → w.cell? ⟨b, q + j, none⟩ = some u := by
        intro l
        induction l with
        | nil => intro q _; exact ⟨[], rfl, Rps.nil_iff.2 rfl, fun j u h => by simp at h⟩
        | cons c l ih =>
          intro q hq
          simp only [RepR] at hq
          obtain ⟨⟨u, hu, hd⟩, hq⟩ := hq
          obtain ⟨us, l1, l2, l3⟩ := ih (q + 1) hq
          refine ⟨u :: us, by simp [l1], Rps.cons_iff.2 ⟨u, us, rfl, Rp.d_iff.2 hd, l2⟩, fun j x hj => ?_⟩
          cases j with
          | zero => simp at hj; subst hj; exact hS.mem b _ _ (by simpa using hu)
          | succ j =>
            have := l3 j x (by simpa using hj)
            rwa [show q + 1 + j = q + (j + 1) by omega] at this
      obtain ⟨us, l1, l2, l3⟩ := key ds q hr
      exact ⟨us, fun sz h => by rw [l1]; simpa using h, ⟨_, c, e1, .inr ⟨_, rfl, fun j u hj => by rw [addr_add]; exact l3 j u hj⟩⟩, l2⟩
  · rename_i n m' hs
    split at h <;> first | (cases h; done) | skip
    rename_i e' sz' len' cs hH
    simp only [Option.some.injEq, Prod.mk.injEq] at h
    obtain ⟨rfl, rfl, rfl, rfl⟩ := h
    subst hob
    refine ⟨?_, sub_one hH⟩
    obtain ⟨_, ⟨h0, rfl, rfl⟩ | ⟨h0, vs, hb, q1, q2, q3, q4, hr⟩, _⟩ := hS.one
    · obtain ⟨h0', _⟩ | ⟨_, _, A, e1⟩ := (hk.get hin hx hs).gs_of
      · rw [h0] at h0'; cases h0'
      · refine ⟨[], by simp, ⟨A, 0, e1, ?_⟩, Rps.nil_iff.2 rfl⟩
        cases A with
        | none => exact .inl ⟨rfl, rfl, rfl⟩
        | some ad => exact .inr ⟨ad, rfl, fun j u hj => by simp at hj⟩
    obtain ⟨_, e1⟩ | ⟨h0', _⟩ := (hk.get hin hx hs).gs_of
    rotate_left
    · rw [h0] at h0'; cases h0'
    refine ⟨_, fun sz h => by rw [hr.length]; exact h, ⟨_, _, e1, .inr ⟨_, rfl, fun j u hj => ?_⟩⟩, hr⟩
    rw [addr_add, cell_of hb]
    rw [List.getElem?_take] at hj
    split at hj
    · simpa using hj
    · cases hj

theorem Rps.ones {p : Nat → Prop} {μ : Nat → Nm} {M : Mem} : ∀ {cs : List SV} {vs : List Value}, cs.all SV.isOne = true → Rps p μ M cs vs → ∀ u ∈ vs, u.oneCell' = true
  | [], vs, _, h, u, hu => by rw [Rps.nil_iff.1 h] at hu; cases hu
  | c :: cs, vs, hc, h, u, hu => by
    obtain ⟨u', us, rfl, h1, h2⟩ := Rps.cons_iff.1 h
    simp only [List.all_cons, Bool.and_eq_true] at hc
    rcases List.mem_cons.1 hu with rfl | hu
    · exact h1.rep.one hc.1
    · exact Rps.ones hc.2 h2 u hu

theorem s_app {c : Call} {t el : TypeId} {x y : Operand} {x' y' : X} {i : TypeInfo} {z : List SV} (ho : o.op = .call c) (hcal : c.callee = .builtin .append) (ha : c.args.toList = [x, y]) (hat : c.argTypes.toList = [t, t])
    (ht : P.underlying t = some (.slice el)) (hi : P.info? el = some i) (hz : zCells P el = some z) (hzl : z.length = i.size ∧ 0 < i.size)
    (hx : cX x = some x') (hy : cX y = some y') (he : sop E H k own (.app el i.size i.bytes x' y') = some e) (hob : e.ob) : Sound P o E H k e := by
  have ha' : c.args = #[x, y] := by cases hh : c.args; simp [hh] at ha; simp [ha]
  have hat' : c.argTypes = #[t, t] := by cases hh : c.argTypes; simp [hh] at hat; simp [hat]
  have hin1 : x ∈ o.op.operands := by simp [ho, Op.operands, Call.operands, hcal, ha']
  have hin2 : y ∈ o.op.operands := by simp [ho, Op.operands, Call.operands, hcal, ha']
  simp only [sop] at he
  split at he <;> first | (cases he; done) | skip
  rename_i n cs F ob m news F2 ob2 hB hX
  split at he <;> first | (cases he; done) | skip
  rename_i hone
  injection he with he
  subst he
  obtain ⟨b1, b2, b3, b4, b5, b6⟩ := hob
  have hdis : ∀ q, lk F q ≠ none → lk F2 q = none := by
    intro q hq
    cases hh : lk F2 q with
    | none => rfl
    | some ob =>
      exfalso
      have m1 : ∀ (G : Hp), lk G q ≠ none → q ∈ G.map (·.1) := by
        intro G
        induction G with
        | nil => intro h; exact absurd rfl h
        | cons g G ih =>
          obtain ⟨gn, gob⟩ := g
          intro h
          rw [lk_cons] at h
          by_cases hq : q = gn
          · simp [hq]
          · rw [if_neg hq] at h
            rw [List.map_cons, List.mem_cons]
            exact .inr (ih h)
      have a1 := m1 F hq
      have a2 := m1 F2 (by rw [hh]; simp)
      have := List.all_eq_true.1 (List.all_eq_true.1 b6 q a1) q a2
      simp at this
  have hmem2 : ∀ {p : Nat → Prop} {μ : Nat → Nm} {M : Mem} {w : World}, SatF p μ M (lk (F ++ F2)) w → SatF p μ M (lk F2) w := fun hS => hS.sub fun q ob hq => by
    rw [lk_append]
    cases hh : lk F q with
    | none => exact hq
    | some ob' => rw [hdis q (by rw [hh]; simp)] at hq; cases hq
  have hmem1 : ∀ {p : Nat → Prop} {μ : Nat → Nm} {M : Mem} {w : World}, SatF p μ M (lk (F ++ F2)) w → SatF p μ M (lk F) w := fun hS => hS.sub fun q ob hq => by
    rw [lk_append, hq]
  have hsubX : ∀ n ob, lk F2 n = some ob → H n = some ob := by
    have := hX
    unfold appX at this
    split at this <;> first | (cases this; done) | skip
    · simp at this; obtain ⟨_, _, rfl, _⟩ := this; exact sub_nil
    · simp at this; obtain ⟨_, _, rfl, _⟩ := this; exact sub_nil
    · split at this <;> first | (cases this; done) | skip
      rename_i hH
      simp at this; obtain ⟨_, _, rfl, _⟩ := this; exact sub_one hH
  have hsubB : ∀ n ob, lk F n = some ob → H n = some ob := by
    have := hB
    unfold appB at this
    split at this <;> first | (cases this; done) | skip
    · simp at this; obtain ⟨_, _, rfl, _⟩ := this; exact sub_nil
    · split at this <;> first | (cases this; done) | skip
      rename_i hH
      simp at this; obtain ⟨_, _, rfl, _⟩ := this; exact sub_one hH
  refine ⟨?_, fun q ob hq => ?_⟩
  · show OT P o E (F ++ F2) (fun n => k ≤ n ∧ n < k + 1) (.gs k (n + m)) ((k, .arr el i.size (n + m) (cs ++ news)) :: F2)
    intro rd p μ M a w K Q hnew hkn hS hK
    obtain ⟨⟨us, hul, hsrc, hrx⟩, _⟩ := appX_src hkn hin2 hy hX b2 (hmem2 hS) (fun _ _ => trivial)
    have hul := hul _ b5
    obtain ⟨v, hv, hr, _⟩ := zCells_rep hz (p := p) (μ := μ) (M := M)
    have hzv : i.zero = some v := by
      have hz' := hz
      unfold zCells at hz'
      rw [hi] at hz'
      cases hzz : i.zero with
      | none => simp [hzz] at hz'
      | some v' =>
        have := hv w
        rw [run_zero hi hzz] at this
        injection this with this
        rw [this]
    have hzs : v.cells.size = i.size := by have := hr.length; simp at this; omega
    -- the base
    have hbase : ∃ xs r, ((w.ownsRow 0 el i.size (a.eval x) n xs ∧ a.eval x ≠ .slice none 0 0 ∧ (a.eval x).ownBlock = r) ∨ ((∃ A0, a.eval x = .slice A0 0 0) ∧ n = 0 ∧ xs = [] ∧ r = none)) ∧ Rps p μ M cs xs ∧ cs.length = n * i.size ∧
        (∀ g, r = some g → ∃ q, lk F q ≠ none ∧ (μ q).live = true ∧ (μ q).blk = g) := by
      have hB' := hB
      unfold appB at hB'
      split at hB' <;> first | (cases hB'; done) | skip
      · rename_i hs
        simp at hB'
        obtain ⟨rfl, rfl, rfl, rfl⟩ := hB'
        have e1 : a.eval x = .slice none 0 0 := by simpa [RepD] using Rp.d_iff.1 (hkn.get hin1 hx hs)
        rw [e1]
        exact ⟨[], none, .inr ⟨⟨none, rfl⟩, rfl, rfl, rfl⟩, Rps.nil_iff.2 rfl, by simp, fun g hg => by cases hg⟩
      · rename_i n' len hs
        split at hB' <;> first | (cases hB'; done) | skip
        rename_i e' sz' len' cs' hH
        simp only [Option.some.injEq, Prod.mk.injEq] at hB'
        obtain ⟨rfl, rfl, rfl, rfl⟩ := hB'
        obtain ⟨rfl, rfl, rfl⟩ := b1
        obtain ⟨_, hob1, _⟩ := (hmem1 hS).one
        rcases (hkn.get hin1 hx hs).gs_of with ⟨hl, e1⟩ | ⟨hl, h0, A, e1⟩
        · rcases hob1 with ⟨hl', _⟩ | ⟨_, vs, hb, q1, q2, q3, q4, hr'⟩
          · rw [hl] at hl'; cases hl'
          rw [e1]
          exact ⟨_, some (μ n').blk, .inl ⟨⟨by rw [hr'.length]; exact q1, .inr ⟨_, _, vs, rfl, Nat.zero_le _, hb, q2, q3, q4, rfl⟩⟩, by simp, rfl⟩, hr', q1, fun g hg => ⟨n', by simp [lk_one], hl, by simpa using hg⟩⟩
        · rcases hob1 with ⟨_, _, h2⟩ | ⟨hl', _⟩
          · subst h2
            rw [e1]
            exact ⟨[], none, .inr ⟨⟨A, rfl⟩, h0, rfl, rfl⟩, Rps.nil_iff.2 rfl, by simp [h0], fun g hg => by cases hg⟩
          · rw [hl] at hl'; cases hl'
    obtain ⟨xs, r, hown, hrb, hcl, hblk⟩ := hbase
    obtain ⟨v', w', hrun, hgrow, hres⟩ := run_appR (P := P) t o.type el i v ht hi hzv hzs hzl.2 (a.eval x) n xs r hown (a.eval y) m us hsrc hul (hrx.ones hone) b3 b4
    have hpk : ¬ p k := hnew k ⟨Nat.le_refl _, Nat.lt_succ_self _⟩
    have hnm : ∃ nm : Nm, (∀ (p' : Nat → Prop) (μ' : Nat → Nm), p' k → μ' k = nm → Rp p' μ' M (.gs k (n + m)) v') ∧
        (∀ (p' : Nat → Prop) (μ' : Nat → Nm), (∀ n, p n → p' n) → (∀ n, p n → μ' n = μ n) → ObRep p' μ' M w' nm (.arr el i.size (n + m) (cs ++ news))) ∧ (nm.live = true → (r = some nm.blk ∨ w.heap.size ≤ nm.blk)) := by
      rcases hres with ⟨h0, A, rfl⟩ | ⟨g, cap, cur, rfl, hg, c1, c2, c3, c4, hgo⟩
      · have hn0 : n = 0 := by omega
        have hm0 : m = 0 := by omega
        refine ⟨⟨0, 0, false⟩, fun p' μ' hp' hk' ν hν => ?_, fun p' μ' _ _ => .inl ⟨rfl, by omega, ?_⟩, fun h => by cases h⟩
        · simp only [Rep]
          exact .inr ⟨by rw [hν k hp', hk'], h0, A, rfl⟩
        · have h1 : cs = [] := List.eq_nil_of_length_eq_zero (by rw [hcl, hn0]; simp)
          have h2 : news = [] := List.eq_nil_of_length_eq_zero (by rw [b5, hm0]; simp)
          rw [h1, h2]; rfl
      · refine ⟨⟨g, cap, true⟩, fun p' μ' hp' hk' => ?_, fun p' μ' hp' hμ' => .inr ⟨rfl, cur, hg, by rw [List.length_append, hcl, b5, Nat.add_mul], c1, c2, c3, ?_⟩, fun _ => hgo⟩
        · have := Rp.gs_mk (p := p') (μ := μ') (M := M) (n := k) (len := n + m) hp' (by rw [hk'])
          rwa [hk'] at this
        · rw [c4]
          exact (hrb.append hrx).more hp' hμ' (Mem.le_refl M)
    obtain ⟨nm, hnm1, hnm2, hgo⟩ := hnm
    have hmu := upN_p (μ := μ) (m := nm) hpk
    have hrM : ∀ g, r = some g → ∀ j, M g j = none := fun g h => by
      obtain ⟨q, hq, hl, rfl⟩ := hblk g h
      obtain ⟨ob', hob'⟩ := Option.ne_none_iff_exists'.1 hq
      exact (hS.obs q ob' (by rw [lk_append, hob'])).2.2 hl
    have hgM : nm.live = true → ∀ j, M nm.blk j = none := fun hl => by
      rcases hgo hl with h | h
      · exact hrM _ h
      · exact mem_lt hS.mem h
    have hmem' : ∀ b j u, M b j = some u → w'.cell? ⟨b, j, none⟩ = some u := fun b j u hm => by
      have h1 := hS.mem b j u hm
      have hlt := World.block_lt_of_cell? w ⟨b, j, none⟩ h1
      have hb : some b ≠ r := fun e => by rw [hrM b e.symm] at hm; cases hm
      rw [← h1]
      exact World.cell?_of_block (hgrow.block b hlt hb)
    have hrun' : (execOp a.eval o).run P w = .ok (.value v') w' := by
      simp only [execOp, ho, resolve, hcal, ha', hat', invoke, builtin, Sem.run_bind, Sem.run_pure, Result.andThen_ok, List.map_toArray, List.map_cons, List.map_nil, hrun]
    have hold2 : ∀ q, lk F2 q ≠ none → (μ q).live = true → (μ q).blk < w.heap.size ∧ some (μ q).blk ≠ r := fun q hq lq => by
      refine ⟨(hmem2 hS).lt hq lq, fun e => ?_⟩
      obtain ⟨q', hq', lq', e'⟩ := hblk _ e.symm
      have hq1 : lk (F ++ F2) q' ≠ none := by
        obtain ⟨ob', hob'⟩ := Option.ne_none_iff_exists'.1 hq'
        rw [lk_append, hob']; simp
      have hq2 : lk (F ++ F2) q ≠ none := by
        obtain ⟨ob', hob'⟩ := Option.ne_none_iff_exists'.1 hq
        rw [lk_append]
        cases lk F q <;> simp [hob']
      have := hS.inj q' q hq1 hq2 lq' lq e'
      subst this
      exact hq (hdis q' hq')
    have hk2 : ∀ q, lk F2 q ≠ none → p q := fun q hq => by
      obtain ⟨ob', hob'⟩ := Option.ne_none_iff_exists'.1 hq
      exact ((hmem2 hS).obs q ob' hob').1
    have hgne : ∀ q, lk F2 q ≠ none → (μ q).live = true → nm.live = true → (μ q).blk ≠ nm.blk := fun q hq lq ln e => by
      obtain ⟨h1, h2⟩ := hold2 q hq lq
      rcases hgo ln with h | h
      · exact h2 (by rw [e, h])
      · omega
    refine wp_value hrun' (hK v' (upN μ k nm) M w' (hnm1 _ _ (.inr ⟨Nat.le_refl _, Nat.lt_succ_self _⟩) (upN_same _ _ _)) ⟨⟨hmem', hS.mem.glob⟩, fun q ob' hq => ?_, fun q q' hq hq' lq lq' e => ?_⟩ ⟨fun q hq => upN_other _ _ _ (fun e => hq (by subst e; exact ⟨Nat.le_refl _, Nat.lt_succ_self _⟩)), Mem.le_refl M, fun b hb hf => ⟨hgrow.block b hb fun e => ?_, fun _ => rfl⟩, hgrow.size, fun q hq => ?_, hgrow.os, ⟨hgrow.tape, run_drawn _ _ _ _ hrun⟩, hgrow.output⟩)
    · rw [lk_cons] at hq
      split at hq
      · rename_i e1
        subst e1
        injection hq with hq
        subst hq
        rw [upN_same]
        exact ⟨.inr ⟨Nat.le_refl _, Nat.lt_succ_self _⟩, hnm2 _ _ (fun q h => .inl h) hmu, hgM⟩
      · have hne2 : lk F2 q ≠ none := by rw [hq]; simp
        obtain ⟨a1, a2, a3⟩ := (hmem2 hS).obs q ob' hq
        rw [hmu q a1]
        exact ⟨.inl a1, a2.more (fun q h => .inl h) hmu (Mem.le_refl M) (fun l => hgrow.block _ (hold2 q hne2 l).1 (hold2 q hne2 l).2), a3⟩
    · rw [lk_cons] at hq hq'
      by_cases e1 : q = k <;> by_cases e2 : q' = k
      · omega
      · rw [if_neg e2] at hq'
        subst e1
        rw [upN_same] at lq e
        rw [hmu q' (hk2 q' hq')] at e lq'
        exact absurd e.symm (hgne q' hq' lq' lq)
      · rw [if_neg e1] at hq
        subst e2
        rw [upN_same] at lq' e
        rw [hmu q (hk2 q hq)] at e lq
        exact absurd e (hgne q hq lq lq')
      · rw [if_neg e1] at hq
        rw [if_neg e2] at hq'
        rw [hmu q (hk2 q hq)] at e lq
        rw [hmu q' (hk2 q' hq')] at e lq'
        exact (hmem2 hS).inj q q' hq hq' lq lq' e
    · obtain ⟨q, hq, lq, e'⟩ := hblk b e.symm
      refine hf q ?_ lq e'
      obtain ⟨ob', hob'⟩ := Option.ne_none_iff_exists'.1 hq
      show lk (F ++ F2) q ≠ none
      rw [lk_append, hob']; simp
    · rw [lk_cons] at hq
      by_cases e1 : q = k
      · subst e1
        refine .inl ⟨⟨Nat.le_refl _, Nat.lt_succ_self _⟩, ?_⟩
        rw [upN_same]
        intro ln
        rcases hgo ln with h | h
        · obtain ⟨q', hq', lq', e'⟩ := hblk _ h
          refine .inr ⟨q', ?_, lq', e'⟩
          obtain ⟨ob', hob'⟩ := Option.ne_none_iff_exists'.1 hq'
          show lk (F ++ F2) q' ≠ none
          rw [lk_append, hob']; simp
        · exact .inl h
      · rw [if_neg e1] at hq
        refine .inr ⟨fun h => hnew q h (hk2 q hq), ?_⟩
        obtain ⟨ob', hob'⟩ := Option.ne_none_iff_exists'.1 hq
        show lk (F ++ F2) q ≠ none
        rw [lk_append]
        cases lk F q <;> simp [hob']
  · have hq : lk (F ++ F2) q = some ob := hq
    rw [lk_append] at hq
    split at hq
    · rename_i hh
      injection hq with hq
      subst hq
      exact hsubB q _ hh
    · exact hsubX q ob hq
end
end Go.Sl
