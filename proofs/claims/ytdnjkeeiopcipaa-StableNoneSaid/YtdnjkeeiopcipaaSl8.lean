/-
  The machine does what 'sop' says: second part: parts of values, '==', stores, literals, slices of slices.
-/
import Derived.Test.YtdnjkeeiopcipaaSl7
set_option linter.unusedSimpArgs false
set_option linter.unusedSectionVars false
set_option linter.unusedVariables false
namespace Go.Sl
open Go.RowKit

section
variable {P : Program} {o : Oper} {E : Nat → Option SV} {H : Nat → Option Ob} {k : Nat} {own : Bool} {e : Eff}

theorem part_ldv {w : World} {t : TypeId} {sz : Option Nat} (ht : tySz P t = some sz) {cs : List SV} {vs : Array Value} {off : Nat} {s : SV} (h : ldv cs off sz = some s) (hle : ldo cs off sz) {p : Nat → Prop} {μ : Nat → Nm} {M : Mem}
    (hr : Rps p μ M cs vs.toList) : ∃ v, (part t vs off).run P w = .ok v w ∧ Rp p μ M s v := by
  cases sz with
  | none =>
    obtain ⟨u, hu, hr'⟩ := hr.get h
    have hu' : vs[off]? = some u := by simpa using hu
    exact ⟨u, by simp [part, tySz_none ht, hu'], hr'⟩
  | some m =>
    simp only [ldo] at hle
    simp [ldv] at h
    subst h
    refine ⟨.agg (vs.extract off (off + m)), by simp [part, (tySz_some ht).1, (tySz_some ht).2], Rp.agg_iff.2 ⟨_, rfl, ?_⟩⟩
    have := (hr.drop off).take m
    simpa using this

theorem s_field {t : TypeId} {x : Operand} {y : X} {f : Nat} {fs : Array Field} {fl : Field} {sz : Option Nat} (ho : o.op = .field t x f) (hs : P.underlying t = some (.struct fs)) (hf : fs[f]? = some fl)
    (hz : tySz P fl.type = some sz) (hx : cX x = some y) (he : sop E H k own (.field fl.offset sz y) = some e) (hob : e.ob) : Sound P o E H k e := by
  simp only [sop] at he
  split at he <;> first | (cases he; done) | skip
  rename_i cs hcs
  split at he <;> first | (cases he; done) | skip
  rename_i v hv
  injection he with he
  subst he
  refine ⟨OT.pure fun p μ M a w hk hS => ?_, sub_nil⟩
  obtain ⟨vs, e1, hr⟩ := Rp.agg_iff.1 (hk.get (by simp [ho, Op.operands]) hx hcs)
  obtain ⟨u, hu, hr'⟩ := part_ldv (P := P) (w := w) hz hv hob hr
  refine ⟨u, ?_, hr'⟩
  simp [execOp, ho, Instr.field, run_underlying hs, hf, e1, asAgg, hu]

theorem s_index {t el : TypeId} {n : Nat} {x i : Operand} {y j : X} {ti : TypeInfo} {sz : Option Nat} (ho : o.op = .index t x i) (ht : P.underlying t = some (.array n el)) (hi : P.info? el = some ti) (hz : tySz P el = some sz)
    (hzz : sz = (if sz.isSome then some ti.size else none)) (hx : cX x = some y) (hj : cX i = some j) (he : sop E H k own (.index n ti.size sz.isSome y j) = some e) (hob : e.ob) : Sound P o E H k e := by
  simp only [sop] at he
  split at he <;> first | (cases he; done) | skip
  rename_i cs kk m hs hm
  rw [← hzz] at he
  split at he <;> first | (cases he; done) | skip
  rename_i v hv
  injection he with he
  subst he
  refine ⟨OT.pure fun p μ M a w hk hS => ?_, sub_nil⟩
  obtain ⟨vs, e1, hr⟩ := Rp.agg_iff.1 (hk.get (by simp [ho, Op.operands]) hx hs)
  have e2 := Rp.int_iff.1 (hk.get (by simp [ho, Op.operands]) hj hm)
  obtain ⟨u, hu, hr'⟩ := part_ldv (P := P) (w := w) hz hv hob.2 hr
  refine ⟨u, ?_, hr'⟩
  have h1 := hob.1.1
  have h2 := hob.1.2
  simp [execOp, ho, Instr.index, run_underlying ht, e1, e2, asIntOf, h1, h2, run_size hi, hu]

/-! ### '==' -/
theorem cqS_rep {kd : Bool} {s t : SV} {b : Bool} (h : cqS kd s t = some b) {p : Nat → Prop} {μ : Nat → Nm} {M : Mem} {u v : Value} (hu : Rp p μ M s u) (hv : Rp p μ M t v) : cEq kd u v = some b := by
  unfold cqS at h
  split at h
  · rw [Rp.int_iff.1 hu, Rp.int_iff.1 hv]; exact h
  · rw [Rp.bool_iff.1 hu, Rp.bool_iff.1 hv]; exact h
  · cases h
theorem csqS_rep : ∀ {ks : List Bool} {ss ts : List SV} {b : Bool}, csqS ks ss ts = some b → ∀ {p : Nat → Prop} {μ : Nat → Nm} {M : Mem} {us vs : List Value}, Rps p μ M ss us → Rps p μ M ts vs → csEq ks us vs = some b
  | [], [], [], b, h, _, _, _, us, vs, hu, hv => by rw [Rps.nil_iff.1 hu, Rps.nil_iff.1 hv]; exact h
  | [], [], _ :: _, _, h, _, _, _, _, _, _, _ => by simp [csqS] at h
  | [], _ :: _, _, _, h, _, _, _, _, _, _, _ => by simp [csqS] at h
  | _ :: _, [], _, _, h, _, _, _, _, _, _, _ => by simp [csqS] at h
  | _ :: _, _ :: _, [], _, h, _, _, _, _, _, _, _ => by simp [csqS] at h
  | kd :: ks, s :: ss, t :: ts, b, h, p, μ, M, us, vs, hu, hv => by
    simp only [csqS] at h
    split at h
    · rename_i a b' h1 h2
      obtain ⟨u, us', rfl, hu1, hu2⟩ := Rps.cons_iff.1 hu
      obtain ⟨v, vs', rfl, hv1, hv2⟩ := Rps.cons_iff.1 hv
      simp only [csEq, cqS_rep h1 hu1 hv1, csqS_rep h2 hu2 hv2]
      exact h
    · cases h

theorem isEq_cases {op : BinOp} (h : isEq op = true) : op = .eql ∨ op = .neq := by
  cases op <;> simp [isEq] at h <;> simp

theorem s_eqv {op : BinOp} {t t' : TypeId} {x y : Operand} {x' y' : X} {ks : List Bool} (ho : o.op = .binOp op t x y t') (hop : isEq op = true) (ht : (∃ fs, P.underlying t = some (.struct fs)) ∨ ∃ n el, P.underlying t = some (.array n el)) (hks : plainEq P 10000 t = some ks)
    (hg : P.eqGuardType P.depth t = false) (hx : cX x = some x') (hy : cX y = some y') (he : sop E H k own (.eqv (isNeq op) ks x' y') = some e) : Sound P o E H k e := by
  simp only [sop] at he
  split at he <;> first | (cases he; done) | skip
  rename_i s s' h1 h2
  split at he <;> first | (cases he; done) | skip
  rename_i b hb
  injection he with he
  subst he
  refine ⟨OT.pure fun p μ M a w hk hS => ⟨.bool (bif isNeq op then !b else b), ?_, Rp.bool_iff.2 rfl⟩, sub_nil⟩
  obtain ⟨xs, e1, r1⟩ := Rp.agg_iff.1 (hk.get (by simp [ho, Op.operands]) hx h1)
  obtain ⟨ys, e2, r2⟩ := Rp.agg_iff.1 (hk.get (by simp [ho, Op.operands]) hy h2)
  have hc := csqS_rep hb r1 r2
  have heq := equalIn_run (P := P) (w := w) 10000 t ks _ _ b hks hc
  have hty : ∃ n, tySz P t = some (some n) := by
    rcases plainEq_size hks with ⟨t1, _⟩ | t1
    · exfalso
      obtain ⟨i, hi, _⟩ := plainEq_info hks
      rcases ht with ⟨fs, ht⟩ | ⟨n, el, ht⟩ <;> simp [tySz, ht, hi] at t1
    · exact ⟨_, t1⟩
  obtain ⟨n, hty⟩ := hty
  simp only [valOf, hty] at heq
  have hgu : (eqGuard op t x y (.agg xs) (.agg ys)).run P w = .ok () w := run_eqGuard_agg w op t x y xs ys hg
  rcases isEq_cases hop with rfl | rfl <;> simp [execOp, ho, e1, e2, hgu, binOp, Op.equal, Op.maxDepth, heq, isNeq]

theorem s_eqb {op : BinOp} {t t' : TypeId} {x y : Operand} {x' y' : X} (ho : o.op = .binOp op t x y t') (hop : isEq op = true) (ht : P.underlying t = some .bool)
    (hx : cX x = some x') (hy : cX y = some y') (he : sop E H k own (.eqb (isNeq op) x' y') = some e) : Sound P o E H k e := by
  simp only [sop] at he
  split at he <;> first | (cases he; done) | skip
  rename_i s s' h1 h2
  injection he with he
  subst he
  refine ⟨OT.pure fun p μ M a w hk hS => ⟨.bool (bif isNeq op then !(s == s') else s == s'), ?_, Rp.bool_iff.2 rfl⟩, sub_nil⟩
  have e1 := Rp.bool_iff.1 (hk.get (by simp [ho, Op.operands]) hx h1)
  have e2 := Rp.bool_iff.1 (hk.get (by simp [ho, Op.operands]) hy h2)
  have heq := run_equalIn_bool (P := P) w 9999 t s s' ht
  rcases isEq_cases hop with rfl | rfl <;> simp [execOp, ho, e1, e2, eqGuard_at_bool, binOp, Op.equal, Op.maxDepth, heq, isNeq]

theorem s_eqnil {op : BinOp} {t t' : TypeId} {x y : Operand} {x' : X} {kd : Nat} (ho : o.op = .binOp op t x y t') (hop : isEq op = true) (hy : nilKd P t y = some kd)
    (hx : cX x = some x') (he : sop E H k own (.eqnil (isNeq op) kd x') = some e) (hob : e.ob) : Sound P o E H k e := by
  have finF : ∀ (F : Hp) (hF : ∀ n ob, lk F n = some ob → H n = some ob) (b : Bool) (pp : Prop), (∀ (p : Nat → Prop) (μ : Nat → Nm) (M : Mem) (a : Act) (w : World), Known E o.op.operands p μ M a → SatF p μ M (lk F) w → (∀ d, (Op.equalIn (d + 1) t (a.eval x) (a.eval y)).run P w = .ok b w) ∧
        (∀ kd n, a.eval x ≠ .int kd n) ∧ (∀ q, a.eval x ≠ .string q) ∧ (∀ q n, a.eval x ≠ .float q n) ∧ (∀ q n m, a.eval x ≠ .complex q n m) ∧ eqGuard op t x y (a.eval x) (a.eval y) = Pure.pure ()) →
      Sound P o E H k ⟨.d (.bool (bif isNeq op then !b else b)), F, F, 0, pp⟩ := by
    intro F hF b pp h
    refine ⟨OT.pure fun p μ M a w hk hS => ⟨.bool (bif isNeq op then !b else b), ?_, Rp.bool_iff.2 rfl⟩, hF⟩
    obtain ⟨h0, n1, n2, n3, n4, n5⟩ := h p μ M a w hk hS
    have h1 := h0 9999
    clear h0
    have hb : (binOp op t (a.eval x) (a.eval y)).run P w = .ok (.bool (bif isNeq op then !b else b)) w := by
      generalize a.eval x = u at *
      generalize a.eval y = v at *
      rcases isEq_cases hop with rfl | rfl <;> cases u <;> first
        | exact absurd rfl (n1 _ _)
        | exact absurd rfl (n2 _)
        | exact absurd rfl (n3 _ _)
        | exact absurd rfl (n4 _ _ _)
        | (cases v <;> simp [binOp, Op.equal, Op.maxDepth, h1, isNeq])
    simp only [execOp, ho, Sem.run_bind, n5, Sem.run_pure, Result.andThen_ok, hb]
  have fin := finF [] sub_nil
  unfold nilKd at hy
  simp only [sop] at he
  split at hy <;> first | (cases hy; done) | skip
  all_goals rename_i hty
  all_goals injection hy with hy
  all_goals subst hy
  all_goals split at he <;> first | (cases he; done) | skip
  all_goals first | contradiction | skip
  all_goals first | (rename_i hs; injection he with he; subst he) | skip
  · have := fin true True fun p μ M a w hk hS => by
      have e1 : a.eval x = .pointer none := by simpa [RepD] using Rp.d_iff.1 (hk.get (by simp [ho, Op.operands]) hx hs)
      refine ⟨fun d => by rw [e1]; simp [Act.eval, Op.equalIn, run_underlying hty], ?_⟩
      rw [e1]
      simp [eqGuard_at_pointer]
    cases hn : isNeq op <;> simpa [hn] using this
  · rename_i n off _
    have := fin false True fun p μ M a w hk hS => by
      have e1 : a.eval x = .pointer (some ⟨(μ n).blk, off, none⟩) := (hk.get (by simp [ho, Op.operands]) hx hs).ptr_of
      refine ⟨fun d => by rw [e1]; simp [Act.eval, Op.equalIn, run_underlying hty], ?_⟩
      rw [e1]
      simp [eqGuard_at_pointer]
    cases hn : isNeq op <;> simpa [hn] using this
  · have := fin false True fun p μ M a w hk hS => by
      obtain ⟨b, q, e1⟩ : ∃ b q, a.eval x = .pointer (some ⟨b, q, none⟩) := by
        have := (hk.get (by simp [ho, Op.operands]) hx hs).rep
        simp only [Rep] at this
        obtain ⟨b, q, e1, _⟩ := this
        exact ⟨b, _, e1⟩
      refine ⟨fun d => by rw [e1]; simp [Act.eval, Op.equalIn, run_underlying hty], ?_⟩
      rw [e1]
      simp [eqGuard_at_pointer]
    cases hn : isNeq op <;> simpa [hn] using this
  · have := fin true True fun p μ M a w hk hS => by
      have e1 : a.eval x = .map none := by simpa [RepD] using Rp.d_iff.1 (hk.get (by simp [ho, Op.operands]) hx hs)
      refine ⟨fun d => by rw [e1]; simp [Act.eval, Op.equalIn, run_underlying hty], ?_⟩
      rw [e1]
      simp [eqGuard_at_map]
    cases hn : isNeq op <;> simpa [hn] using this
  · rename_i n _ hs
    split at he <;> first | (cases he; done) | skip
    · rename_i es c hH
      injection he with he
      subst he
      have := finF [(n, .map es c)] (sub_one hH) false True fun p μ M a w hk hS => by
        have hl : (μ n).live = true := hS.one.2.1.1
        have e1 : a.eval x = .map (some (μ n).blk) := by simpa [Rep, hl] using (hk.get (by simp [ho, Op.operands]) hx hs).rep
        refine ⟨fun d => by rw [e1]; simp [Act.eval, Op.equalIn, run_underlying hty], ?_⟩
        rw [e1]
        simp [eqGuard_at_map]
      cases hn : isNeq op <;> simpa [hn] using this
    · rename_i hH
      injection he with he
      subst he
      have := finF [(n, .nomap)] (sub_one hH) true True fun p μ M a w hk hS => by
        have hl : (μ n).live = false := hS.one.2.1
        have e1 : a.eval x = .map none := by simpa [Rep, hl] using (hk.get (by simp [ho, Op.operands]) hx hs).rep
        refine ⟨fun d => by rw [e1]; simp [Act.eval, Op.equalIn, run_underlying hty], ?_⟩
        rw [e1]
        simp [eqGuard_at_map]
      cases hn : isNeq op <;> simpa [hn] using this
  · have := fin true True fun p μ M a w hk hS => by
      have e1 : a.eval x = .nilFunc := by simpa [RepD] using Rp.d_iff.1 (hk.get (by simp [ho, Op.operands]) hx hs)
      refine ⟨fun d => by rw [e1]; simp [Act.eval, Op.equalIn, run_underlying hty], ?_⟩
      rw [e1]
      simp [eqGuard_at_nilFunc]
    cases hn : isNeq op <;> simpa [hn] using this
  · have := fin false True fun p μ M a w hk hS => by
      obtain ⟨as, cs, e1, _⟩ := Rp.fn_iff.1 (hk.get (by simp [ho, Op.operands]) hx hs)
      refine ⟨fun d => by rw [e1]; simp [Act.eval, Op.equalIn, run_underlying hty], ?_⟩
      rw [e1]
      simp [eqGuard_at_func]
    cases hn : isNeq op <;> simpa [hn] using this
  · have := fin true True fun p μ M a w hk hS => by
      have e1 : a.eval x = .slice none 0 0 := by simpa [RepD] using Rp.d_iff.1 (hk.get (by simp [ho, Op.operands]) hx hs)
      refine ⟨fun d => by rw [e1]; simp [Act.eval, Op.equalIn, run_underlying hty], ?_⟩
      rw [e1]
      simp [eqGuard_at_slice]
    cases hn : isNeq op <;> simpa [hn] using this
  · rename_i n len _
    have := fin false (len ≠ 0) fun p μ M a w hk hS => by
      obtain ⟨_, e1⟩ | ⟨_, h, _⟩ := (hk.get (by simp [ho, Op.operands]) hx hs).gs_of
      rotate_left
      · exact absurd h hob
      refine ⟨fun d => by rw [e1]; simp [Act.eval, Op.equalIn, run_underlying hty], ?_⟩
      rw [e1]
      simp [eqGuard_at_slice]
    cases hn : isNeq op <;> simpa [hn] using this
end
end Go.Sl
