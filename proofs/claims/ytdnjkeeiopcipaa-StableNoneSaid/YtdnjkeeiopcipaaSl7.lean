/-
  The machine does what 'sop' says: first part.
-/
import Derived.Test.YtdnjkeeiopcipaaSl6
set_option linter.unusedSimpArgs false
set_option linter.unusedSectionVars false
set_option linter.unusedVariables false
namespace Go.Sl
open Go.RowKit

def Sound (P : Program) (o : Oper) (E : Nat → Option SV) (H : Nat → Option Ob) (k : Nat) (e : Eff) : Prop :=
  OT P o E e.F (fun n => k ≤ n ∧ n < k + e.nk) e.v e.F' ∧ ∀ n ob, lk e.F n = some ob → H n = some ob

section
variable {P : Program} {o : Oper} {E : Nat → Option SV} {H : Nat → Option Ob} {k : Nat} {own : Bool} {e : Eff}

theorem sub_nil : ∀ n ob, lk ([] : Hp) n = some ob → H n = some ob := fun n ob h => by simp [lk_nil] at h
theorem sub_one {n : Nat} {ob : Ob} (h : H n = some ob) : ∀ m ob', lk [(n, ob)] m = some ob' → H m = some ob' := fun m ob' hm => by
  rw [lk_one] at hm
  split at hm
  · rename_i e
    simp at hm
    subst hm; subst e
    exact h
  · cases hm

theorem s_mv {x : Operand} {y : X} (ho : o.op = .move x ∨ o.op = .assign x) (hx : cX x = some y) (he : sop E H k own (.mv y) = some e) : Sound P o E H k e := by
  simp only [sop] at he
  split at he <;> first | (cases he; done) | skip
  rename_i s hs
  injection he with he
  subst he
  refine ⟨OT.pure fun p μ M a w hk hS => ⟨a.eval x, ?_, hk.get (by rcases ho with h | h <;> simp [h, Op.operands]) hx hs⟩, sub_nil⟩
  rcases ho with h | h <;> simp [execOp, h]

theorem s_pick {c x y : Operand} {c' x' y' : X} (ho : o.op = .pick c x y) (hc : cX c = some c') (hx : cX x = some x') (hy : cX y = some y') (he : sop E H k own (.pick c' x' y') = some e) : Sound P o E H k e := by
  simp only [sop] at he
  split at he <;> first | (cases he; done) | skip
  · rename_i hb
    split at he <;> first | (cases he; done) | skip
    rename_i s hs
    injection he with he
    subst he
    refine ⟨OT.pure fun p μ M a w hk hS => ⟨a.eval x, ?_, hk.get (by simp [ho, Op.operands]) hx hs⟩, sub_nil⟩
    have := Rp.bool_iff.1 (hk.get (by simp [ho, Op.operands]) hc hb)
    simp [execOp, ho, this, asBool]
  · rename_i hb
    split at he <;> first | (cases he; done) | skip
    rename_i s hs
    injection he with he
    subst he
    refine ⟨OT.pure fun p μ M a w hk hS => ⟨a.eval y, ?_, hk.get (by simp [ho, Op.operands]) hy hs⟩, sub_nil⟩
    have := Rp.bool_iff.1 (hk.get (by simp [ho, Op.operands]) hc hb)
    simp [execOp, ho, this, asBool]

theorem Rp.ptr_mk {p : Nat → Prop} {μ : Nat → Nm} {M : Mem} {n off : Nat} (hp : p n) : Rp p μ M (.ptr n off) (.pointer (some ⟨(μ n).blk, off, none⟩)) := fun μ' h => by
  simp [Rep, h n hp]
theorem Rp.ptr_of {p : Nat → Prop} {μ : Nat → Nm} {M : Mem} {n off : Nat} {v : Value} (h : Rp p μ M (.ptr n off) v) : v = .pointer (some ⟨(μ n).blk, off, none⟩) := by
  simpa [Rep] using h.rep

theorem Rp.gs_of {p : Nat → Prop} {μ : Nat → Nm} {M : Mem} {n len : Nat} {v : Value} (h : Rp p μ M (.gs n len) v) : ((μ n).live = true ∧ v = .slice (some ⟨(μ n).blk, 0, none⟩) len (μ n).cap) ∨ ((μ n).live = false ∧ len = 0 ∧ ∃ A, v = .slice A 0 0) := by
  simpa [Rep] using h.rep

theorem s_alloc {t : TypeId} {z : List SV} (ho : o.op = .alloc t) (hz : zCells P t = some z) (he : sop E H k own (.alloc t z) = some e) : Sound P o E H k e := by
  simp only [sop] at he
  injection he with he
  subst he
  refine ⟨OT.make fun p μ M a w hk hM => ?_, sub_nil⟩
  obtain ⟨v, hv, _, h2⟩ := zCells_rep hz (p := p) (μ := μ) (M := M)
  refine ⟨.pointer (some ⟨w.heap.size, 0, none⟩), .cells v.cells t, 0, ?_, fun p' μ' hp hμ hpk hk' => ⟨⟨rfl, v.cells, heap_new w _, ?_⟩, ?_⟩⟩
  · simp [execOp, ho, Instr.alloc, hv, newVar, newRow]
  · obtain ⟨v', hv', h1', _⟩ := zCells_rep hz (p := p') (μ := μ') (M := M)
    have := hv w; rw [hv' w] at this
    injection this with this
    subst this
    exact h1'
  · have := Rp.ptr_mk (μ := μ') (M := M) (n := k) (off := 0) hpk
    rwa [hk'] at this

theorem s_box {t : TypeId} {x : Operand} {y : X} (ho : o.op = .box t x) (hx : cX x = some y) (he : sop E H k own (.box t y) = some e) : Sound P o E H k e := by
  simp only [sop] at he
  split at he <;> first | (cases he; done) | skip
  rename_i s hs
  split at he <;> first | (cases he; done) | skip
  rename_i hone
  injection he with he
  subst he
  refine ⟨OT.make fun p μ M a w hk hM => ?_, sub_nil⟩
  have hv := hk.get (by simp [ho, Op.operands]) hx hs
  refine ⟨.pointer (some ⟨w.heap.size, 0, none⟩), .cells (a.eval x).cells t, 0, ?_, fun p' μ' hp hμ hpk hk' => ⟨⟨rfl, (a.eval x).cells, heap_new w _, ?_⟩, ?_⟩⟩
  · simp [execOp, ho, Instr.box, newVar, newRow]
  · exact (Rp.cells hone (hv.more hp hμ (Mem.le_refl M))).1
  · have := Rp.ptr_mk (μ := μ') (M := M) (n := k) (off := 0) hpk
    rwa [hk'] at this

theorem s_load {t : TypeId} {x : Operand} {y : X} {sz : Option Nat} (ho : o.op = .load t x) (hx : cX x = some y) (ht : tySz P t = some sz) (he : sop E H k own (.load sz y) = some e) (hob : e.ob) : Sound P o E H k e := by
  simp only [sop] at he
  split at he <;> first | (cases he; done) | skip
  rename_i s hs
  split at he <;> first | (cases he; done) | skip
  rename_i cs off F hc
  split at he <;> first | (cases he; done) | skip
  rename_i v hv
  injection he with he
  subst he
  refine ⟨OT.pure fun p μ M a w hk hS => ?_, cellsAt_sub hc⟩
  obtain ⟨b, q, e1, hr⟩ := cellsAt_reads hc (hk.get (by simp [ho, Op.operands]) hx hs) hS
  obtain ⟨u, hu, hr'⟩ := ldv_run ht hv hob hr
  refine ⟨u, ?_, hr'⟩
  simp [execOp, ho, Instr.loadAt, e1, Instr.sureAddr, hu]

theorem s_nilc {x : Operand} {y : X} (ho : o.op = .nilCheck x) (hx : cX x = some y) (he : sop E H k own (.nilc y) = some e) : Sound P o E H k e := by
  simp only [sop] at he
  split at he <;> first | (cases he; done) | skip
  · rename_i n off hs
    injection he with he
    subst he
    refine ⟨OT.pure fun p μ M a w hk hS => ⟨a.eval x, ?_, hk.get (by simp [ho, Op.operands]) hx hs⟩, sub_nil⟩
    have := (hk.get (by simp [ho, Op.operands]) hx hs).ptr_of
    simp [execOp, ho, this]
  · rename_i cs i hs
    injection he with he
    subst he
    refine ⟨OT.pure fun p μ M a w hk hS => ⟨a.eval x, ?_, hk.get (by simp [ho, Op.operands]) hx hs⟩, sub_nil⟩
    obtain ⟨b, q, e1, _⟩ := (by simpa [Rep] using (hk.get (by simp [ho, Op.operands]) hx hs).rep : ∃ b q, a.eval x = .pointer (some ⟨b, q + i, none⟩) ∧ RepR M b q cs)
    simp [execOp, ho, e1]

theorem s_not {t : TypeId} {x : Operand} {y : X} (ho : o.op = .unOp .not t x) (hx : cX x = some y) (he : sop E H k own (.not y) = some e) : Sound P o E H k e := by
  simp only [sop] at he
  split at he <;> first | (cases he; done) | skip
  rename_i b hs
  injection he with he
  subst he
  refine ⟨OT.pure fun p μ M a w hk hS => ⟨.bool !b, ?_, Rp.bool_iff.2 rfl⟩, sub_nil⟩
  have := Rp.bool_iff.1 (hk.get (by simp [ho, Op.operands]) hx hs)
  simp [execOp, ho, this, Op.unary]

theorem s_neg {t : TypeId} {x : Operand} {y : X} (ho : o.op = .unOp .neg t x) (hx : cX x = some y) (he : sop E H k own (.neg y) = some e) : Sound P o E H k e := by
  simp only [sop] at he
  split at he <;> first | (cases he; done) | skip
  rename_i kd n hs
  injection he with he
  subst he
  refine ⟨OT.pure fun p μ M a w hk hS => ⟨.int kd (kd.wrap (-n)), ?_, Rp.int_iff.2 rfl⟩, sub_nil⟩
  have := Rp.int_iff.1 (hk.get (by simp [ho, Op.operands]) hx hs)
  simp [execOp, ho, this, Op.unary, Op.intArith]

theorem s_conv {s d : TypeId} {x : Operand} {y : X} {ks kd : IntKind} (ho : o.op = .convert s d x) (h1 : P.underlying s = some (.int ks)) (h2 : P.underlying d = some (.int kd)) (hx : cX x = some y)
    (he : sop E H k own (.conv kd y) = some e) : Sound P o E H k e := by
  simp only [sop] at he
  split at he <;> first | (cases he; done) | skip
  rename_i kk n hs
  injection he with he
  subst he
  refine ⟨OT.pure fun p μ M a w hk hS => ⟨.int kd (kd.wrap n), ?_, Rp.int_iff.2 rfl⟩, sub_nil⟩
  have := Rp.int_iff.1 (hk.get (by simp [ho, Op.operands]) hx hs)
  simp [execOp, ho, this, convert, run_underlying h1, run_underlying h2, Conv.intToInt]

theorem s_ext {x : Operand} {y : X} {i : Nat} (ho : o.op = .extract x i) (hx : cX x = some y) (he : sop E H k own (.ext i y) = some e) : Sound P o E H k e := by
  simp only [sop] at he
  split at he <;> first | (cases he; done) | skip
  rename_i cs hs
  split at he <;> first | (cases he; done) | skip
  rename_i v hv
  injection he with he
  subst he
  refine ⟨OT.pure fun p μ M a w hk hS => ?_, sub_nil⟩
  obtain ⟨vs, e1, hr⟩ := Rp.tup_iff.1 (hk.get (by simp [ho, Op.operands]) hx hs)
  obtain ⟨u, hu, hu'⟩ := hr.get hv
  refine ⟨u, ?_, hu'⟩
  have : vs[i]? = some u := by simpa using hu
  simp [execOp, ho, e1, Instr.extract, this]

theorem s_len {c : Call} {t : TypeId} {x : Operand} {y : X} {el : TypeId} (ho : o.op = .call c) (hcal : c.callee = .builtin .len) (ha : c.args.toList = [x]) (hat : c.argTypes.toList = [t]) (ht : P.underlying t = some (.slice el))
    (hx : cX x = some y) (he : sop E H k own (.len y) = some e) : Sound P o E H k e := by
  have ha' : c.args = #[x] := by cases hh : c.args; simp [hh] at ha; simp [ha]
  have hat' : c.argTypes = #[t] := by cases hh : c.argTypes; simp [hh] at hat; simp [hat]
  have hin : x ∈ o.op.operands := by simp [ho, Op.operands, Call.operands, hcal, ha']
  have run : ∀ (a : Act) (w : World) (A : Option Addr) (n cp : Nat), a.eval x = .slice A n cp → (execOp a.eval o).run P w = .ok (.value (.int .i64 n)) w := by
    intro a w A n cp h
    simp [execOp, ho, resolve, hcal, ha', hat', invoke, builtin, h, Builtin.len_, run_underlying ht, goInt]
  simp only [sop] at he
  split at he <;> first | (cases he; done) | skip
  · rename_i n cs hs
    injection he with he
    subst he
    refine ⟨OT.pure fun p μ M a w hk hS => ⟨.int .i64 n, ?_, Rp.int_iff.2 rfl⟩, sub_nil⟩
    obtain ⟨A, cp, e1, _⟩ := (by simpa [RepD] using Rp.d_iff.1 (hk.get hin hx hs) : ∃ A cp, a.eval x = .slice A n cp ∧ _)
    exact run a w A n cp e1
  · rename_i hs
    injection he with he
    subst he
    refine ⟨OT.pure fun p μ M a w hk hS => ⟨.int .i64 0, ?_, Rp.int_iff.2 rfl⟩, sub_nil⟩
    have e1 : a.eval x = .slice none 0 0 := by simpa [RepD] using Rp.d_iff.1 (hk.get hin hx hs)
    exact run a w none 0 0 e1
  · rename_i m n hs
    injection he with he
    subst he
    refine ⟨OT.pure fun p μ M a w hk hS => ⟨.int .i64 n, ?_, Rp.int_iff.2 rfl⟩, sub_nil⟩
    rcases (hk.get hin hx hs).gs_of with ⟨_, e1⟩ | ⟨_, rfl, _, e1⟩
    · exact run a w _ n _ e1
    · exact run a w _ 0 _ e1
  · rename_i m off n hs
    injection he with he
    subst he
    refine ⟨OT.pure fun p μ M a w hk hS => ⟨.int .i64 n, ?_, Rp.int_iff.2 rfl⟩, sub_nil⟩
    obtain ⟨A, c, e1, _⟩ := (by simpa [Rep] using (hk.get hin hx hs).rep : ∃ A c, a.eval x = .slice (some A) n c ∧ _)
    exact run a w _ n _ e1

theorem s_mx {c : Call} {x y : Operand} {x' y' : X} (ho : o.op = .call c) (hcal : c.callee = .builtin .max) (ha : c.args.toList = [x, y])
    (hx : cX x = some x') (hy : cX y = some y') (he : sop E H k own (.mx x' y') = some e) : Sound P o E H k e := by
  have ha' : c.args = #[x, y] := by cases hh : c.args; simp [hh] at ha; simp [ha]
  simp only [sop] at he
  split at he <;> first | (cases he; done) | skip
  rename_i kk m kk' n h1 h2
  injection he with he
  subst he
  refine ⟨OT.pure fun p μ M a w hk hS => ⟨_, ?_, Rp.int_iff.2 rfl⟩, sub_nil⟩
  have e1 := Rp.int_iff.1 (hk.get (by simp [ho, Op.operands, Call.operands, hcal, ha']) hx h1)
  have e2 := Rp.int_iff.1 (hk.get (by simp [ho, Op.operands, Call.operands, hcal, ha']) hy h2)
  simp [execOp, ho, resolve, hcal, ha', invoke, builtin, e1, e2, Builtin.max_, Builtin.max2]
theorem s_mn {c : Call} {x y : Operand} {x' y' : X} (ho : o.op = .call c) (hcal : c.callee = .builtin .min) (ha : c.args.toList = [x, y])
    (hx : cX x = some x') (hy : cX y = some y') (he : sop E H k own (.mn x' y') = some e) : Sound P o E H k e := by
  have ha' : c.args = #[x, y] := by cases hh : c.args; simp [hh] at ha; simp [ha]
  simp only [sop] at he
  split at he <;> first | (cases he; done) | skip
  rename_i kk m kk' n h1 h2
  injection he with he
  subst he
  refine ⟨OT.pure fun p μ M a w hk hS => ⟨_, ?_, Rp.int_iff.2 rfl⟩, sub_nil⟩
  have e1 := Rp.int_iff.1 (hk.get (by simp [ho, Op.operands, Call.operands, hcal, ha']) hx h1)
  have e2 := Rp.int_iff.1 (hk.get (by simp [ho, Op.operands, Call.operands, hcal, ha']) hy h2)
  simp [execOp, ho, resolve, hcal, ha', invoke, builtin, e1, e2, Builtin.min_, Builtin.min2]

theorem s_mkf {f : Fn} {a c : Array Operand} {a' c' : List X} (ho : o.op = .makeFunc f a c) (ha : cXs a.toList = some a') (hc : cXs c.toList = some c') (he : sop E H k own (.mkf f a' c') = some e) : Sound P o E H k e := by
  simp only [sop] at he
  split at he <;> first | (cases he; done) | skip
  rename_i s s' h1 h2
  injection he with he
  subst he
  refine ⟨OT.pure fun p μ M ac w hk hS => ⟨.func f (a.map ac.eval) (c.map ac.eval), by simp [execOp, ho, Instr.makeFunc], Rp.fn_iff.2 ⟨_, _, rfl, ?_, ?_⟩⟩, sub_nil⟩
  · simpa using hk.gets (os := a.toList) (fun x hx => by rw [ho]; simp only [Op.operands, Array.mem_append]; exact .inl (by simpa using hx)) ha h1
  · simpa using hk.gets (os := c.toList) (fun x hx => by rw [ho]; simp only [Op.operands, Array.mem_append]; exact .inr (by simpa using hx)) hc h2

theorem s_mkm {t : TypeId} (ho : o.op = .makeMap t none) (he : sop E H k own .mkm = some e) : Sound P o E H k e := by
  simp only [sop] at he
  injection he with he
  subst he
  refine ⟨OT.make fun p μ M a w hk hM => ⟨.map (some w.heap.size), .map #[] 0, 0, ?_, fun p' μ' hp hμ hpk hk' => ⟨⟨rfl, #[], heap_new w _, by simp [RpE]⟩, fun ν hν => ?_⟩⟩, sub_nil⟩
  · simp [execOp, ho, Instr.makeMap]
  · exact .inl (by simp [hν k hpk, hk'])

/-! ### addresses -/
theorem mvp_rep {n : Nat} {s v : SV} (h : mvp n s = some v) {p : Nat → Prop} {μ : Nat → Nm} {M : Mem} {u : Value} (hu : Rp p μ M s u) :
    ∃ b q, u = .pointer (some ⟨b, q, none⟩) ∧ Rp p μ M v (.pointer (some ⟨b, q + n, none⟩)) := by
  cases s <;> simp [mvp] at h
  case ptr m off =>
    subst h
    refine ⟨(μ m).blk, off, hu.ptr_of, fun ν hν => ?_⟩
    have h1 := hu ν hν
    have h2 := hu.rep
    simp only [Rep] at h1 h2 ⊢
    rw [h2] at h1
    injection h1 with h1
    injection h1 with h1
    injection h1 with h1
    rw [h1]
  case vp cs i =>
    subst h
    obtain ⟨b, q, e1, hr⟩ := (by simpa [Rep] using hu.rep : ∃ b q, u = .pointer (some ⟨b, q + i, none⟩) ∧ RepR M b q cs)
    refine ⟨b, q + i, e1, fun ν hν => ?_⟩
    simp only [Rep]
    exact ⟨b, q, by rw [Nat.add_assoc], hr⟩

theorem s_fld {s : TypeId} {x : Operand} {y : X} {f : Nat} {fs : Array Field} {fl : Field} {i : TypeInfo} (ho : o.op = .fieldAddr s x f) (hs : P.underlying s = some (.struct fs)) (hf : fs[f]? = some fl)
    (hi : P.info? fl.type = some i) (hi0 : ¬ i.size = 0) (hx : cX x = some y) (he : sop E H k own (.fld fl.offset y) = some e) : Sound P o E H k e := by
  simp only [sop] at he
  split at he <;> first | (cases he; done) | skip
  rename_i sv hsv
  split at he <;> first | (cases he; done) | skip
  rename_i v hv
  injection he with he
  subst he
  refine ⟨OT.pure fun p μ M a w hk hS => ?_, sub_nil⟩
  obtain ⟨b, q, e1, hr⟩ := mvp_rep hv (hk.get (by simp [ho, Op.operands]) hx hsv)
  refine ⟨_, ?_, hr⟩
  simp [execOp, ho, Instr.fieldAt, run_underlying hs, hf, e1, Instr.sureAddr, fieldPlace, run_size hi, hi0, addr_add]

theorem s_idxA {t el : TypeId} {n : Nat} {x i : Operand} {y j : X} {ti : TypeInfo} (ho : o.op = .indexAddr t x i) (ht : P.underlying t = some (.array n el)) (hi : P.info? el = some ti) (hx : cX x = some y) (hj : cX i = some j)
    (he : sop E H k own (.idxA n ti.size y j) = some e) (hob : e.ob) : Sound P o E H k e := by
  simp only [sop] at he
  split at he <;> first | (cases he; done) | skip
  rename_i s kk m hs hm
  split at he <;> first | (cases he; done) | skip
  rename_i v hv
  injection he with he
  subst he
  refine ⟨OT.pure fun p μ M a w hk hS => ?_, sub_nil⟩
  obtain ⟨b, q, e1, hr⟩ := mvp_rep hv (hk.get (by simp [ho, Op.operands]) hx hs)
  have e2 := Rp.int_iff.1 (hk.get (by simp [ho, Op.operands]) hj hm)
  refine ⟨_, ?_, hr⟩
  simp [execOp, ho, Instr.indexAt, run_underlying ht, e1, e2, Instr.sureAddr, asIntOf, run_size hi, hob.1, hob.2, addr_add]

theorem s_idxS {t el : TypeId} {x i : Operand} {y j : X} {ti : TypeInfo} (ho : o.op = .indexAddr t x i) (ht : P.underlying t = some (.slice el)) (hi : P.info? el = some ti) (hx : cX x = some y) (hj : cX i = some j)
    (he : sop E H k own (.idxS ti.size y j) = some e) (hob : e.ob) : Sound P o E H k e := by
  simp only [sop] at he
  split at he <;> first | (cases he; done) | skip
  · rename_i n cs kk m hs hm
    injection he with he
    subst he
    refine ⟨OT.pure fun p μ M a w hk hS => ?_, sub_nil⟩
    have hob1 : 0 ≤ m := hob.1
    have hob2 : m < (n : Int) := hob.2
    obtain ⟨A, cp, e1, _, _, h4⟩ := (by simpa [RepD] using Rp.d_iff.1 (hk.get (by simp [ho, Op.operands]) hx hs) : ∃ A cp, a.eval x = .slice A n cp ∧ n ≤ cp ∧ (n = 0 → cs = []) ∧ (0 < n → ∃ b q, A = some ⟨b, q, none⟩ ∧ RepR M b q cs))
    obtain ⟨b, q, rfl, hr⟩ := h4 (by omega)
    have e2 := Rp.int_iff.1 (hk.get (by simp [ho, Op.operands]) hj hm)
    refine ⟨.pointer (some ⟨b, q + m.toNat * ti.size, none⟩), ?_, fun ν hν => ?_⟩
    · simp [execOp, ho, Instr.indexAt, run_underlying ht, e1, e2, asIntOf, run_size hi, hob1, hob2, addr_add]
    · simp only [Rep]
      exact ⟨b, q, rfl, hr⟩
  · rename_i n l kk m hs hm
    injection he with he
    subst he
    refine ⟨OT.pure fun p μ M a w hk hS => ?_, sub_nil⟩
    have hob1 : 0 ≤ m := hob.1
    have hob2 : m < (l : Int) := hob.2
    have hs' := hk.get (by simp [ho, Op.operands]) hx hs
    obtain ⟨hl, e1⟩ : (μ n).live = true ∧ a.eval x = .slice (some ⟨(μ n).blk, 0, none⟩) l (μ n).cap := by
      rcases hs'.gs_of with h | ⟨_, h, _⟩
      · exact h
      · omega
    have e2 := Rp.int_iff.1 (hk.get (by simp [ho, Op.operands]) hj hm)
    refine ⟨.pointer (some ⟨(μ n).blk, 0 + m.toNat * ti.size, none⟩), ?_, fun ν hν => ?_⟩
    · simp [execOp, ho, Instr.indexAt, run_underlying ht, e1, e2, asIntOf, run_size hi, hob1, hob2, addr_add]
    · have := hs' ν hν
      rw [e1] at this
      simp only [Rep] at this ⊢
      rcases this with ⟨_, this⟩ | ⟨_, h, _⟩
      · injection this with t1
        injection t1 with t1
        injection t1 with t1
        rw [t1]
        simp
      · omega
  · rename_i n off l kk m hs hm
    injection he with he
    subst he
    refine ⟨OT.pure fun p μ M a w hk hS => ?_, sub_nil⟩
    have hob1 : 0 ≤ m := hob.1
    have hob2 : m < (l : Int) := hob.2
    have hs' := hk.get (by simp [ho, Op.operands]) hx hs
    obtain ⟨A, c, e1, _, hA⟩ := (by simpa [Rep] using hs'.rep : ∃ A c, a.eval x = .slice (some A) l c ∧ l ≤ c ∧ (¬ l = 0 → A = ⟨(μ n).blk, off, none⟩))
    have hA := hA (by omega)
    subst hA
    have e2 := Rp.int_iff.1 (hk.get (by simp [ho, Op.operands]) hj hm)
    refine ⟨.pointer (some ⟨(μ n).blk, off + m.toNat * ti.size, none⟩), ?_, fun ν hν => ?_⟩
    · simp [execOp, ho, Instr.indexAt, run_underlying ht, e1, e2, asIntOf, run_size hi, hob1, hob2, addr_add]
    · have := hs' ν hν
      rw [e1] at this
      simp only [Rep] at this ⊢
      obtain ⟨A, c', h1, _, h2⟩ := this
      injection h1 with h1
      injection h1 with h1
      have h2 := h2 (by omega)
      rw [← h1] at h2
      injection h2 with h2
      rw [h2]

/-! ### whole numbers -/
theorem shr_fdiv (a : Int) (n : Nat) : a.fdiv (2 ^ n) = a / 2 ^ n := by
  rw [Int.fdiv_eq_ediv_of_nonneg]
  exact Int.le_of_lt (Int.pow_pos (by decide))
theorem bin_run {op : BinOp} {t : TypeId} {w : World} {ka kb : IntKind} {a b : Int} {v : SV} {ob : Prop} (hk : binK op ka kb = true) (h : binV op ka a b = some (v, ob)) (hob : ob) :
    ∃ u, (binOp op t (.int ka a) (.int kb b)).run P w = .ok u w ∧ ∀ (p : Nat → Prop) (μ : Nat → Nm) (M : Mem), Rp p μ M v u := by
  cases op <;> simp [binK] at hk <;> simp only [binV, Option.some.injEq, Prod.mk.injEq] at h <;> obtain ⟨rfl, rfl⟩ := h <;> (try subst hk)
  case add => exact ⟨_, by rw [binOp_add]; rfl, fun _ _ _ => Rp.int_iff.2 rfl⟩
  case sub => exact ⟨_, by rw [binOp_sub]; rfl, fun _ _ _ => Rp.int_iff.2 rfl⟩
  case mul => exact ⟨_, by rw [binOp_mul]; rfl, fun _ _ _ => Rp.int_iff.2 rfl⟩
  case quo => exact ⟨_, by rw [binOp_quo]; simp [Op.intDiv, hob], fun _ _ _ => Rp.int_iff.2 rfl⟩
  case rem => exact ⟨_, by rw [binOp_rem]; simp [Op.intDiv, hob], fun _ _ _ => Rp.int_iff.2 rfl⟩
  case and => exact ⟨_, by rw [binOp_and]; rfl, fun _ _ _ => Rp.int_iff.2 rfl⟩
  case or => exact ⟨_, by rw [binOp_or]; rfl, fun _ _ _ => Rp.int_iff.2 rfl⟩
  case xor => exact ⟨_, by rw [binOp_xor]; rfl, fun _ _ _ => Rp.int_iff.2 rfl⟩
  case andNot => exact ⟨_, by rw [binOp_andNot]; rfl, fun _ _ _ => Rp.int_iff.2 rfl⟩
  case shl => exact ⟨_, by rw [binOp_shl, shift_shl ka kb a b hob.1 hob.2]; rfl, fun _ _ _ => Rp.int_iff.2 rfl⟩
  case shr => exact ⟨_, by rw [binOp_shr, shift_shr ka kb a b hob.1 hob.2]; rfl, fun _ _ _ => Rp.int_iff.2 rfl⟩
  case eql => exact ⟨_, by rw [binOp_eql]; rfl, fun _ _ _ => Rp.bool_iff.2 rfl⟩
  case neq => exact ⟨_, by rw [binOp_neq]; rfl, fun _ _ _ => Rp.bool_iff.2 rfl⟩
  case lss => exact ⟨_, by rw [binOp_lss]; rfl, fun _ _ _ => Rp.bool_iff.2 rfl⟩
  case leq => exact ⟨_, by rw [binOp_leq]; rfl, fun _ _ _ => Rp.bool_iff.2 rfl⟩
  case gtr => exact ⟨_, by rw [binOp_gtr]; rfl, fun _ _ _ => Rp.bool_iff.2 rfl⟩
  case geq => exact ⟨_, by rw [binOp_geq]; rfl, fun _ _ _ => Rp.bool_iff.2 rfl⟩

theorem s_bin {op : BinOp} {t t' : TypeId} {x y : Operand} {x' y' : X} (ho : o.op = .binOp op t x y t') (hx : cX x = some x') (hy : cX y = some y') (he : sop E H k own (.bin op x' y') = some e) (hob : e.ob) : Sound P o E H k e := by
  simp only [sop] at he
  split at he <;> first | (cases he; done) | skip
  rename_i ka a kb b h1 h2
  split at he <;> first | (cases he; done) | skip
  rename_i hkk
  split at he <;> first | (cases he; done) | skip
  rename_i v ob hv
  injection he with he
  subst he
  refine ⟨OT.pure fun p μ M ac w hk hS => ?_, sub_nil⟩
  have e1 := Rp.int_iff.1 (hk.get (by simp [ho, Op.operands]) hx h1)
  have e2 := Rp.int_iff.1 (hk.get (by simp [ho, Op.operands]) hy h2)
  obtain ⟨u, hu, hr⟩ := bin_run (P := P) (t := t) (w := w) hkk hv hob
  refine ⟨u, ?_, hr p μ M⟩
  simp [execOp, ho, e1, e2, eqGuard_at_int, hu]
end
end Go.Sl
