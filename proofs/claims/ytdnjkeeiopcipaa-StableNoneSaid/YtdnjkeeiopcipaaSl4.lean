/-
  The plain operations: how they are read off the program, what they give, and that the machine does so.
-/
import Derived.Test.YtdnjkeeiopcipaaSl3
set_option linter.unusedSimpArgs false
set_option linter.unusedSectionVars false
set_option linter.unusedVariables false
namespace Go.Sl
open Go.RowKit

def tySz (P : Program) (t : TypeId) : Option (Option Nat) :=
  match P.underlying t, P.info? t with
  | some (.struct _), some i => some (some i.size)
  | some (.array _ _), some i => some (some i.size)
  | some _, some _ => some none
  | _, _ => none
def zCells (P : Program) (t : TypeId) : Option (List SV) :=
  match P.info? t with
  | some i => match i.zero with
    | some z => cCs z.cells.toList
    | none => none
  | none => none

section
variable {P : Program} {w : World}

theorem run_info {t : TypeId} {i : TypeInfo} (h : P.info? t = some i) : (typeInfo t).run P w = .ok i w := by simp [typeInfo, h]
theorem run_size {t : TypeId} {i : TypeInfo} (h : P.info? t = some i) : (sizeOf t).run P w = .ok i.size w := by simp [sizeOf, run_info h]
theorem run_zero {t : TypeId} {i : TypeInfo} {z : Value} (h : P.info? t = some i) (hz : i.zero = some z) : (zeroValue t).run P w = .ok z w := by simp [zeroValue, run_info h, hz]

theorem tySz_none {t : TypeId} (h : tySz P t = some none) : (isAgg t).run P w = .ok false w := by
  unfold tySz at h
  cases hu : P.underlying t with
  | none => simp [hu] at h
  | some d =>
    rw [hu] at h
    simp only [isAgg, Sem.run_bind, run_underlying hu, Result.andThen_ok]
    cases hi : P.info? t <;> rw [hi] at h <;> cases d <;> simp at h ⊢
theorem tySz_some {t : TypeId} {n : Nat} (h : tySz P t = some (some n)) : (isAgg t).run P w = .ok true w ∧ (sizeOf t).run P w = .ok n w := by
  unfold tySz at h
  cases hu : P.underlying t with
  | none => simp [hu] at h
  | some d =>
    rw [hu] at h
    simp only [isAgg, Sem.run_bind, run_underlying hu, Result.andThen_ok]
    cases hi : P.info? t with
    | none => rw [hi] at h; cases d <;> simp at h
    | some i =>
      rw [hi] at h
      have hs : (sizeOf t).run P w = .ok i.size w := run_size hi
      cases d <;> simp at h ⊢ <;> (subst h; exact hs)

theorem run_loadVar_one {t : TypeId} {a : Addr} {v : Value} (h : tySz P t = some none) (hc : w.cell? a = some v) : (loadVar t a).run P w = .ok v w := by
  simp only [loadVar, Sem.run_bind, tySz_none h, Result.andThen_ok, Bool.false_eq_true, if_false, run_load, hc]
theorem run_loadVar_agg {t : TypeId} {a : Addr} {cs : List Value} (h : tySz P t = some (some cs.length)) (hc : ∀ (j : Nat) (v : Value), cs[j]? = some v → w.cell? (a.add j) = some v) :
    (loadVar t a).run P w = .ok (.agg cs.toArray) w := by
  simp only [loadVar, Sem.run_bind, (tySz_some h).1, (tySz_some h).2, Result.andThen_ok, if_true, run_loadCells_list w a cs hc, Sem.run_pure]

theorem addr_add (b o n : Nat) : Addr.add ⟨b, o, none⟩ n = ⟨b, o + n, none⟩ := Addr.add_lit b o n

theorem cell_of {b : Nat} {vs : Array Value} {t : TypeId} {fr : Nat × Nat} (h : w.heap[b]? = some (.cells vs t fr)) (i : Nat) : w.cell? ⟨b, i, none⟩ = vs[i]? := by
  simp [World.cell?, h]

theorem zCells_rep {t : TypeId} {z : List SV} (h : zCells P t = some z) {p : Nat → Prop} {μ : Nat → Nm} {M : Mem} : ∃ (v : Value), (∀ w : World, (zeroValue t).run P w = .ok v w) ∧ Rps p μ M z v.cells.toList ∧ z.all SV.isOne = true := by
  unfold zCells at h
  split at h
  · rename_i i hi
    split at h
    · rename_i z' hz
      obtain ⟨a, b⟩ := cCs_rep (p := p) (μ := μ) (M := M) h
      exact ⟨z', fun w => run_zero hi hz, a, b⟩
    · cases h
  · cases h

theorem SatF.one {p : Nat → Prop} {μ : Nat → Nm} {M : Mem} {n : Nat} {ob : Ob} (h : SatF p μ M (lk [(n, ob)]) w) : p n ∧ ObRep p μ M w (μ n) ob ∧ ((μ n).live = true → ∀ o, M (μ n).blk o = none) := h.obs n ob (by simp [lk_one])

/-- The cells that a pointer leads to: of an object by its name, or of memory that nobody writes. -/
def cellsAt (H : Nat → Option Ob) : SV → Option (List SV × Nat × Hp)
  | .ptr n off => match H n with
    | some (.box t cs) => some (cs, off, [(n, .box t cs)])
    | some (.arr e sz len cs) => some (cs, off, [(n, .arr e sz len cs)])
    | _ => none
  | .vp cs i => some (cs.map .d, i, [])
  | _ => none

theorem cellsAt_sub {H : Nat → Option Ob} {s : SV} {cs : List SV} {off : Nat} {F : Hp} (h : cellsAt H s = some (cs, off, F)) : ∀ n ob, lk F n = some ob → H n = some ob := by
  intro n ob hn
  unfold cellsAt at h
  split at h
  · split at h <;> simp at h <;> rename_i hh <;> obtain ⟨_, _, rfl⟩ := h <;> rw [lk_one] at hn <;> split at hn <;> simp at hn <;> subst_vars <;> exact hh
  · simp at h
    obtain ⟨_, _, rfl⟩ := h
    simp [lk_nil] at hn
  · cases h

theorem cellsAt_reads {H : Nat → Option Ob} {s : SV} {cs : List SV} {off : Nat} {F : Hp} (h : cellsAt H s = some (cs, off, F)) {p : Nat → Prop} {μ : Nat → Nm} {M : Mem} {v : Value}
    (hv : Rp p μ M s v) (hS : SatF p μ M (lk F) w) : ∃ b o, v = .pointer (some ⟨b, o + off, none⟩) ∧ ∀ (i : Nat) (c : SV), cs[i]? = some c → ∃ u, w.cell? ⟨b, o + i, none⟩ = some u ∧ Rp p μ M c u := by
  unfold cellsAt at h
  split at h
  · rename_i n off'
    have hv' := hv.rep
    simp only [Rep] at hv'
    split at h
    · rename_i t cs' hh
      simp at h
      obtain ⟨rfl, rfl, rfl⟩ := h
      obtain ⟨_, ⟨_, vs, hb, hr⟩, _⟩ := hS.one
      refine ⟨(μ n).blk, 0, by rw [hv']; simp, fun i c hi => ?_⟩
      obtain ⟨u, hu, hc⟩ := hr.get hi
      exact ⟨u, by rw [cell_of hb]; simpa using hu, hc⟩
    · rename_i e sz len cs' hh
      simp at h
      obtain ⟨rfl, rfl, rfl⟩ := h
      obtain ⟨_, ⟨_, _, rfl⟩ | ⟨_, vs, hb, _, _, _, _, hr⟩, _⟩ := hS.one
      · exact ⟨(μ n).blk, 0, by rw [hv']; simp, fun i c hi => by simp at hi⟩
      refine ⟨(μ n).blk, 0, by rw [hv']; simp, fun i c hi => ?_⟩
      obtain ⟨u, hu, hc⟩ := hr.get hi
      refine ⟨u, ?_, hc⟩
      rw [cell_of hb]
      rw [List.getElem?_take] at hu
      split at hu
      · simpa using hu
      · cases hu
    · cases h
  · rename_i cs' i'
    simp at h
    obtain ⟨rfl, rfl, rfl⟩ := h
    obtain ⟨b, o, rfl, hr⟩ := (by simpa [Rep] using hv.rep : ∃ b o, v = .pointer (some ⟨b, o + i', none⟩) ∧ RepR M b o cs')
    refine ⟨b, o, rfl, fun i c hi => ?_⟩
    rw [List.getElem?_map] at hi
    obtain ⟨x, hx, rfl⟩ := Option.map_eq_some_iff.1 hi
    obtain ⟨u, hu, hd⟩ := hr.get hx
    exact ⟨u, hS.mem b _ u hu, Rp.d_iff.2 hd⟩
  · cases h

/-- What a load gives. -/
def ldv (cs : List SV) (off : Nat) : Option Nat → Option SV
  | none => cs[off]?
  | some m => some (.agg ((cs.drop off).take m))
def ldo (cs : List SV) (off : Nat) : Option Nat → Prop
  | none => True
  | some m => off + m ≤ cs.length

theorem ldv_run {t : TypeId} {sz : Option Nat} (ht : tySz P t = some sz) {cs : List SV} {off b o : Nat} {s : SV} (h : ldv cs off sz = some s) (hle : ldo cs off sz) {p : Nat → Prop} {μ : Nat → Nm} {M : Mem}
    (hc : ∀ (i : Nat) (c : SV), cs[i]? = some c → ∃ u, w.cell? ⟨b, o + i, none⟩ = some u ∧ Rp p μ M c u) : ∃ v, (loadVar t ⟨b, o + off, none⟩).run P w = .ok v w ∧ Rp p μ M s v := by
  cases sz with
  | none =>
    obtain ⟨u, hu, hr⟩ := hc off s h
    exact ⟨u, run_loadVar_one ht hu, hr⟩
  | some m =>
    simp only [ldo] at hle
    · simp [ldv] at h
      subst h
      have key : ∀ (l : List SV) (q : Nat), (∀ (i : Nat) (c : SV), l[i]? = some c → ∃ u, w.cell? ⟨b, q + i, none⟩ = some u ∧ Rp p μ M c u) →
          ∃ vs : List Value, Rps p μ M l vs ∧ ∀ (j : Nat) (u : Value), vs[j]? = some u → w.cell? ⟨b, q + j, none⟩ = some u := by
        intro l
        induction l with
        | nil => intro q _; exact ⟨[], Rps.nil_iff.2 rfl, fun j u h => by simp at h⟩
        | cons c l ih =>
          intro q hq
          obtain ⟨u, hu, hr⟩ := hq 0 c rfl
          obtain ⟨vs, hvs, hcs⟩ := ih (q + 1) fun i c' hi => by
            have := hq (i + 1) c' (by simpa using hi)
            rwa [show q + (i + 1) = q + 1 + i by omega] at this
          refine ⟨u :: vs, Rps.cons_iff.2 ⟨u, vs, rfl, hr, hvs⟩, fun j x hj => ?_⟩
          cases j with
          | zero => simp at hj; subst hj; simpa using hu
          | succ j =>
            have := hcs j x (by simpa using hj)
            rwa [show q + 1 + j = q + (j + 1) by omega] at this
      obtain ⟨vs, hvs, hcell⟩ := key ((cs.drop off).take m) (o + off) fun i c hi => by
        rw [List.getElem?_take] at hi
        split at hi
        · rw [List.getElem?_drop] at hi
          have := hc (off + i) c hi
          rwa [show o + (off + i) = o + off + i by omega] at this
        · cases hi
      have hlen : vs.length = m := by
        rw [hvs.length, List.length_take, List.length_drop]; omega
      subst hlen
      exact ⟨.agg vs.toArray, run_loadVar_agg ht fun j u hj => by rw [addr_add]; exact hcell j u hj, Rp.agg_iff.2 ⟨vs.toArray, rfl, by simpa using hvs⟩⟩

/-- A store over the cells of a block of the call's own. -/
def spl (cs : List SV) (o : Nat) : List SV → List SV
  | [c] => cs.set o c
  | vs => cs.take o ++ vs ++ cs.drop (o + vs.length)
def splV (cs : List Value) (o : Nat) (vs : List Value) : List Value := cs.take o ++ vs ++ cs.drop (o + vs.length)
theorem set_split {α : Type} : ∀ (cs : List α) (o : Nat) (c : α), o < cs.length → cs.set o c = cs.take o ++ [c] ++ cs.drop (o + 1)
  | [], o, c, h => by simp at h
  | x :: xs, 0, c, _ => by simp
  | x :: xs, o + 1, c, h => by
    have := set_split xs o c (by simpa using h)
    simp [this]
theorem spl_eq {cs vs : List SV} {o : Nat} (h : o + vs.length ≤ cs.length) : spl cs o vs = cs.take o ++ vs ++ cs.drop (o + vs.length) := by
  unfold spl
  split
  · rename_i c
    simp only [List.length_singleton] at h ⊢
    exact set_split cs o c (by omega)
  · rfl
theorem Rps.spl {p : Nat → Prop} {μ : Nat → Nm} {M : Mem} {cs ds : List SV} {vs us : List Value} {o : Nat} (h : Rps p μ M cs vs) (k : Rps p μ M ds us) (hl : o + ds.length ≤ cs.length) : Rps p μ M (spl cs o ds) (splV vs o us) := by
  rw [spl_eq hl]
  unfold splV
  rw [k.length]
  exact ((h.take o).append k).append (h.drop _)

theorem splV_step : ∀ (cs : List Value) (k : Nat) (u : Value) (us : List Value), k < cs.length → splV (cs.set k u) (k + 1) us = splV cs k (u :: us)
  | [], k, u, us, h => by simp at h
  | x :: xs, 0, u, us, _ => by simp [splV, Nat.add_comm]
  | x :: xs, k + 1, u, us, h => by
    have := splV_step xs k u us (by simpa using h)
    simp only [splV, List.length_cons] at this ⊢
    simp only [List.set_cons_succ, List.take_succ_cons, List.cons_append, List.cons.injEq, true_and]
    rw [show k + 1 + 1 + us.length = (k + 1 + us.length) + 1 by omega, show k + 1 + (us.length + 1) = (k + (us.length + 1)) + 1 by omega, List.drop_succ_cons, List.drop_succ_cons]
    exact this
theorem run_storeCells {b : Nat} {t : TypeId} : ∀ (us : List Value) (vs : Array Value) (w : World) (o i : Nat), w.heap[b]? = some (.cells vs t (0, 0)) → o + i + us.length ≤ vs.size → (∀ u ∈ us, u.oneCell' = true) →
    ∃ w', (storeCells ⟨b, o, none⟩ us i).run P w = .ok () w' ∧ w'.heap[b]? = some (.cells (splV vs.toList (o + i) us).toArray t (0, 0)) ∧ (∀ c, c ≠ b → w'.heap[c]? = w.heap[c]?) ∧
      w'.heap.size = w.heap.size ∧ w'.os = w.os ∧ Tape w w' ∧ w'.output = w.output
  | [], vs, w, o, i, hb, _, _ => by
    refine ⟨w, by simp [storeCells], ?_, fun _ _ => rfl, rfl, rfl, Tape.refl _, rfl⟩
    simp [splV, hb]
  | u :: us, vs, w, o, i, hb, hl, h1 => by
    simp only [List.length_cons] at hl
    have hlt : o + i < vs.size := by omega
    have hc : w.cell? ⟨b, o + i, none⟩ = some vs[o + i] := by rw [cell_of hb, Array.getElem?_eq_getElem hlt]
    have hz : w.frozen? ⟨b, o + i, none⟩ = false := by simp [World.frozen?, hb]
    have hs : (store ⟨b, o + i, none⟩ u).run P w = .ok () (w.setCell ⟨b, o + i, none⟩ u) := by
      rw [run_store P w _ u .plain (h1 u (by simp))]
      simp [hc, hz]
    have hb' : (w.setCell ⟨b, o + i, none⟩ u).heap[b]? = some (.cells (vs.setIfInBounds (o + i) u) t (0, 0)) := by
      simp [World.setCell, Array.getElem?_modify, hb]
    obtain ⟨w', hr, h2, h3, h4, h5, h6, h7⟩ := run_storeCells us (vs.setIfInBounds (o + i) u) (w.setCell ⟨b, o + i, none⟩ u) o (i + 1) hb' (by simp; omega) fun x hx => h1 x (by simp [hx])
    refine ⟨w', ?_, ?_, fun c hc => (h3 c hc).trans (Below.heap_setCell w _ u c (by simpa using hc)), by simpa using h4, h5, h6, h7⟩
    · simp only [storeCells, addr_add, Sem.run_bind, hs, Result.andThen_ok, hr]
    · rw [h2]
      congr 3
      rw [Array.toList_setIfInBounds, show o + (i + 1) = o + i + 1 by omega]
      exact splV_step vs.toList (o + i) u us (by simpa using hlt)
end
end Go.Sl
