/-
  A part of a box, lent as a row to a function that only reads it.
-/
import Derived.Test.YtdnjkeeiopcipaaSlB
import Derived.Test.YtdnjkeeiopcipaaSlH
set_option linter.unusedVariables false
set_option linter.unusedSimpArgs false
set_option linter.unusedSectionVars false
namespace Go.Sl
open Go.RowKit
variable {P : Program}

/-- A value that names no memory. -/
def SV.Plain (v : SV) : Prop := ∀ (p p' : Nat → Prop) (μ μ' : Nat → Nm) (M M' : Mem) (u : Value), Rp p μ M v u → Rp p' μ' M' v u
theorem SV.plain_u32 (n : Nat) : SV.Plain (u32 n) := fun p p' μ μ' M M' u h => by
  unfold u32 at h ⊢
  rw [Rp.int_iff] at h ⊢; exact h
theorem SV.plains {p p' : Nat → Prop} {μ μ' : Nat → Nm} {M M' : Mem} : ∀ {cs : List SV} {l : List Value}, (∀ c, c ∈ cs → SV.Plain c) → Rps p μ M cs l → Rps p' μ' M' cs l
  | [], l, _, hr => Rps.nil_iff.2 (Rps.nil_iff.1 hr)
  | c :: cs, l, h, hr => by
    obtain ⟨u, us, rfl, h1, h2⟩ := Rps.cons_iff.1 hr
    exact Rps.cons_iff.2 ⟨u, us, rfl, h c (by simp) p p' μ μ' M M' u h1, SV.plains (fun c hc => h c (by simp [hc])) h2⟩
theorem SV.plain_agg {cs : List SV} (h : ∀ c, c ∈ cs → SV.Plain c) : SV.Plain (.agg cs) := fun p p' μ μ' M M' u hu => by
  obtain ⟨vs, rfl, hr⟩ := Rp.agg_iff.1 hu
  exact Rp.agg_iff.2 ⟨vs, rfl, SV.plains h hr⟩
theorem Vec.plain (v : Vec) : SV.Plain (.agg v.cells) := SV.plain_agg fun c hc => by
  simp only [Vec.cells, List.mem_cons, List.not_mem_nil, or_false] at hc
  rcases hc with rfl | rfl | rfl | rfl | rfl | rfl | rfl | rfl <;> exact SV.plain_u32 _

theorem repR_mk {M : Mem} {b : Nat} : ∀ (o : Nat) (ds : List DV), (∀ i x, ds[i]? = some x → ∃ u, M b (o + i) = some u ∧ RepD M x u) → RepR M b o ds
  | _, [], _ => by simp [RepR]
  | o, x :: ds, h => by
    simp only [RepR]
    refine ⟨by simpa using h 0 x rfl, repR_mk (o + 1) ds fun i y hy => ?_⟩
    have := h (i + 1) y (by simpa using hy)
    rwa [show o + (i + 1) = o + 1 + i by omega] at this

theorem SC.borrow {f : FuncId} {k nk m off len : Nat} {t : TypeId} {cs : List SV} {ds : List DV} {v : SV} (h : SCd P f [.d (.sl len ds)] [] k nk v []) (hv : SV.Plain v) (h0 : len ≠ 0) (hds : ∀ (i : Nat) (x : DV), ds[i]? = some x → cs[off + i]? = some (.d x)) :
    SCd P f [.bs m off len] [(m, .box t cs)] k nk v [(m, .box t cs)] := by
  refine ⟨h.1, fun p μ M w vals hp hr hS => ?_⟩
  obtain ⟨hpm, hob, hnone⟩ := hS.obs m (.box t cs) (by simp [lk_cons])
  obtain ⟨hlive, vs, hb, hcs⟩ := hob
  let M' : Mem := fun b o => if b = (μ m).blk then w.cell? ⟨b, o, none⟩ else M b o
  have hMM : Mem.le M M' := fun b o x hx => by
    show (if b = (μ m).blk then w.cell? ⟨b, o, none⟩ else M b o) = some x
    split
    · exact hS.mem b o x hx
    · exact hx
  have hr' : Rps (fun _ => False) μ M' [.d (.sl len ds)] vals.toList := by
    obtain ⟨u, us, e, h1, h2⟩ := Rps.cons_iff.1 hr
    rw [e]
    refine Rps.cons_iff.2 ⟨u, us, rfl, Rp.d_iff.2 ?_, Rps.nil_iff.2 (Rps.nil_iff.1 h2)⟩
    have h3 := h1.rep
    simp only [Rep] at h3
    obtain ⟨A, c, rfl, hle, hA⟩ := h3
    have hA := hA h0
    subst hA
    simp only [RepD]
    refine ⟨_, c, rfl, hle, fun hz => absurd hz h0, fun _ => ⟨(μ m).blk, off, rfl, repR_mk off ds fun i x hx => ?_⟩⟩
    obtain ⟨u, hu, hd⟩ := hcs.get (hds i x hx)
    refine ⟨u, ?_, RepD.mono hMM x u (Rp.d_iff.1 hd)⟩
    show (if (μ m).blk = (μ m).blk then w.cell? ⟨(μ m).blk, off + i, none⟩ else M (μ m).blk (off + i)) = some u
    rw [if_pos rfl, cell_of hb]
    simpa using hu
  have hS' : SatF (fun _ => False) μ M' (lk []) w := by
    refine ⟨fun b o x hx => ?_, fun n ob hn => by simp [lk_nil] at hn, fun n _ hn => by simp [lk_nil] at hn⟩
    have hx : (if b = (μ m).blk then w.cell? ⟨b, o, none⟩ else M b o) = some x := hx
    split at hx
    · exact hx
    · exact hS.mem b o x hx
  refine (h.2 (fun _ => False) μ M' w vals (fun _ _ h => h) hr' hS').mono ?_
  rintro e w' ⟨r, F', μ', M'', u, rfl, ⟨rfl, rfl⟩, hru, hS2, hE⟩
  have hfr : ∀ b, b < w.heap.size → w'.heap[b]? = w.heap[b]? := fun b hb => (hE.frame b hb (fun n hn => by simp [lk_nil] at hn)).1
  refine ⟨r, [(m, .box t cs)], μ, M, u, rfl, ⟨rfl, rfl⟩, hv _ _ _ _ _ _ u hru, ⟨fun b o x hx => hS2.mem b o x (hE.mem b o x (hMM b o x hx)), fun n ob hn => ?_, hS.inj⟩, ⟨fun _ _ => rfl, Mem.le_refl M, fun b hb _ => ⟨hfr b hb, fun _ => rfl⟩, hE.size, fun n hn => .inr ⟨fun hnew => ?_, hn⟩, hE.os, hE.tape, hE.output⟩⟩
  · obtain ⟨a1, a2, a3⟩ := hS.obs n ob hn
    have hnm : n = m ∧ ob = .box t cs := by
      rw [lk_cons] at hn
      split at hn
      · rename_i e; exact ⟨e, (Option.some.inj hn).symm⟩
      · simp [lk_nil] at hn
    obtain ⟨rfl, rfl⟩ := hnm
    refine ⟨.inl a1, ⟨hlive, vs, ?_, hcs.more (fun n h => .inl h) (fun _ _ => rfl) (Mem.le_refl M)⟩, a3⟩
    rw [hfr _ (Array.getElem?_eq_some_iff.1 hb).1]; exact hb
  · have : n = m := by
      rw [lk_cons] at hn
      split at hn
      · rename_i e; exact e
      · simp [lk_nil] at hn
    subst this
    exact hp n hnew hpm
end Go.Sl
