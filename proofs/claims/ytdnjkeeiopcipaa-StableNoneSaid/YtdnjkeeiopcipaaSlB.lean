/-
  A box's cell that holds no map: a map of one's own that is nil.
-/
import Derived.Test.YtdnjkeeiopcipaaSlS
set_option linter.unusedVariables false
set_option linter.unusedSimpArgs false
set_option linter.unusedSectionVars false
namespace Go.Sl
open Go.RowKit
/-- Ties first, names last: for names that are not numerals. -/
def noConf2 (bs : List Nat) (ts : List (Bool × List Nat)) : Bool :=
  all2 ts.length fun i j => i == j || (ts.getD i (true, [])).1 || ordB bs i j || ordB bs j i || !((ts.getD i (true, [])).2.any fun n => (ts.getD j (true, [])).2.contains n)
theorem conf_of {f : Bool} {bs : List Nat} {ts : List (Bool × List Nat)} (h : (!f || noConf2 bs ts) = true) : (!f || noConf bs ts) = true := by
  rw [← h]
  congr 1
  unfold noConf noConf2
  congr 1
  funext i j
  generalize (i == j) = a
  generalize (ts.getD i (true, [])).1 = b
  generalize ordB bs i j = c
  generalize ordB bs j i = d
  generalize List.any _ _ = e
  cases a <;> cases b <;> cases c <;> cases d <;> cases e <;> rfl
section
variable {P : Program} {N k0 : Nat} {st : St} {Q : Exit → St → Prop}

theorem Rp.set_at {p : Nat → Prop} {μ : Nat → Nm} {M : Mem} {cs : List SV} {vs : List Value} {c : SV} (i : Nat) (h : Rps p μ M cs vs) (hc : ∀ u, vs[i]? = some u → Rp p μ M c u) (hi : i < cs.length) : Rps p μ M (cs.set i c) vs := by
  obtain ⟨c0, h0⟩ := get_of_lt hi
  obtain ⟨u, hu, _⟩ := h.get h0
  have := h.set i (hc u hu)
  rwa [show vs.set i u = vs by
    apply List.ext_getElem?
    intro j
    rw [List.getElem?_set]
    split
    · rename_i e; subst e
      rw [hu]; simp [(List.getElem?_eq_some_iff.1 hu).1]
    · rfl] at this

theorem StA.nilmap {μ0 : Nat → Nm} {M0 : Mem} {w0 : World} {c0 : Nat → Option Ob} {a : Act} {w : World} (b i : Nat) {t : TypeId} {cs : List SV} (hb : lk st.hp b = some (.box t cs)) (hi : cs[i]? = some (.d .nilm)) (h : StA N μ0 M0 w0 c0 k0 st a w) :
    StA N μ0 M0 w0 c0 k0 ⟨st.env, (st.k, .nomap) :: hset st.hp b (.box t (cs.set i (.mp st.k))), st.k + 1⟩ a w := by
  obtain ⟨hk0, hdf, hsz, μ, M, hsl, hS, hE⟩ := h
  have hmu := upN_p (μ := μ) (m := ⟨0, 0, false⟩) (p := (· < st.k)) (k := st.k) (Nat.lt_irrefl _)
  have hup : ∀ n, n < st.k → n < st.k + 1 := fun n h => by omega
  have hlt : ∀ n ob, lk st.hp n = some ob → n < st.k := fun n ob h => (hS.obs n ob h).1
  have hpres : ∀ n, n ≠ st.k → lk ((st.k, .nomap) :: hset st.hp b (.box t (cs.set i (.mp st.k)))) n ≠ none → lk st.hp n ≠ none := fun n e1 hn => by
    rw [lk_cons, if_neg e1, lk_hset] at hn
    split at hn
    · rename_i e; subst e; rw [hb]; simp
    · exact hn
  refine ⟨by show k0 ≤ st.k + 1; omega, hdf, hsz, upN μ st.k ⟨0, 0, false⟩, M, fun u s hs => (hsl u s hs).more hup hmu (Mem.le_refl M), ⟨hS.mem, fun n ob hn => ?_, fun n m hn hm ln lm e => ?_⟩, ⟨fun n hn => ?_, hE.mem, hE.frame, hE.size, fun n hn => ?_, hE.os, hE.tape, hE.output⟩⟩
  · replace hn : lk ((st.k, .nomap) :: hset st.hp b (.box t (cs.set i (.mp st.k)))) n = some ob := hn
    rw [lk_cons] at hn
    split at hn
    · rename_i e1
      subst e1
      injection hn with hn
      subst hn
      rw [upN_same]
      exact ⟨Nat.lt_succ_self _, rfl, fun h => by cases h⟩
    · rw [lk_hset] at hn
      split at hn
      · rename_i e1 e2
        subst e2
        injection hn with hn
        subst hn
        obtain ⟨a1, a2, a3⟩ := hS.obs n _ hb
        rw [hmu n a1]
        refine ⟨hup n a1, ?_, a3⟩
        obtain ⟨l1, vs, v1, v2⟩ := a2
        refine ⟨l1, vs, v1, ?_⟩
        refine Rp.set_at i (v2.more hup hmu (Mem.le_refl M)) (fun u hu => ?_) (List.getElem?_eq_some_iff.1 hi).1
        obtain ⟨u', hu', hr⟩ := v2.get hi
        have : u = u' := by rw [hu'] at hu; exact (Option.some.inj hu).symm
        subst this
        have h1 := Rp.nilm_of hr
        intro ν hν
        simp only [Rep]
        rw [hν st.k (Nat.lt_succ_self _), upN_same]
        exact .inr ⟨rfl, h1⟩
      · obtain ⟨a1, a2, a3⟩ := hS.obs n ob hn
        rw [hmu n a1]
        exact ⟨hup n a1, a2.more hup hmu (Mem.le_refl M) fun _ => rfl, a3⟩
  · by_cases e1 : n = st.k
    · subst e1; rw [upN_same] at ln; cases ln
    · by_cases e2 : m = st.k
      · subst e2; rw [upN_same] at lm; cases lm
      · have hn := hpres n e1 hn
        have hm := hpres m e2 hm
        obtain ⟨o1, ho1⟩ := Option.ne_none_iff_exists'.1 hn
        obtain ⟨o2, ho2⟩ := Option.ne_none_iff_exists'.1 hm
        rw [hmu n (hlt n o1 ho1)] at e ln
        rw [hmu m (hlt m o2 ho2)] at e lm
        exact hS.inj n m hn hm ln lm e
  · simp only at hn
    by_cases e1 : n = st.k
    · subst e1; omega
    · rw [upN_other _ _ _ e1]; exact hE.old n (by omega)
  · by_cases e1 : n = st.k
    · subst e1
      rw [upN_same]
      exact .inl ⟨⟨by omega, Nat.lt_succ_self _⟩, fun h => by cases h⟩
    · have hn := hpres n e1 hn
      obtain ⟨o1, ho1⟩ := Option.ne_none_iff_exists'.1 hn
      rw [hmu n (hlt n o1 ho1)]
      rcases hE.names n hn with ⟨b1, b2⟩ | ⟨b1, b2⟩
      · exact .inl ⟨⟨b1.1, by have := b1.2; show n < st.k + 1; omega⟩, b2⟩
      · refine .inr ⟨fun h => ?_, b2⟩
        have : n < st.k := hlt n o1 ho1
        exact b1 ⟨h.1, this⟩
/-- A box's cell that holds no map is a map of one's own that is nil. -/
theorem SW.nilmap {s : SCo} (b i : Nat) {t : TypeId} {cs : List SV} (hb : lk st.hp b = some (.box t cs)) (hi : cs[i]? = some (.d .nilm)) (h : SW P N k0 s ⟨st.env, (st.k, .nomap) :: hset st.hp b (.box t (cs.set i (.mp st.k))), st.k + 1⟩ Q) : SW P N k0 s st Q :=
  fun c hc rd hrf μ0 M0 w0 c0 a w hSt => h c hc rd hrf μ0 M0 w0 c0 a w (hSt.nilmap b i hb hi)
end
end Go.Sl
