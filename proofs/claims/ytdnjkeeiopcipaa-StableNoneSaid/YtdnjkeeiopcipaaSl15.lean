/-
  Names in values; contracts by other names; the state; the rule for a region.
-/
import Derived.Test.YtdnjkeeiopcipaaSl14
set_option linter.unusedSimpArgs false
set_option linter.unusedSectionVars false
set_option linter.unusedVariables false
namespace Go.Sl
open Go.RowKit

mutual
def SV.ok (q : Nat → Bool) : SV → Bool
  | .d _ => true
  | .ptr n _ => q n
  | .gs n _ => q n
  | .vp _ _ => true
  | .bs n _ _ => q n
  | .mp n => q n
  | .it n => q n
  | .yl n => q n
  | .fn _ a c => SV.oks q a && SV.oks q c
  | .agg cs => SV.oks q cs
  | .tup cs => SV.oks q cs
  | .any => true
def SV.oks (q : Nat → Bool) : List SV → Bool
  | [] => true
  | c :: cs => SV.ok q c && SV.oks q cs
end
mutual
def SV.ren (ρ : Nat → Nat) : SV → SV
  | .d x => .d x
  | .ptr n o => .ptr (ρ n) o
  | .gs n l => .gs (ρ n) l
  | .vp cs i => .vp cs i
  | .bs n o l => .bs (ρ n) o l
  | .mp n => .mp (ρ n)
  | .it n => .it (ρ n)
  | .yl n => .yl (ρ n)
  | .fn f a c => .fn f (SV.rens ρ a) (SV.rens ρ c)
  | .agg cs => .agg (SV.rens ρ cs)
  | .tup cs => .tup (SV.rens ρ cs)
  | .any => .any
def SV.rens (ρ : Nat → Nat) : List SV → List SV
  | [] => []
  | c :: cs => SV.ren ρ c :: SV.rens ρ cs
end

mutual
theorem Rep.congr {q : Nat → Bool} {μ ν : Nat → Nm} {M : Mem} (h : ∀ n, q n = true → ν n = μ n) : ∀ (s : SV) (v : Value), s.ok q = true → Rep μ M s v → Rep ν M s v
  | .d x, v, _, hr => by simpa [Rep] using hr
  | .ptr n o, v, hq, hr => by simp only [Rep, SV.ok] at *; rw [h n hq]; exact hr
  | .gs n l, v, hq, hr => by simp only [Rep, SV.ok] at *; rw [h n hq]; exact hr
  | .vp cs i, v, _, hr => by simpa [Rep] using hr
  | .bs n _ _, v, hq, hr => by simp only [Rep, SV.ok] at *; rw [h n hq]; exact hr
  | .mp n, v, hq, hr => by simp only [Rep, SV.ok] at *; rw [h n hq]; exact hr
  | .it n, v, hq, hr => by simp only [Rep, SV.ok] at *; rw [h n hq]; exact hr
  | .yl n, v, hq, hr => by simp only [Rep, SV.ok] at *; rw [h n hq]; exact hr
  | .fn f a c, v, hq, hr => by
    simp only [Rep, SV.ok, Bool.and_eq_true] at *
    obtain ⟨as, cs, e, h1, h2⟩ := hr
    exact ⟨as, cs, e, Reps.congr h a _ hq.1 h1, Reps.congr h c _ hq.2 h2⟩
  | .agg cs, v, hq, hr => by
    simp only [Rep, SV.ok] at *
    obtain ⟨vs, e, h1⟩ := hr
    exact ⟨vs, e, Reps.congr h cs _ hq h1⟩
  | .tup cs, v, hq, hr => by
    simp only [Rep, SV.ok] at *
    obtain ⟨vs, e, h1⟩ := hr
    exact ⟨vs, e, Reps.congr h cs _ hq h1⟩
  | .any, _, _, _ => by simp [Rep]
theorem Reps.congr {q : Nat → Bool} {μ ν : Nat → Nm} {M : Mem} (h : ∀ n, q n = true → ν n = μ n) : ∀ (s : List SV) (v : List Value), SV.oks q s = true → Reps μ M s v → Reps ν M s v
  | [], v, _, hr => by simpa [Reps] using hr
  | c :: cs, v, hq, hr => by
    simp only [Reps, SV.oks, Bool.and_eq_true] at *
    obtain ⟨u, us, e, h1, h2⟩ := hr
    exact ⟨u, us, e, Rep.congr h c u hq.1 h1, Reps.congr h cs us hq.2 h2⟩
end
mutual
theorem Rep.ren_iff {ρ : Nat → Nat} {μ : Nat → Nm} {M : Mem} : ∀ (s : SV) (v : Value), Rep μ M (s.ren ρ) v ↔ Rep (fun n => μ (ρ n)) M s v
  | .d x, v => by simp [Rep, SV.ren]
  | .ptr n o, v => by simp [Rep, SV.ren]
  | .gs n l, v => by simp [Rep, SV.ren]
  | .vp cs i, v => by simp [Rep, SV.ren]
  | .bs n _ _, v => by simp [Rep, SV.ren]
  | .mp n, v => by simp [Rep, SV.ren]
  | .it n, v => by simp [Rep, SV.ren]
  | .yl n, v => by simp [Rep, SV.ren]
  | .fn f a c, v => by
    simp only [Rep, SV.ren]
    constructor
    · rintro ⟨as, cs, e, h1, h2⟩; exact ⟨as, cs, e, (Reps.ren_iff a _).1 h1, (Reps.ren_iff c _).1 h2⟩
    · rintro ⟨as, cs, e, h1, h2⟩; exact ⟨as, cs, e, (Reps.ren_iff a _).2 h1, (Reps.ren_iff c _).2 h2⟩
  | .agg cs, v => by
    simp only [Rep, SV.ren]
    constructor
    · rintro ⟨vs, e, h1⟩; exact ⟨vs, e, (Reps.ren_iff cs _).1 h1⟩
    · rintro ⟨vs, e, h1⟩; exact ⟨vs, e, (Reps.ren_iff cs _).2 h1⟩
  | .tup cs, v => by
    simp only [Rep, SV.ren]
    constructor
    · rintro ⟨vs, e, h1⟩; exact ⟨vs, e, (Reps.ren_iff cs _).1 h1⟩
    · rintro ⟨vs, e, h1⟩; exact ⟨vs, e, (Reps.ren_iff cs _).2 h1⟩
  | .any, _ => by simp [Rep, SV.ren]
theorem Reps.ren_iff {ρ : Nat → Nat} {μ : Nat → Nm} {M : Mem} : ∀ (s : List SV) (v : List Value), Reps μ M (SV.rens ρ s) v ↔ Reps (fun n => μ (ρ n)) M s v
  | [], v => by simp [Reps, SV.rens]
  | c :: cs, v => by
    simp only [Reps, SV.rens]
    constructor
    · rintro ⟨u, us, e, h1, h2⟩; exact ⟨u, us, e, (Rep.ren_iff c u).1 h1, (Reps.ren_iff cs us).1 h2⟩
    · rintro ⟨u, us, e, h1, h2⟩; exact ⟨u, us, e, (Rep.ren_iff c u).2 h1, (Reps.ren_iff cs us).2 h2⟩
end
theorem SV.oks_iff {q : Nat → Bool} : ∀ {cs : List SV}, SV.oks q cs = true ↔ ∀ c ∈ cs, c.ok q = true
  | [] => by simp [SV.oks]
  | c :: cs => by simp [SV.oks, SV.oks_iff (cs := cs)]
theorem SV.oks_d {q : Nat → Bool} (xs : List DV) : SV.oks q (xs.map .d) = true := by
  rw [SV.oks_iff]; intro c hc; obtain ⟨x, _, rfl⟩ := List.mem_map.1 hc; rfl
theorem SV.rens_d {ρ : Nat → Nat} : ∀ (xs : List DV), SV.rens ρ (xs.map .d) = xs.map .d
  | [] => rfl
  | x :: xs => by simp [SV.rens, SV.ren, SV.rens_d xs]

def Ob.ok (q : Nat → Bool) : Ob → Bool
  | .box _ cs => SV.oks q cs
  | .arr _ _ _ cs => SV.oks q cs
  | .map es _ => es.all fun e => e.2.1.ok q && e.2.2.ok q
  | .nomap => true
  | .iter mo _ _ _ => match mo with
    | some n => q n
    | none => true
  | .rcd _ _ cs _ _ _ _ _ => SV.oks q cs
def Ob.ren (ρ : Nat → Nat) : Ob → Ob
  | .box t cs => .box t (SV.rens ρ cs)
  | .arr e sz len cs => .arr e sz len (SV.rens ρ cs)
  | .map es c => .map (es.map fun e => (e.1, e.2.1.ren ρ, e.2.2.ren ρ)) c
  | .nomap => .nomap
  | .iter mo a b c => .iter (mo.map ρ) a b c
  | .rcd N ts cs ps as bd st pe => .rcd N ts (SV.rens ρ cs) ps as bd st pe
def Hp.ren (ρ : Nat → Nat) (h : Hp) : Hp := h.map fun x => (ρ x.1, x.2.ren ρ)
def Hp.ok (q : Nat → Bool) (h : Hp) : Bool := h.all fun x => q x.1 && x.2.ok q

section
variable {p p' : Nat → Prop} {μ ν : Nat → Nm} {M : Mem}

theorem Rp.of_rep {q : Nat → Bool} {s : SV} {v : Value} (hq : s.ok q = true) (hp : ∀ n, q n = true → p n) (h : Rep μ M s v) : Rp p μ M s v :=
  fun ν hν => Rep.congr (fun n hn => hν n (hp n hn)) s v hq h
theorem Rps.of_reps {q : Nat → Bool} {s : List SV} {v : List Value} (hq : SV.oks q s = true) (hp : ∀ n, q n = true → p n) (h : Reps μ M s v) : Rps p μ M s v :=
  fun ν hν => Reps.congr (fun n hn => hν n (hp n hn)) s v hq h
/-- To other names: what is known under ρ. -/
theorem Rp.to {q : Nat → Bool} {ρ : Nat → Nat} {s : SV} {v : Value} (hq : s.ok q = true) (hp : ∀ n, q n = true → p n) (hν : ∀ n, q n = true → ν n = μ (ρ n)) (h : Rep μ M (s.ren ρ) v) : Rp p ν M s v :=
  Rp.of_rep hq hp (Rep.congr hν s v hq ((Rep.ren_iff s v).1 h))
theorem Rp.back {q : Nat → Bool} {ρ : Nat → Nat} {s : SV} {v : Value} (hq : s.ok q = true) (hp : ∀ n, q n = true → p (ρ n)) (hν : ∀ n, q n = true → μ (ρ n) = ν n) (h : Rep ν M s v) : Rp p μ M (s.ren ρ) v :=
  fun μ' hμ' => (Rep.ren_iff s v).2 (Rep.congr (fun n hn => (hμ' _ (hp n hn)).trans (hν n hn)) s v hq h)
theorem Rps.to {q : Nat → Bool} {ρ : Nat → Nat} {s : List SV} {v : List Value} (hq : SV.oks q s = true) (hp : ∀ n, q n = true → p n) (hν : ∀ n, q n = true → ν n = μ (ρ n)) (h : Reps μ M (SV.rens ρ s) v) : Rps p ν M s v :=
  Rps.of_reps hq hp (Reps.congr hν s v hq ((Reps.ren_iff s v).1 h))
theorem Rps.back {q : Nat → Bool} {ρ : Nat → Nat} {s : List SV} {v : List Value} (hq : SV.oks q s = true) (hp : ∀ n, q n = true → p (ρ n)) (hν : ∀ n, q n = true → μ (ρ n) = ν n) (h : Reps ν M s v) : Rps p μ M (SV.rens ρ s) v :=
  fun μ' hμ' => (Reps.ren_iff s v).2 (Reps.congr (fun n hn => (hμ' _ (hp n hn)).trans (hν n hn)) s v hq h)

theorem RpE.to {q : Nat → Bool} {ρ : Nat → Nat} (hp : ∀ n, q n = true → p n) (hν : ∀ n, q n = true → ν n = μ (ρ n)) : ∀ (es : List (Nat × SV × SV)) (ens : List MapEntry), (es.all fun e => e.2.1.ok q && e.2.2.ok q) = true →
    RpE p' μ M (es.map fun e => (e.1, e.2.1.ren ρ, e.2.2.ren ρ)) ens → RpE p ν M es ens
  | [], ens, _, h => h
  | (b, k, v) :: es, ens, hq, h => by
    simp only [List.all_cons, Bool.and_eq_true] at hq
    obtain ⟨e, es', rfl, h2, h3, h4, h5⟩ := h
    exact ⟨e, es', rfl, h2, Rp.to hq.1.1 hp hν h3.rep, Rp.to hq.1.2 hp hν h4.rep, RpE.to hp hν es es' (by simpa using hq.2) h5⟩
theorem RpE.back {q : Nat → Bool} {ρ : Nat → Nat} (hp : ∀ n, q n = true → p (ρ n)) (hν : ∀ n, q n = true → μ (ρ n) = ν n) : ∀ (es : List (Nat × SV × SV)) (ens : List MapEntry), (es.all fun e => e.2.1.ok q && e.2.2.ok q) = true →
    RpE p' ν M es ens → RpE p μ M (es.map fun e => (e.1, e.2.1.ren ρ, e.2.2.ren ρ)) ens
  | [], ens, _, h => h
  | (b, k, v) :: es, ens, hq, h => by
    simp only [List.all_cons, Bool.and_eq_true] at hq
    obtain ⟨e, es', rfl, h2, h3, h4, h5⟩ := h
    exact ⟨e, es', rfl, h2, Rp.back hq.1.1 hp hν h3.rep, Rp.back hq.1.2 hp hν h4.rep, RpE.back hp hν es es' (by simpa using hq.2) h5⟩

theorem ObRep.to {w : World} {q : Nat → Bool} {ρ : Nat → Nat} {m : Nm} {ob : Ob} (hq : ob.ok q = true) (hp : ∀ n, q n = true → p n) (hν : ∀ n, q n = true → ν n = μ (ρ n)) (h : ObRep p' μ M w m (ob.ren ρ)) : ObRep p ν M w m ob := by
  cases ob <;> simp only [ObRep, Ob.ren, Ob.ok] at h hq ⊢
  case box => obtain ⟨h0, vs, h1, h2⟩ := h; exact ⟨h0, vs, h1, Rps.to hq hp hν h2.reps⟩
  case arr =>
    have hl : ∀ (l : List SV), (SV.rens ρ l).length = l.length := fun l => by induction l <;> simp_all [SV.rens]
    rcases h with ⟨a1, a2, a3⟩ | ⟨h0, vs, h1, h2, h3, h4, h5, h6⟩
    · exact .inl ⟨a1, a2, List.eq_nil_of_length_eq_zero (by rw [← hl, a3]; rfl)⟩
    exact .inr ⟨h0, vs, h1, by rw [← h2, hl], h3, h4, h5, Rps.to hq hp hν h6.reps⟩
  case map => obtain ⟨h0, ens, h1, h2⟩ := h; exact ⟨h0, ens, h1, RpE.to hp hν _ _ hq h2⟩
  case nomap => exact h
  case iter mo a b c =>
    cases mo with
    | none => exact ⟨h.1, fun n hn => (by cases hn), by simpa using h.2.2⟩
    | some n =>
      refine ⟨h.1, fun n' hn => by injection hn with hn; subst hn; exact hp n hq, ?_⟩
      simp only [Option.map_some] at h ⊢
      rw [hν n hq]; exact h.2.2
  case rcd => obtain ⟨h0, r, h1, h2, h3⟩ := h; exact ⟨h0, r, h1, Rps.to hq hp hν h2.reps, h3⟩
theorem ObRep.back {w : World} {q : Nat → Bool} {ρ : Nat → Nat} {m : Nm} {ob : Ob} (hq : ob.ok q = true) (hp : ∀ n, q n = true → p (ρ n)) (hν : ∀ n, q n = true → μ (ρ n) = ν n) (h : ObRep p' ν M w m ob) : ObRep p μ M w m (ob.ren ρ) := by
  cases ob <;> simp only [ObRep, Ob.ren, Ob.ok] at h hq ⊢
  case box => obtain ⟨h0, vs, h1, h2⟩ := h; exact ⟨h0, vs, h1, Rps.back hq hp hν h2.reps⟩
  case arr =>
    have hl : ∀ (l : List SV), (SV.rens ρ l).length = l.length := fun l => by induction l <;> simp_all [SV.rens]
    rcases h with ⟨a1, a2, a3⟩ | ⟨h0, vs, h1, h2, h3, h4, h5, h6⟩
    · exact .inl ⟨a1, a2, by rw [a3]; rfl⟩
    exact .inr ⟨h0, vs, h1, by rw [hl, h2], h3, h4, h5, Rps.back hq hp hν h6.reps⟩
  case map => obtain ⟨h0, ens, h1, h2⟩ := h; exact ⟨h0, ens, h1, RpE.back hp hν _ _ hq h2⟩
  case nomap => exact h
  case iter mo a b c =>
    cases mo with
    | none => exact ⟨h.1, fun n hn => (by cases hn), by simpa using h.2.2⟩
    | some n =>
      refine ⟨h.1, fun n' hn => by simp at hn; subst hn; exact hp n hq, ?_⟩
      simp only [Option.map_some] at h ⊢
      rw [hν n hq]; exact h.2.2
  case rcd => obtain ⟨h0, r, h1, h2, h3⟩ := h; exact ⟨h0, r, h1, Rps.back hq hp hν h2.reps, h3⟩
end

theorem lk_mem : ∀ {h : Hp} {n : Nat} {ob : Ob}, lk h n = some ob → (n, ob) ∈ h
  | [], n, ob, h => by simp [lk_nil] at h
  | (m, o) :: h, n, ob, hh => by
    rw [lk_cons] at hh
    split at hh
    · rename_i e
      injection hh with hh
      subst hh; subst e
      simp
    · exact List.mem_cons_of_mem _ (lk_mem hh)
theorem Hp.ok_lk {q : Nat → Bool} {h : Hp} (hq : h.ok q = true) {n : Nat} {ob : Ob} (hl : lk h n = some ob) : q n = true ∧ ob.ok q = true := by
  have := List.all_eq_true.1 hq _ (lk_mem hl)
  simpa using this
theorem lk_ren {ρ : Nat → Nat} {h : Hp} {q : Nat → Bool} (hq : h.ok q = true) (hinj : ∀ n m, q n = true → q m = true → ρ n = ρ m → n = m) {n : Nat} (hn : q n = true) : lk (h.ren ρ) (ρ n) = (lk h n).map (Ob.ren ρ) := by
  induction h with
  | nil => rfl
  | cons x h ih =>
    obtain ⟨m, o⟩ := x
    simp only [Hp.ok, List.all_cons, Bool.and_eq_true] at hq
    simp only [Hp.ren, List.map_cons]
    rw [lk_cons, lk_cons]
    by_cases e : n = m
    · subst e; simp
    · rw [if_neg e, if_neg (fun h => e (hinj n m hn hq.1.1 h))]
      exact ih (by simpa [Hp.ok] using hq.2)
theorem lk_ren_some {ρ : Nat → Nat} {h : Hp} {m : Nat} {ob : Ob} (hl : lk (h.ren ρ) m = some ob) : ∃ n ob', (n, ob') ∈ h ∧ m = ρ n ∧ ob = ob'.ren ρ := by
  obtain ⟨⟨n, ob'⟩, h1, h2⟩ := List.mem_map.1 (lk_mem hl)
  simp at h2
  exact ⟨n, ob', h1, h2.1.symm, h2.2.symm⟩

/-- WHAT A FUNCTION's BODY DOES, its own names from k on. -/
def SB (P : Program) (f : FuncId) (args : List SV) (F : Hp) (k nk : Nat) (Q : SV → Hp → Prop) : Prop :=
  Callable P f = true ∧ SV.oks (fun n => decide (n < k)) args = true ∧ F.ok (fun n => decide (n < k)) = true ∧
  ∀ (μ : Nat → Nm) (M : Mem) (w : World) (vals : Array Value), Rps (· < k) μ M args vals.toList → SatF (· < k) μ M (lk F) w →
    Calls P f vals w fun e w' => ∃ r F' μ' M' u, e = .returned u ∧ Q r F' ∧ r.ok (fun n => decide (n < k + nk)) = true ∧ F'.ok (fun n => decide (n < k + nk)) = true ∧ Rep μ' M' r u ∧ SatF (· < k + nk) μ' M' (lk F') w' ∧
      Ev (lk F) (fun n => k ≤ n ∧ n < k + nk) μ M w (lk F') μ' M' w'

/-- By the caller's names: the core. -/
theorem at_core {args : List SV} {F : Hp} {k nk : Nat} {Q : SV → Hp → Prop} (hao : SV.oks (fun n => decide (n < k)) args = true) (hFo : F.ok (fun n => decide (n < k)) = true) (ρ : Nat → Nat) (k' : Nat) (hinj : ∀ n m, n < k → m < k → ρ n = ρ m → n = m)
    (hnew : ∀ i, i < nk → ρ (k + i) = k' + i) {p : Nat → Prop} {μ : Nat → Nm} {M : Mem} {w : World} {vals : Array Value} (hp : ∀ n, (k' ≤ n ∧ n < k' + nk) → ¬ p n) (hpk : ∀ n, n < k → p (ρ n)) (hr : Rps p μ M (SV.rens ρ args) vals.toList) (hS : SatF p μ M (lk (F.ren ρ)) w) :
    Rps (· < k) (fun n => μ (ρ n)) M args vals.toList ∧ SatF (· < k) (fun n => μ (ρ n)) M (lk F) w ∧ ∀ e w',
      (∃ r F' μ' M' u, e = Ending.returned u ∧ Q r F' ∧ r.ok (fun n => decide (n < k + nk)) = true ∧ F'.ok (fun n => decide (n < k + nk)) = true ∧ Rep μ' M' r u ∧ SatF (· < k + nk) μ' M' (lk F') w' ∧
        Ev (lk F) (fun n => k ≤ n ∧ n < k + nk) (fun n => μ (ρ n)) M w (lk F') μ' M' w') →
      ∃ r F' μ' M' u, e = Ending.returned u ∧ (∃ r0 F0, Q r0 F0 ∧ r = r0.ren ρ ∧ F' = F0.ren ρ) ∧ Rp (fun n => p n ∨ (k' ≤ n ∧ n < k' + nk)) μ' M' r u ∧ SatF (fun n => p n ∨ (k' ≤ n ∧ n < k' + nk)) μ' M' (lk F') w' ∧
        Ev (lk (F.ren ρ)) (fun n => k' ≤ n ∧ n < k' + nk) μ M w (lk F') μ' M' w' := by
  have hq1 : ∀ n, decide (n < k) = true → n < k := fun n h => by simpa using h
  have hlt : ∀ n m, n < k → k ≤ m → m < k + nk → ρ n ≠ ρ m := fun n m hn hm hm' e => by
    have h1 := hnew (m - k) (by omega)
    rw [show k + (m - k) = m by omega] at h1
    exact hp (ρ n) (by rw [e, h1]; omega) (hpk n hn)
  have hin : ∀ n m, n < k + nk → m < k + nk → ρ n = ρ m → n = m := fun n m hn hm e => by
    by_cases h1 : n < k <;> by_cases h2 : m < k
    · exact hinj n m h1 h2 e
    · exact absurd e (hlt n m h1 (by omega) hm)
    · exact absurd e.symm (hlt m n h2 (by omega) hn)
    · have a1 := hnew (n - k) (by omega)
      have a2 := hnew (m - k) (by omega)
      rw [show k + (n - k) = n by omega] at a1
      rw [show k + (m - k) = m by omega] at a2
      omega
  have hr' : Rps (· < k) (fun n => μ (ρ n)) M args vals.toList := Rps.to hao hq1 (fun n _ => rfl) hr.reps
  have hF : ∀ n, n < k → lk (F.ren ρ) (ρ n) = (lk F n).map (Ob.ren ρ) := fun n hn => lk_ren hFo (fun a b ha hb => hinj a b (hq1 a ha) (hq1 b hb)) (by simpa using hn)
  have hFlt : ∀ n, lk F n ≠ none → n < k := fun n hn => by
    obtain ⟨ob, hob⟩ := Option.ne_none_iff_exists'.1 hn
    exact hq1 n (Hp.ok_lk hFo hob).1
  have hS' : SatF (· < k) (fun n => μ (ρ n)) M (lk F) w := by
    refine ⟨hS.mem, fun n ob hn => ?_, fun n m hn hm ln lm e => ?_⟩
    · obtain ⟨q1, q2⟩ := Hp.ok_lk hFo hn
      have hnk := hq1 n q1
      have := hF n hnk
      rw [hn] at this
      obtain ⟨_, b1, b2⟩ := hS.obs (ρ n) (ob.ren ρ) this
      exact ⟨hnk, b1.to q2 hq1 (fun n _ => rfl), b2⟩
    · have h1 := hFlt n hn
      have h2 := hFlt m hm
      refine hinj n m h1 h2 (hS.inj (ρ n) (ρ m) ?_ ?_ ln lm e)
      · rw [hF n h1]; simpa using hn
      · rw [hF m h2]; simpa using hm
  refine ⟨hr', hS', ?_⟩
  rintro e w' ⟨r, F', μ', M', u, rfl, hQ, hro, hFo', hru, hS2, hE⟩
  have hq2 : ∀ n, decide (n < k + nk) = true → n < k + nk := fun n h => by simpa using h
  -- the caller's reading of the new names
  let μx : Nat → Nm := fun m => if k' ≤ m ∧ m < k' + nk then μ' (k + (m - k')) else μ m
  have hx : ∀ n, n < k + nk → μx (ρ n) = μ' n := fun n hn => by
    by_cases h1 : n < k
    · have : ¬ (k' ≤ ρ n ∧ ρ n < k' + nk) := fun hh => hp (ρ n) hh (hpk n h1)
      simp only [μx, this, if_false]
      exact (hE.old n (by omega)).symm
    · have a1 := hnew (n - k) (by omega)
      rw [show k + (n - k) = n by omega] at a1
      simp only [μx]
      rw [a1, if_pos (by omega)]
      congr 1
      omega
  have hpx : ∀ n, n < k + nk → (p (ρ n) ∨ (k' ≤ ρ n ∧ ρ n < k' + nk)) := fun n hn => by
    by_cases h1 : n < k
    · exact .inl (hpk n h1)
    · have a1 := hnew (n - k) (by omega)
      rw [show k + (n - k) = n by omega] at a1
      exact .inr (by omega)
  have hF2 : ∀ n, n < k + nk → lk (F'.ren ρ) (ρ n) = (lk F' n).map (Ob.ren ρ) := fun n hn => lk_ren hFo' (fun a b ha hb => hin a b (hq2 a ha) (hq2 b hb)) (by simpa using hn)
  have hlkF' : ∀ m ob, lk (F'.ren ρ) m = some ob → ∃ n ob', n < k + nk ∧ m = ρ n ∧ ob = ob'.ren ρ ∧ lk F' n = some ob' ∧ ob'.ok (fun n => decide (n < k + nk)) = true := by
    intro m ob hm
    obtain ⟨n, ob', h1, rfl, rfl⟩ := lk_ren_some hm
    have hn : n < k + nk := by
      have := List.all_eq_true.1 hFo' _ h1
      simp at this
      exact this.1
    rw [hF2 n hn] at hm
    obtain ⟨ob2, h2, h3⟩ := Option.map_eq_some_iff.1 hm
    exact ⟨n, ob2, hn, rfl, h3.symm, h2, (Hp.ok_lk hFo' h2).2⟩
  refine ⟨r.ren ρ, F'.ren ρ, μx, M', u, rfl, ⟨r, F', hQ, rfl, rfl⟩, Rp.back hro (fun n hn => hpx n (hq2 n hn)) (fun n hn => hx n (hq2 n hn)) hru, ⟨hS2.mem, fun m ob hm => ?_, fun a b ha hb la lb e => ?_⟩, ⟨fun m hm => ?_, hE.mem, fun b hb hf => ?_, hE.size, fun m hm => ?_, hE.os, hE.tape, hE.output⟩⟩
  · obtain ⟨n, ob', hn, rfl, rfl, hl, hok⟩ := hlkF' m ob hm
    obtain ⟨_, b1, b2⟩ := hS2.obs n ob' hl
    rw [hx n hn]
    exact ⟨hpx n hn, b1.back hok (fun n hn => hpx n (hq2 n hn)) (fun n hn => hx n (hq2 n hn)), b2⟩
  · obtain ⟨oa, hoa⟩ := Option.ne_none_iff_exists'.1 ha
    obtain ⟨ob, hob⟩ := Option.ne_none_iff_exists'.1 hb
    obtain ⟨n, _, hn, rfl, _, hl, _⟩ := hlkF' a oa hoa
    obtain ⟨m, _, hm, rfl, _, hl', _⟩ := hlkF' b ob hob
    rw [hx n hn] at e la
    rw [hx m hm] at e lb
    rw [hS2.inj n m (by rw [hl]; simp) (by rw [hl']; simp) la lb e]
  · simp only [μx]
    rw [if_neg hm]
  · refine hE.frame b hb fun n hn => ?_
    have h1 := hFlt n hn
    exact hf (ρ n) (by rw [hF n h1]; simpa using hn)
  · obtain ⟨ob, hob⟩ := Option.ne_none_iff_exists'.1 hm
    obtain ⟨n, _, hn, rfl, _, hl, _⟩ := hlkF' m ob hob
    rw [hx n hn]
    rcases hE.names n (by rw [hl]; simp) with ⟨⟨h1, h2⟩, h3⟩ | ⟨h1, h2⟩
    · have a1 := hnew (n - k) (by omega)
      rw [show k + (n - k) = n by omega] at a1
      refine .inl ⟨by omega, fun ln => ?_⟩
      rcases h3 ln with h3 | ⟨q, hq, lq, e⟩
      · exact .inl h3
      · have hqk := hFlt q hq
        exact .inr ⟨ρ q, by rw [hF q hqk]; simpa using hq, lq, e⟩
    · have h3 := hFlt n h2
      refine .inr ⟨fun hh => hp (ρ n) hh (hpk n h3), by rw [hF n h3]; simpa using h2⟩
/-- The same, by the caller's names. -/
theorem SB.at {P : Program} {f : FuncId} {args : List SV} {F : Hp} {k nk : Nat} {Q : SV → Hp → Prop} (h : SB P f args F k nk Q) (ρ : Nat → Nat) (k' : Nat) (hinj : ∀ n m, n < k → m < k → ρ n = ρ m → n = m)
    (hargs : ∀ n, n < k → ∀ (p : Nat → Prop) μ M w vals, Rps p μ M (SV.rens ρ args) vals → SatF p μ M (lk (F.ren ρ)) w → p (ρ n)) (hnew : ∀ i, i < nk → ρ (k + i) = k' + i) :
    SC P f (SV.rens ρ args) (F.ren ρ) k' nk fun r F' => ∃ r0 F0, Q r0 F0 ∧ r = r0.ren ρ ∧ F' = F0.ren ρ := by
  refine ⟨h.1, fun p μ M w vals hp hr hS => ?_⟩
  obtain ⟨h1, h2, h3⟩ := at_core (Q := Q) h.2.1 h.2.2.1 ρ k' hinj hnew hp (fun n hn => hargs n hn p μ M w _ hr hS) hr hS
  exact (h.2.2.2 _ M w vals h1 h2).mono h3

/-- WHAT A ROUND DOES, its own names from k on. -/
def SYB (P : Program) (nl : Nat) (args : List SV) (F : Hp) (k nk : Nat) (Q : SV → Hp → Prop) : Prop :=
  SV.oks (fun n => decide (n < k)) args = true ∧ F.ok (fun n => decide (n < k)) = true ∧
  ∀ (μ : Nat → Nm) (M : Mem) (w : World) (vals : Array Value), Rps (· < k) μ M args vals.toList → SatF (· < k) μ M (lk F) w →
    YieldX P (μ nl).blk vals w fun e w' => ∃ r F' μ' M' u, e = .returned u ∧ Q r F' ∧ r.ok (fun n => decide (n < k + nk)) = true ∧ F'.ok (fun n => decide (n < k + nk)) = true ∧ Rep μ' M' r u ∧ SatF (· < k + nk) μ' M' (lk F') w' ∧
      Ev (lk F) (fun n => k ≤ n ∧ n < k + nk) μ M w (lk F') μ' M' w'
theorem SYB.at {P : Program} {nl : Nat} {args : List SV} {F : Hp} {k nk : Nat} {Q : SV → Hp → Prop} (h : SYB P nl args F k nk Q) (ρ : Nat → Nat) (k' : Nat) (hinj : ∀ n m, n < k → m < k → ρ n = ρ m → n = m)
    (hargs : ∀ n, n < k → ∀ (p : Nat → Prop) μ M w vals, Rps p μ M (SV.rens ρ args) vals → SatF p μ M (lk (F.ren ρ)) w → p (ρ n)) (hnew : ∀ i, i < nk → ρ (k + i) = k' + i) :
    SY P (ρ nl) (SV.rens ρ args) (F.ren ρ) k' nk fun r F' => ∃ r0 F0, Q r0 F0 ∧ r = r0.ren ρ ∧ F' = F0.ren ρ := by
  intro p μ M w vals hp _ hr hS
  obtain ⟨h1, h2, h3⟩ := at_core (Q := Q) h.1 h.2.1 ρ k' hinj hnew hp (fun n hn => hargs n hn p μ M w _ hr hS) hr hS
  obtain ⟨fn, tmps, assign, body, hy, hround⟩ := h.2.2 _ M w vals h1 h2
  exact ⟨fn, tmps, assign, body, hy, hround.mono h3⟩
end Go.Sl
