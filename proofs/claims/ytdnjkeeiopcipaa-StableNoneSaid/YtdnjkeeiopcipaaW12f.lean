/-
  What a call on a tracker leaves in its caller's heap.
-/
import Derived.Test.YtdnjkeeiopcipaaW12e
set_option linter.unusedSectionVars false
set_option linter.unusedVariables false
set_option linter.unusedSimpArgs false
namespace Go.Proofs.Ytdnjkeeiopcipaa
open Go.Sl Go.Proofs

def repl (F : Hp) (x : Nat × Ob) : Nat × Ob := match lk F x.1 with
  | some o => (x.1, o)
  | none => x
theorem hrep_map : ∀ {h : Hp} {n : Nat} {o : Ob}, (h.map (·.1)).Nodup → n ∈ h.map (·.1) → hrep h n o = h.map fun x => if x.1 = n then (n, o) else x
  | [], n, o, _, hm => by cases hm
  | (m, o') :: h, n, o, hn, hm => by
    rw [List.map_cons, List.nodup_cons] at hn
    simp only [hrep, List.map_cons]
    by_cases e : m = n
    · subst e
      simp only [if_true]
      congr 1
      symm
      conv => rhs; rw [← List.map_id h]
      refine List.map_congr_left fun x hx => ?_
      rw [if_neg fun e => hn.1 (by rw [← e]; exact List.mem_map.2 ⟨x, hx, rfl⟩)]
      rfl
    · rw [if_neg e, if_neg e, hrep_map hn.2 ((List.mem_cons.1 hm).resolve_left fun h => e h.symm)]
theorem lk_of_mem {h : Hp} {n : Nat} (hm : n ∈ h.map (·.1)) : ∃ o, lk h n = some o := by
  induction h with
  | nil => cases hm
  | cons y h ih =>
    obtain ⟨m, o⟩ := y
    rw [lk_cons]
    by_cases e : n = m
    · exact ⟨o, by rw [if_pos e]⟩
    · rw [if_neg e]
      exact ih ((List.mem_cons.1 hm).resolve_left e)
theorem repl_names (F : Hp) (x : Nat × Ob) : (repl F x).1 = x.1 := by unfold repl; split <;> rfl
theorem hsets_map {h : Hp} (hn : (h.map (·.1)).Nodup) : ∀ {F : Hp}, (F.map (·.1)).Nodup → (∀ n, n ∈ F.map (·.1) → n ∈ h.map (·.1)) → hsets h F = h.map (repl F)
  | [], _, _ => by
    simp only [hsets]
    conv => lhs; rw [← List.map_id h]
    rfl
  | (n, o) :: F, hF, hsub => by
    rw [List.map_cons, List.nodup_cons] at hF
    have ih := hsets_map hn hF.2 fun m hm => hsub m (List.mem_cons_of_mem _ hm)
    have hnames : (h.map (repl F)).map (·.1) = h.map (·.1) := by rw [List.map_map]; exact List.map_congr_left fun x _ => repl_names F x
    have hmem : n ∈ (h.map (repl F)).map (·.1) := by rw [hnames]; exact hsub n (by simp)
    simp only [hsets]
    rw [ih]
    unfold hset
    obtain ⟨o1, ho1⟩ := lk_of_mem hmem
    rw [ho1]
    dsimp only
    rw [hrep_map (by rw [hnames]; exact hn) hmem, List.map_map]
    refine List.map_congr_left fun x _ => ?_
    show (if (repl F x).1 = n then (n, o) else repl F x) = repl ((n, o) :: F) x
    rw [repl_names]
    unfold repl
    rw [lk_cons]
    by_cases e : x.1 = n
    · simp [e]
    · simp [e]
theorem map_repl {F : Hp} : ∀ {A B : Hp}, A.map (·.1) = B.map (·.1) → (∀ x, x ∈ B → lk F x.1 = some x.2) → A.map (repl F) = B
  | [], [], _, _ => rfl
  | [], _ :: _, h, _ => by simp at h
  | _ :: _, [], h, _ => by simp at h
  | a :: A, b :: B, h, hl => by
    simp only [List.map_cons, List.cons.injEq] at h ⊢
    refine ⟨?_, map_repl h.2 fun x hx => hl x (List.mem_cons_of_mem _ hx)⟩
    have := hl b (by simp)
    unfold repl
    rw [h.1, this]
theorem hdels_same {h F' : Hp} : ∀ {F : Hp}, (∀ n, n ∈ F.map (·.1) → (lk F' n).isSome = true) → hdels h F' F = h
  | [], _ => rfl
  | (n, o) :: F, hs => by
    simp only [hdels]
    rw [if_pos (hs n (by simp)), hdels_same fun m hm => hs m (List.mem_cons_of_mem _ hm)]
/-- A call that replaces what is known, behind what is ahead. -/
theorem mrg_tail {pre F F' : Hp} (he : F.map (·.1) = F'.map (·.1)) (hn : ((pre ++ F).map (·.1)).Nodup) : hsets (hdels (pre ++ F) F' F) F' = pre ++ F' := by
  have hn2 : (F'.map (·.1)).Nodup := by rw [← he]; rw [List.map_append, List.nodup_append] at hn; exact hn.2.1
  rw [hdels_same fun n h => by rw [he] at h; obtain ⟨o, ho⟩ := lk_of_mem h; rw [ho]; rfl]
  rw [hsets_map hn hn2 fun n h => by rw [List.map_append, List.mem_append, he]; exact .inr h, List.map_append, map_repl he (lk_of_nodup hn2)]
  congr 1
  conv => rhs; rw [← List.map_id pre]
  refine List.map_congr_left fun x hx => ?_
  have : lk F' x.1 = none := by
    cases hh : lk F' x.1 with
    | none => rfl
    | some o =>
      rw [List.map_append, List.nodup_append] at hn
      have h1 : x.1 ∈ F'.map (·.1) := by
        have : ∀ {h : Hp} {n : Nat} {o : Ob}, lk h n = some o → n ∈ h.map (·.1) := by
          intro h
          induction h with
          | nil => intro n o h; simp [lk_nil] at h
          | cons y h ih =>
            intro n o hl
            rw [lk_cons] at hl
            split at hl
            · rename_i e; subst e; simp
            · exact List.mem_cons_of_mem _ (ih hl)
        exact this hh
      exact absurd rfl (hn.2.2 x.1 (List.mem_map.2 ⟨x, hx, rfl⟩) x.1 (by rw [he]; exact h1))
  unfold repl
  rw [this]; rfl
theorem Tk.hp_names (T : Tk) : T.hp.map (·.1) = T.bx :: (List.range 8).map T.nm := by simp [Tk.hp, Tk.maps, Function.comp_def]
theorem Tk.hp_same {T T' : Tk} (h1 : T'.bx = T.bx) (h2 : T'.nm = T.nm) : T.hp.map (·.1) = T'.hp.map (·.1) := by rw [Tk.hp_names, Tk.hp_names, h1, h2]
theorem Tk.mrg0 {T T' : Tk} (hs : T.sep) (h1 : T'.bx = T.bx) (h2 : T'.nm = T.nm) : hsets (hdels T.hp T'.hp T.hp) T'.hp = T'.hp := mrg_tail (pre := []) (Tk.hp_same h1 h2) (Tk.nodup hs)
theorem Tk.mrg1 {T T' : Tk} {k : Nat} {o : Ob} (hs : T.sep) (hlt : T.lt k) (h1 : T'.bx = T.bx) (h2 : T'.nm = T.nm) : hsets (hdels ((k, o) :: T.hp) T'.hp T.hp) T'.hp = (k, o) :: T'.hp :=
  mrg_tail (pre := [(k, o)]) (Tk.hp_same h1 h2) (by rw [List.cons_append, List.nil_append, List.map_cons, List.nodup_cons]; exact ⟨Tk.out hlt (Nat.le_refl _), Tk.nodup hs⟩)
theorem Tk.hsub1 {T : Tk} {k : Nat} {o : Ob} (hlt : T.lt k) : HSub T.hp ((k, o) :: T.hp) := fun n ob h => by
  rw [lk_cons, if_neg fun e => ?_]
  · exact h
  · rw [e, show lk T.hp k = none from Tk.lkk hlt (Nat.le_refl _)] at h; cases h
end Go.Proofs.Ytdnjkeeiopcipaa
