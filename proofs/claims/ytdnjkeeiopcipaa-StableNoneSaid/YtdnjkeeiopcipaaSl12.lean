/-
  The machine does what 'sop' says: all operations.
-/
import Derived.Test.YtdnjkeeiopcipaaSlM
set_option linter.unusedSimpArgs false
set_option linter.unusedSectionVars false
set_option linter.unusedVariables false
namespace Go.Sl
open Go.RowKit

section
variable {P : Program} {o : Oper} {E : Nat → Option SV} {H : Nat → Option Ob} {k : Nat} {own : Bool} {e : Eff}

theorem sop_sound {so : SO} (hc : cO P o.op = some so) (he : sop E H k own so = some e) (hob : e.ob) : Sound P o E H k e := by
  cases hop : o.op <;> rw [hop] at hc <;> simp only [cO] at hc <;> try (cases hc; done)
  case move x =>
    obtain ⟨y, hy, rfl⟩ := Option.map_eq_some_iff.1 hc
    exact s_mv (.inl hop) hy he
  case assign x =>
    obtain ⟨y, hy, rfl⟩ := Option.map_eq_some_iff.1 hc
    exact s_mv (.inr hop) hy he
  case pick c x y =>
    split at hc <;> first | (cases hc; done) | skip
    rename_i h1 h2 h3
    injection hc with hc; subst hc
    exact s_pick hop h1 h2 h3 he
  case alloc t =>
    obtain ⟨z, hz, rfl⟩ := Option.map_eq_some_iff.1 hc
    exact s_alloc hop hz he
  case box t x =>
    obtain ⟨y, hy, rfl⟩ := Option.map_eq_some_iff.1 hc
    exact s_box hop hy he
  case build t parts =>
    split at hc <;> first | (cases hc; done) | skip
    · rename_i fs z ht hz
      split at hc <;> first | (cases hc; done) | skip
      rename_i hfs
      obtain ⟨qs, hq, rfl⟩ := Option.map_eq_some_iff.1 hc
      exact s_bldS hop ht hz hfs hq he hob
    · rename_i n el z ht hz
      split at hc <;> first | (cases hc; done) | skip
      rename_i j hj
      obtain ⟨qs, hq, rfl⟩ := Option.map_eq_some_iff.1 hc
      exact s_bldA hop ht hz hj hq he hob
  case buildSlice t len parts =>
    split at hc <;> first | (cases hc; done) | skip
    rename_i el ht
    split at hc <;> first | (cases hc; done) | skip
    rename_i j z hj hz
    split at hc <;> first | (cases hc; done) | skip
    rename_i hsz
    obtain ⟨qs, hq, rfl⟩ := Option.map_eq_some_iff.1 hc
    exact s_bsl hop ht hj hz hsz hq he hob
  case load t x =>
    split at hc <;> first | (cases hc; done) | skip
    rename_i y sz h1 h2
    injection hc with hc; subst hc
    exact s_load hop h1 h2 he hob
  case store t x v =>
    split at hc <;> first | (cases hc; done) | skip
    rename_i h1 h2 h3
    injection hc with hc; subst hc
    exact s_store hop h3 h1 h2 he hob
  case nilCheck x =>
    obtain ⟨y, hy, rfl⟩ := Option.map_eq_some_iff.1 hc
    exact s_nilc hop hy he
  case binOp op t x y t' =>
    split at hc
    · rename_i hq
      split at hc
      · split at hc <;> first | (cases hc; done) | skip
        rename_i h1 h2
        injection hc with hc; subst hc
        exact s_bin hop h1 h2 he hob
      · rename_i ht
        split at hc <;> first | (cases hc; done) | skip
        rename_i h1 h2
        injection hc with hc; subst hc
        exact s_eqb hop hq ht h1 h2 he
      · rename_i fs ht
        split at hc <;> first | (cases hc; done) | skip
        rename_i h1 h2 h3
        split at hc <;> first | (cases hc; done) | skip
        rename_i hg
        injection hc with hc; subst hc
        exact s_eqv hop hq (.inl ⟨_, ht⟩) h3 (by simpa using hg) h1 h2 he
      · rename_i n el ht
        split at hc <;> first | (cases hc; done) | skip
        rename_i h1 h2 h3
        split at hc <;> first | (cases hc; done) | skip
        rename_i hg
        injection hc with hc; subst hc
        exact s_eqv hop hq (.inr ⟨_, _, ht⟩) h3 (by simpa using hg) h1 h2 he
      · split at hc <;> first | (cases hc; done) | skip
        rename_i h1 h2
        injection hc with hc; subst hc
        exact s_eqnil hop hq h1 h2 he hob
    · split at hc <;> first | (cases hc; done) | skip
      rename_i h1 h2
      injection hc with hc; subst hc
      exact s_bin hop h1 h2 he hob
  case unOp op t x =>
    cases op <;> simp only at hc <;> try (cases hc; done)
    · obtain ⟨y, hy, rfl⟩ := Option.map_eq_some_iff.1 hc
      exact s_neg hop hy he
    · obtain ⟨y, hy, rfl⟩ := Option.map_eq_some_iff.1 hc
      exact s_not hop hy he
  case convert s d x =>
    split at hc <;> first | (cases hc; done) | skip
    rename_i h1 h2 h3
    injection hc with hc; subst hc
    exact s_conv hop h1 h2 h3 he
  case makeFunc f a c =>
    split at hc <;> first | (cases hc; done) | skip
    rename_i h1 h2
    injection hc with hc; subst hc
    exact s_mkf hop h1 h2 he
  case makeMap t r =>
    cases r <;> simp only at hc <;> try (cases hc; done)
    injection hc with hc; subst hc
    exact s_mkm hop he
  case makeSlice t l c =>
    split at hc <;> first | (cases hc; done) | skip
    rename_i el l' c' ht hl hc'
    split at hc <;> first | (cases hc; done) | skip
    rename_i i z hi hz
    split at hc <;> first | (cases hc; done) | skip
    rename_i hsz
    injection hc with hc; subst hc
    exact s_mks hop ht hi hz hsz hl hc' he hob
  case slice t x lo hi mx =>
    cases mx <;> simp only at hc <;> try (cases hc; done)
    split at hc <;> first | (cases hc; done) | skip
    · rename_i el x' lo' hi' ht hx hl hh
      split at hc <;> first | (cases hc; done) | skip
      rename_i j hj
      injection hc with hc; subst hc
      exact s_slc hop ht hj hx hl hh he hob
    · rename_i nn el x' lo' hi' ht hx hl hh
      split at hc <;> first | (cases hc; done) | skip
      rename_i j hj
      injection hc with hc; subst hc
      exact s_slcA hop ht hj hx hl hh he hob
  case fieldAddr s x f =>
    split at hc <;> first | (cases hc; done) | skip
    rename_i fs x' hs hx
    split at hc <;> first | (cases hc; done) | skip
    rename_i fl hf
    split at hc <;> first | (cases hc; done) | skip
    rename_i i hi
    split at hc <;> first | (cases hc; done) | skip
    rename_i hi0
    injection hc with hc; subst hc
    exact s_fld hop hs hf hi hi0 hx he
  case field t x f =>
    split at hc <;> first | (cases hc; done) | skip
    rename_i fs x' hs hx
    split at hc <;> first | (cases hc; done) | skip
    rename_i fl hf
    split at hc <;> first | (cases hc; done) | skip
    rename_i sz hz
    injection hc with hc; subst hc
    exact s_field hop hs hf hz hx he hob
  case indexAddr t x i =>
    split at hc <;> first | (cases hc; done) | skip
    · rename_i n el x' i' ht hx hi
      split at hc <;> first | (cases hc; done) | skip
      rename_i j hj
      injection hc with hc; subst hc
      exact s_idxA hop ht hj hx hi he hob
    · rename_i el x' i' ht hx hi
      split at hc <;> first | (cases hc; done) | skip
      rename_i j hj
      injection hc with hc; subst hc
      exact s_idxS hop ht hj hx hi he hob
  case index t x i =>
    split at hc <;> first | (cases hc; done) | skip
    rename_i n el x' i' ht hx hi
    split at hc <;> first | (cases hc; done) | skip
    rename_i j sz hj hz
    split at hc <;> first | (cases hc; done) | skip
    rename_i hzz
    injection hc with hc; subst hc
    exact s_index hop ht hj hz (by cases sz <;> simp_all [szFits]) hx hi he hob
  case extract x i =>
    obtain ⟨y, hy, rfl⟩ := Option.map_eq_some_iff.1 hc
    exact s_ext hop hy he
  case lookup t m i ok =>
    split at hc <;> first | (cases hc; done) | skip
    rename_i kt et m' i' ht hm hi
    split at hc <;> first | (cases hc; done) | skip
    rename_i ks z hks hz
    injection hc with hc; subst hc
    exact s_look hop ht hm hi hks hz he
  case mapUpdate t m i v =>
    split at hc <;> first | (cases hc; done) | skip
    rename_i kt et m' i' v' ht hm hi hv
    split at hc <;> first | (cases hc; done) | skip
    rename_i ks hks
    injection hc with hc; subst hc
    exact s_mset (.inl hop) ht hm hi hv hks he
  case insert t m i v =>
    split at hc <;> first | (cases hc; done) | skip
    rename_i kt et m' i' v' ht hm hi hv
    split at hc <;> first | (cases hc; done) | skip
    rename_i ks hks
    injection hc with hc; subst hc
    exact s_mset (.inr hop) ht hm hi hv hks he
  case range t m =>
    split at hc <;> first | (cases hc; done) | skip
    rename_i kt et m' ht hm
    injection hc with hc; subst hc
    exact s_mrange hop ht hm he
  case next it s =>
    split at hc
    · cases hc
    · obtain ⟨y, hy, rfl⟩ := Option.map_eq_some_iff.1 hc
      simp [sop] at he
  case entry it =>
    obtain ⟨y, hy, rfl⟩ := Option.map_eq_some_iff.1 hc
    exact s_mentry hop hy he hob
  case call c =>
    split at hc <;> first | (cases hc; done) | skip
    · rename_i x t hcal ha hat
      split at hc <;> first | (cases hc; done) | skip
      · rename_i el x' ht hx
        injection hc with hc; subst hc
        exact s_len hop hcal ha hat ht hx he
      · rename_i kt et x' ht hx
        injection hc with hc; subst hc
        exact s_mlen hop hcal ha hat ht hx he
    · rename_i m i t t' hcal ha hat
      split at hc <;> first | (cases hc; done) | skip
      rename_i kt et m' i' ht hm hi
      split at hc <;> first | (cases hc; done) | skip
      rename_i ks hks
      injection hc with hc; subst hc
      exact s_mdel hop hcal ha hat ht hm hi hks he
    · rename_i x y t t' hcal ha hat
      split at hc <;> first | (cases hc; done) | skip
      rename_i htt
      subst htt
      split at hc <;> first | (cases hc; done) | skip
      rename_i el x' y' ht hx hy
      split at hc <;> first | (cases hc; done) | skip
      rename_i i z hi hz
      split at hc <;> first | (cases hc; done) | skip
      rename_i hzl
      injection hc with hc; subst hc
      exact s_app hop hcal ha hat ht hi hz hzl hx hy he hob
    · split at hc <;> first | (cases hc; done) | skip
      injection hc with hc; subst hc
      simp [sop] at he
    · rename_i x y hcal ha
      split at hc <;> first | (cases hc; done) | skip
      rename_i hx hy
      injection hc with hc; subst hc
      exact s_mx hop hcal ha hx hy he
    · rename_i x y hcal ha
      split at hc <;> first | (cases hc; done) | skip
      rename_i hx hy
      injection hc with hc; subst hc
      exact s_mn hop hcal ha hx hy he

/-- Operations that change no object. -/
def roOf : SO → Bool
  | .alloc .. | .box .. | .store .. | .bsl .. | .app .. | .mkm | .mks .. | .mset .. | .mdel .. | .mrange .. | .mnext .. | .copy .. | .call .. => false
  | _ => true
end
end Go.Sl
