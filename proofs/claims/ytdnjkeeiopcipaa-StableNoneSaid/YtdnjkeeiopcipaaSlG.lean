/-
  Ranging over a map: the next entry, in whatever order.
-/
import Derived.Test.YtdnjkeeiopcipaaSlF
set_option linter.unusedVariables false
set_option linter.unusedSimpArgs false
set_option linter.unusedSectionVars false
namespace Go.Sl
open Go.RowKit
open Go.ChangeMaps (setBlock)
variable {P : Program}

theorem RpE.mem {p : Nat → Prop} {μ : Nat → Nm} {M : Mem} : ∀ {es : List (Nat × SV × SV)} {ens : List MapEntry}, RpE p μ M es ens → ∀ x, x ∈ ens → ∃ e, e ∈ es ∧ x.born = e.1 ∧ Rp p μ M e.2.1 x.key ∧ Rp p μ M e.2.2 x.val
  | [], ens, h, x, hx => by simp only [RpE] at h; subst h; simp at hx
  | (b, k, v) :: r, ens, h, x, hx => by
    obtain ⟨e, es', rfl, h1, h2, h3, h4⟩ := h
    rcases List.mem_cons.1 hx with rfl | hx
    · exact ⟨(b, k, v), by simp, h1, h2, h3⟩
    · obtain ⟨e, he, h⟩ := RpE.mem h4 x hx
      exact ⟨e, by simp [he], h⟩
theorem RpE.mem' {p : Nat → Prop} {μ : Nat → Nm} {M : Mem} : ∀ {es : List (Nat × SV × SV)} {ens : List MapEntry}, RpE p μ M es ens → ∀ e, e ∈ es → ∃ x, x ∈ ens ∧ x.born = e.1
  | [], ens, h, e, he => by simp at he
  | (b, k, v) :: r, ens, h, e, he => by
    obtain ⟨x, es', rfl, h1, h2, h3, h4⟩ := h
    rcases List.mem_cons.1 he with rfl | he
    · exact ⟨x, by simp, h1⟩
    · obtain ⟨x', hx, h⟩ := RpE.mem' h4 e he
      exact ⟨x', by simp [hx], h⟩

theorem cO_next {op : Op} {x' : X} (hc : cO P op = some (.mnext x')) : ∃ it, op = .next it false ∧ cX it = some x' := by
  cases op <;> simp only [cO] at hc <;> try (cases hc; done)
  case next it s =>
    cases s
    · simp only [Bool.false_eq_true, if_false] at hc
      obtain ⟨y, hy, e⟩ := Option.map_eq_some_iff.1 hc
      injection e with e; subst e
      exact ⟨it, rfl, hy⟩
    · simp at hc
  all_goals (repeat' (first | contradiction | (cases hc; done) | (obtain ⟨_, _, hh⟩ := Option.map_eq_some_iff.1 hc; cases hh; done) | split at hc))

/-- What 'next' may do: nothing is left; or one that is left. -/
def NextQ (n m since : Nat) (seen : List Nat) (st : Nat) (es : List (Nat × SV × SV)) (c : Nat) (r : SV) (F' : Hp) : Prop :=
  (r = .tup [.d (.bool false)] ∧ F' = [(n, .iter (some m) since seen st), (m, .map es c)] ∧ ∀ e, e ∈ es → seen.contains e.1 = true) ∨
  ∃ e, e ∈ es ∧ seen.contains e.1 = false ∧ r = .tup [.d (.bool true), e.2.1, e.2.2] ∧ F' = [(n, .iter (some m) since (seen ++ [e.1]) c), (m, .map es c)]

theorem sq_mnext {o : Oper} {E : Nat → Option SV} {H : Nat → Option Ob} {k : Nat} {x' : X} {n m since st c : Nat} {seen : List Nat} {es : List (Nat × SV × SV)} (hc : cO P o.op = some (.mnext x')) (h1 : ev E x' = some (.it n))
    (hH : H n = some (.iter (some m) since seen st)) (hM : H m = some (.map es c)) (hnm : n ≠ m) (hold : ∀ e, e ∈ es → e.1 < since) (hst : since ≤ st) :
    SoundQ P o E H k 0 [(n, .iter (some m) since seen st), (m, .map es c)] (NextQ n m since seen st es c) := by
  obtain ⟨it, ho, hx⟩ := cO_next hc
  refine ⟨?_, ?_⟩
  · intro q ob hq
    rw [lk_cons, lk_one] at hq
    split at hq
    · rename_i e; subst e; simp at hq; subst hq; exact hH
    · split at hq
      · rename_i e; subst e; simp at hq; subst hq; exact hM
      · cases hq
  intro rd p μ M a w K QQ hnew hk hS hK
  have ln : lk [(n, Ob.iter (some m) since seen st), (m, .map es c)] n = some (.iter (some m) since seen st) := by simp [lk_cons]
  have lm : lk [(n, Ob.iter (some m) since seen st), (m, .map es c)] m = some (.map es c) := by rw [lk_cons, if_neg (fun h => hnm h.symm), lk_one, if_pos rfl]
  obtain ⟨hpn, ⟨hlv, hpm, hb⟩, hMn⟩ := hS.obs n _ ln
  obtain ⟨hpm', ⟨hlv2, ens, hb2, hre⟩, hMm⟩ := hS.obs m _ lm
  simp only [Option.map_some] at hb
  have e1 := (hk.get (by simp [ho, Op.operands]) hx h1).it_of
  have hpk : ∀ q, p q → (fun q => p q ∨ (k ≤ q ∧ q < k + 0)) q := fun q hq => .inl hq
  have hold' : ∀ x ∈ ens.toList, x.born < since := fun x hx => by
    obtain ⟨e, he, h, _⟩ := hre.mem x hx
    rw [h]; exact hold e he
  rcases run_next_at (P := P) w o.type (μ n).blk (μ m).blk since st seen.toArray ens c hb hb2 hold' hst with ⟨h0, hrun⟩ | ⟨x, hx, w1, hw1, hrun⟩
  · have hrun' : (execOp a.eval o).run P w = .ok (.value (.tuple #[.bool false])) w := by simp [execOp, ho, e1, hrun]
    refine wp_value hrun' (hK _ _ _ μ M w (.inl ⟨rfl, rfl, fun e he => ?_⟩) ?_ (hS.more hpk) (Ev.refl _ _ _ _ _ fun q _ h => by omega))
    · obtain ⟨x, hx, hb'⟩ := hre.mem' e he
      have hnil : leftOf ens seen.toArray = #[] := Array.eq_empty_of_size_eq_zero h0
      unfold leftOf at hnil
      rw [Array.filter_eq_empty_iff] at hnil
      have := hnil x (by simpa using hx)
      simpa [hb'] using this
    · exact Rp.tup_iff.2 ⟨_, rfl, Rps.cons_iff.2 ⟨_, _, rfl, Rp.bool_iff.2 rfl, Rps.nil_iff.2 rfl⟩⟩
  · have hx' : x ∈ ens.toList ∧ seen.contains x.born = false := by
      unfold leftOf at hx
      simpa using hx
    obtain ⟨e, he, hb', hrk, hrv⟩ := hre.mem x hx'.1
    have hrun' : (execOp a.eval o).run P w = .ok (.value (.tuple #[.bool true, x.key, x.val])) (setBlock w1 (μ n).blk (.mapIter (some (μ m).blk) since (seen.toArray.push x.born) c)) := by simp [execOp, ho, e1, hrun]
    have hh : w1.heap = w.heap := by rcases hw1 with rfl | rfl <;> rfl
    have hsz : (setBlock w1 (μ n).blk (.mapIter (some (μ m).blk) since (seen.toArray.push x.born) c)).heap.size = w.heap.size := by simp [setBlock, hh]
    have hoth : ∀ b, b ≠ (μ n).blk → (setBlock w1 (μ n).blk (.mapIter (some (μ m).blk) since (seen.toArray.push x.born) c)).heap[b]? = w.heap[b]? := fun b hb => by
      simp [setBlock, hh, Array.getElem?_setIfInBounds_ne (Ne.symm hb)]
    have hsame : (setBlock w1 (μ n).blk (.mapIter (some (μ m).blk) since (seen.toArray.push x.born) c)).heap[(μ n).blk]? = some (.mapIter (some (μ m).blk) since (seen.toArray.push x.born) c) := by
      have : (μ n).blk < w.heap.size := (Array.getElem?_eq_some_iff.1 hb).1
      simp [setBlock, hh, this]
    have hne : (μ m).blk ≠ (μ n).blk := fun e => hnm (hS.inj n m (by rw [ln]; simp) (by rw [lm]; simp) hlv hlv2 e.symm)
    refine wp_value hrun' (hK _ _ _ μ M _ (.inr ⟨e, he, by rw [← hb']; exact hx'.2, rfl, rfl⟩) ?_ ⟨fun b o v hv => ?_, fun q ob hq => ?_, fun q q' hq hq' lq lq' ee => ?_⟩ ⟨fun _ _ => rfl, Mem.le_refl _, fun b hb hf => ⟨hoth b fun ee => hf n (by rw [ln]; simp) hlv ee.symm, fun _ => rfl⟩, by rw [hsz]; exact Nat.le_refl _, fun q hq => ?_, ?_, ?_, ?_⟩)
    · exact (Rp.tup_iff.2 ⟨_, rfl, Rps.cons_iff.2 ⟨_, _, rfl, Rp.bool_iff.2 rfl, Rps.cons_iff.2 ⟨_, _, rfl, hrk, Rps.cons_iff.2 ⟨_, _, rfl, hrv, Rps.nil_iff.2 rfl⟩⟩⟩⟩ : Rp p μ M _ _).more hpk (fun _ _ => rfl) (Mem.le_refl _)
    · have hbl : b ≠ (μ n).blk := fun ee => by rw [ee, hMn hlv] at hv; cases hv
      rw [← hS.mem b o v hv]
      unfold World.cell?
      rw [hoth b hbl]
    · rw [lk_cons, lk_one] at hq
      split at hq
      · rename_i e'; subst e'; simp at hq; subst hq
        refine ⟨.inl hpn, ⟨hlv, fun q hq => .inl (hpm q hq), ?_⟩, hMn⟩
        simpa [hb'] using hsame
      · split at hq
        · rename_i e'; subst e'; simp at hq; subst hq
          refine ⟨.inl hpm', ⟨hlv2, ens, (hoth _ hne).trans hb2, hre.more hpk (fun _ _ => rfl) (Mem.le_refl _)⟩, hMm⟩
        · cases hq
    · have dom : ∀ q, lk [(n, Ob.iter (some m) since (seen ++ [e.1]) c), (m, .map es c)] q ≠ none → lk [(n, Ob.iter (some m) since seen st), (m, .map es c)] q ≠ none := fun q hq => by
        rw [lk_cons, lk_one] at hq ⊢
        split at hq
        · rename_i e'; rw [if_pos e']; simp
        · rename_i e'; rw [if_neg e']; split at hq <;> simp_all
      exact hS.inj q q' (dom q hq) (dom q' hq') lq lq' ee
    · refine .inr ⟨by omega, ?_⟩
      rw [lk_cons, lk_one] at hq ⊢
      split at hq
      · rename_i e'; rw [if_pos e']; simp
      · rename_i e'; rw [if_neg e']; split at hq <;> simp_all
    · rcases hw1 with rfl | rfl <;> rfl
    · rcases hw1 with rfl | rfl
      · exact ⟨rfl, Nat.le_refl _⟩
      · exact ⟨rfl, Nat.le_succ _⟩
    · rcases hw1 with rfl | rfl <;> rfl
/-- Over a map that is nil. -/
theorem sq_mnext0 {o : Oper} {E : Nat → Option SV} {H : Nat → Option Ob} {k : Nat} {x' : X} {n since st : Nat} {seen : List Nat} (hc : cO P o.op = some (.mnext x')) (h1 : ev E x' = some (.it n))
    (hH : H n = some (.iter none since seen st)) : SoundQ P o E H k 0 [(n, .iter none since seen st)] fun r F' => r = .tup [.d (.bool false)] ∧ F' = [(n, .iter none since seen st)] := by
  obtain ⟨it, ho, hx⟩ := cO_next hc
  refine ⟨?_, ?_⟩
  · intro q ob hq
    rw [lk_one] at hq
    split at hq
    · rename_i e; subst e; simp at hq; subst hq; exact hH
    · cases hq
  intro rd p μ M a w K QQ hnew hk hS hK
  obtain ⟨hpn, ⟨hlv, hpm, hb⟩, hMn⟩ := hS.obs n _ (by rw [lk_one, if_pos rfl])
  simp only [Option.map_none] at hb
  have e1 := (hk.get (by simp [ho, Op.operands]) hx h1).it_of
  have hg : (getObj (μ n).blk).run P w = .ok (.mapIter none since seen.toArray st) w := by simp [getObj, Sem.run, hb]
  have hrun' : (execOp a.eval o).run P w = .ok (.value (.tuple #[.bool false])) w := by simp [execOp, ho, e1, Instr.next, hg]
  exact wp_value hrun' (hK _ _ _ μ M w ⟨rfl, rfl⟩ (Rp.tup_iff.2 ⟨_, rfl, Rps.cons_iff.2 ⟨_, _, rfl, Rp.bool_iff.2 rfl, Rps.nil_iff.2 rfl⟩⟩) (hS.more fun q hq => .inl hq) (Ev.refl _ _ _ _ _ fun q _ h => by omega))
theorem sq_yield {o : Oper} {E : Nat → Option SV} {H : Nat → Option Ob} {k nk : Nat} {f : X} {args : List X} {nl : Nat} {as : List SV} {F : Hp} {Q : SV → Hp → Prop} (hc : cO P o.op = some (.call f args))
    (h1 : ev E f = some (.yl nl)) (h2 : evs E args = some as) (hF : lk F nl ≠ none) (hSY : SY P nl as F k nk Q) (hsub : ∀ n ob, lk F n = some ob → H n = some ob) : SoundQ P o E H k nk F Q := by
  obtain ⟨c, fo, hop, hcal, hf, ha⟩ := cO_call hc
  exact ⟨hsub, fun rd p μ M a w K QQ hnew hk hS hK => s_yieldQ hop hcal hf ha h1 h2 hF hSY hnew hk hS hK⟩
theorem SWn.callQ {N k0 : Nat} {st : St} {K : St → Prop} {d : Option Nat} {r : List SI} {f : X} {args : List X} {fid : FuncId} {first cap as : List SV} {F : Hp} {nk : Nat} {Q : SV → Hp → Prop}
    (h1 : ev (fun t => st.env.lookup t) f = some (.fn (.func fid) first cap)) (h2 : evs (fun t => st.env.lookup t) args = some as) (hSC : SC P fid (first ++ as ++ cap) F st.k nk Q) (hsub : HSub F st.hp)
    (h : ∀ v F', Q v F' → SWn P N k0 r (upd st ⟨d, .call f args, none⟩ ⟨v, F, F', nk, True⟩) K) : SWn P N k0 (⟨d, .call f args, none⟩ :: r) st K :=
  SWn.many rfl (fun o hc => sq_call hc h1 h2 hSC hsub) rfl h
theorem SWn.yield {N k0 : Nat} {st : St} {K : St → Prop} {d : Option Nat} {r : List SI} {f : X} {args : List X} {nl : Nat} {as : List SV} {F : Hp} {nk : Nat} {Q : SV → Hp → Prop}
    (h1 : ev (fun t => st.env.lookup t) f = some (.yl nl)) (h2 : evs (fun t => st.env.lookup t) args = some as) (hF : lk F nl ≠ none) (hSY : SY P nl as F st.k nk Q) (hsub : HSub F st.hp)
    (h : ∀ v F', Q v F' → SWn P N k0 r (upd st ⟨d, .call f args, none⟩ ⟨v, F, F', nk, True⟩) K) : SWn P N k0 (⟨d, .call f args, none⟩ :: r) st K :=
  SWn.many rfl (fun o hc => sq_yield hc h1 h2 hF hSY hsub) rfl h
theorem SWn.mnext {N k0 : Nat} {st : St} {K : St → Prop} {d : Option Nat} {r : List SI} {x : X} {n m since s c : Nat} {seen : List Nat} {es : List (Nat × SV × SV)}
    (h1 : ev (fun t => st.env.lookup t) x = some (.it n)) (hH : lk st.hp n = some (.iter (some m) since seen s)) (hM : lk st.hp m = some (.map es c)) (hnm : n ≠ m) (hold : ∀ e, e ∈ es → e.1 < since) (hs : since ≤ s)
    (h : ∀ v F', NextQ n m since seen s es c v F' → SWn P N k0 r (upd st ⟨d, .mnext x, none⟩ ⟨v, [(n, .iter (some m) since seen s), (m, .map es c)], F', 0, True⟩) K) : SWn P N k0 (⟨d, .mnext x, none⟩ :: r) st K :=
  SWn.many rfl (fun o hc => sq_mnext hc h1 hH hM hnm hold hs) rfl h
theorem SWn.mnext0 {N k0 : Nat} {st : St} {K : St → Prop} {d : Option Nat} {r : List SI} {x : X} {n since s : Nat} {seen : List Nat}
    (h1 : ev (fun t => st.env.lookup t) x = some (.it n)) (hH : lk st.hp n = some (.iter none since seen s))
    (h : SWn P N k0 r (upd st ⟨d, .mnext x, none⟩ ⟨.tup [.d (.bool false)], [(n, .iter none since seen s)], [(n, .iter none since seen s)], 0, True⟩) K) : SWn P N k0 (⟨d, .mnext x, none⟩ :: r) st K :=
  SWn.many rfl (fun o hc => sq_mnext0 hc h1 hH) rfl (fun v F' ⟨e1, e2⟩ => by subst e1; subst e2; exact h)
end Go.Sl
