/-
  Ranging over a function: a round's contract from the loop's body.
-/
import Derived.Test.YtacdkgkpoelhdaaP4
set_option linter.unusedVariables false
set_option linter.unusedSimpArgs false
set_option linter.unusedSectionVars false
namespace Go.Sl
open Go.RowKit
set_option maxHeartbeats 1000000
variable {P : Program}
theorem lk_cons_same {n : Nat} {ob : Ob} {h : Hp} : lk ((n, ob) :: h) n = some ob := by rw [lk_cons, if_pos rfl]
mutual
theorem SV.ok_more {q q' : Nat → Bool} (h : ∀ n, q n = true → q' n = true) : ∀ s : SV, s.ok q = true → s.ok q' = true
  | .d _, _ => rfl
  | .ptr n _, hs => h n hs
  | .gs n _, hs => h n hs
  | .vp _ _, _ => rfl
  | .bs n _ _, hs => h n hs
  | .mp n, hs => h n hs
  | .it n, hs => h n hs
  | .yl n, hs => h n hs
  | .fn _ a c, hs => by
    simp only [SV.ok, Bool.and_eq_true] at hs ⊢
    exact ⟨SV.oks_more h a hs.1, SV.oks_more h c hs.2⟩
  | .agg cs, hs => SV.oks_more h cs hs
  | .tup cs, hs => SV.oks_more h cs hs
  | .any, _ => rfl
theorem SV.oks_more {q q' : Nat → Bool} (h : ∀ n, q n = true → q' n = true) : ∀ s : List SV, SV.oks q s = true → SV.oks q' s = true
  | [], _ => rfl
  | c :: cs, hs => by
    simp only [SV.oks, Bool.and_eq_true] at hs ⊢
    exact ⟨SV.ok_more h c hs.1, SV.oks_more h cs hs.2⟩
end
end Go.Sl
namespace Go.Sl
open Go.RowKit
open Go.ChangeMaps (setBlock)
variable {P : Program}
theorem RpE.mem {p : Nat → Prop} {μ : Nat → Nm} {M : Mem} : ∀ {es : List (Nat × SV × SV)} {ens : List MapEntry}, RpE p μ M es ens → ∀ x, x ∈ ens → ∃ e, e ∈ es ∧ x.born = e.1 ∧ Rp p μ M e.2.1 x.key ∧ Rp p μ M e.2.2 x.val
  | [], ens, h, x, hx => by simp only [RpE] at h; subst h; simp at hx
  | (b, k, v) :: r, ens, h, x, hx => by
    obtain ⟨e, es', rfl, h1, h2, h3, h4⟩ := h
    rcases List.mem_cons.1 hx with rfl | hx
    · exact ⟨(b, k, v), by simp, h1, h2, h3⟩
    · obtain ⟨e, he, h⟩ := RpE.mem h4 x hx
      exact ⟨e, by simp [he], h⟩
theorem RpE.mem' {p : Nat → Prop} {μ : Nat → Nm} {M : Mem} : ∀ {es : List (Nat × SV × SV)} {ens : List MapEntry}, RpE p μ M es ens → ∀ e, e ∈ es → ∃ x, x ∈ ens ∧ x.born = e.1
  | [], ens, h, e, he => by simp at he
  | (b, k, v) :: r, ens, h, e, he => by
    obtain ⟨x, es', rfl, h1, h2, h3, h4⟩ := h
    rcases List.mem_cons.1 he with rfl | he
    · exact ⟨x, by simp, h1⟩
    · obtain ⟨x', hx, h⟩ := RpE.mem' h4 e he
      exact ⟨x', by simp [hx], h⟩
theorem cO_next {op : Op} {x' : X} (hc : cO P op = some (.mnext x')) : ∃ it, op = .next it false ∧ cX it = some x' := by
  cases op <;> simp only [cO] at hc <;> try (cases hc; done)
  case next it s =>
    cases s
    · simp only [Bool.false_eq_true, if_false] at hc
      obtain ⟨y, hy, e⟩ := Option.map_eq_some_iff.1 hc
      injection e with e; subst e
      exact ⟨it, rfl, hy⟩
    · simp at hc
  all_goals (repeat' (first | contradiction | (cases hc; done) | (obtain ⟨_, _, hh⟩ := Option.map_eq_some_iff.1 hc; cases hh; done) | split at hc))
def NextQ (n m since : Nat) (seen : List Nat) (st : Nat) (es : List (Nat × SV × SV)) (c : Nat) (r : SV) (F' : Hp) : Prop :=
  (r = .tup [.d (.bool false)] ∧ F' = [(n, .iter (some m) since seen st), (m, .map es c)] ∧ ∀ e, e ∈ es → seen.contains e.1 = true) ∨
  ∃ e, e ∈ es ∧ seen.contains e.1 = false ∧ r = .tup [.d (.bool true), e.2.1, e.2.2] ∧ F' = [(n, .iter (some m) since (seen ++ [e.1]) c), (m, .map es c)]
theorem sq_mnext {o : Oper} {E : Nat → Option SV} {H : Nat → Option Ob} {k : Nat} {x' : X} {n m since st c : Nat} {seen : List Nat} {es : List (Nat × SV × SV)} (hc : cO P o.op = some (.mnext x')) (h1 : ev E x' = some (.it n))
    (hH : H n = some (.iter (some m) since seen st)) (hM : H m = some (.map es c)) (hnm : n ≠ m) (hold : ∀ e, e ∈ es → e.1 < since) (hst : since ≤ st) :
    SoundQ P o E H k 0 [(n, .iter (some m) since seen st), (m, .map es c)] (NextQ n m since seen st es c) := by
  obtain ⟨it, ho, hx⟩ := cO_next hc
  refine ⟨?_, ?_⟩
  · intro q ob hq
    rw [lk_cons, lk_one] at hq
    split at hq
    · rename_i e; subst e; simp at hq; subst hq; exact hH
    · split at hq
      · rename_i e; subst e; simp at hq; subst hq; exact hM
      · cases hq
  intro rd p μ M a w K QQ hnew hk hS hK
  have ln : lk [(n, Ob.iter (some m) since seen st), (m, .map es c)] n = some (.iter (some m) since seen st) := by simp [lk_cons]
  have lm : lk [(n, Ob.iter (some m) since seen st), (m, .map es c)] m = some (.map es c) := by rw [lk_cons, if_neg (fun h => hnm h.symm), lk_one, if_pos rfl]
  obtain ⟨hpn, ⟨hlv, hpm, hb⟩, hMn⟩ := hS.obs n _ ln
  obtain ⟨hpm', ⟨hlv2, ens, hb2, hre⟩, hMm⟩ := hS.obs m _ lm
  simp only [Option.map_some] at hb
  have e1 := (hk.get (by simp [ho, Op.operands]) hx h1).it_of
  have hpk : ∀ q, p q → (fun q => p q ∨ (k ≤ q ∧ q < k + 0)) q := fun q hq => .inl hq
  have hold' : ∀ x ∈ ens.toList, x.born < since := fun x hx => by
    obtain ⟨e, he, h, _⟩ := hre.mem x hx
    rw [h]; exact hold e he
  rcases run_next_at (P := P) w o.type (μ n).blk (μ m).blk since st seen.toArray ens c hb hb2 hold' hst with ⟨h0, hrun⟩ | ⟨x, hx, w1, hw1, hrun⟩
  · have hrun' : (execOp a.eval o).run P w = .ok (.value (.tuple #[.bool false])) w := by simp [execOp, ho, e1, hrun]
    refine wp_value hrun' (hK _ _ _ μ M w (.inl ⟨rfl, rfl, fun e he => ?_⟩) ?_ (hS.more hpk) (Ev.refl _ _ _ _ _ fun q _ h => by omega))
    · obtain ⟨x, hx, hb'⟩ := hre.mem' e he
      have hnil : leftOf ens seen.toArray = #[] := Array.eq_empty_of_size_eq_zero h0
      unfold leftOf at hnil
      rw [Array.filter_eq_empty_iff] at hnil
      have := hnil x (by simpa using hx)
      simpa [hb'] using this
    · exact Rp.tup_iff.2 ⟨_, rfl, Rps.cons_iff.2 ⟨_, _, rfl, Rp.bool_iff.2 rfl, Rps.nil_iff.2 rfl⟩⟩
  · have hx' : x ∈ ens.toList ∧ seen.contains x.born = false := by
      unfold leftOf at hx
      simpa using hx
    obtain ⟨e, he, hb', hrk, hrv⟩ := hre.mem x hx'.1
    have hrun' : (execOp a.eval o).run P w = .ok (.value (.tuple #[.bool true, x.key, x.val])) (setBlock w1 (μ n).blk (.mapIter (some (μ m).blk) since (seen.toArray.push x.born) c)) := by simp [execOp, ho, e1, hrun]
    have hh : w1.heap = w.heap := by rcases hw1 with rfl | rfl <;> rfl
    have hsz : (setBlock w1 (μ n).blk (.mapIter (some (μ m).blk) since (seen.toArray.push x.born) c)).heap.size = w.heap.size := by simp [setBlock, hh]
    have hoth : ∀ b, b ≠ (μ n).blk → (setBlock w1 (μ n).blk (.mapIter (some (μ m).blk) since (seen.toArray.push x.born) c)).heap[b]? = w.heap[b]? := fun b hb => by
      simp [setBlock, hh, Array.getElem?_setIfInBounds_ne (Ne.symm hb)]
    have hsame : (setBlock w1 (μ n).blk (.mapIter (some (μ m).blk) since (seen.toArray.push x.born) c)).heap[(μ n).blk]? = some (.mapIter (some (μ m).blk) since (seen.toArray.push x.born) c) := by
      have : (μ n).blk < w.heap.size := (Array.getElem?_eq_some_iff.1 hb).1
      simp [setBlock, hh, this]
    have hne : (μ m).blk ≠ (μ n).blk := fun e => hnm (hS.inj n m (by rw [ln]; simp) (by rw [lm]; simp) hlv hlv2 e.symm)
    refine wp_value hrun' (hK _ _ _ μ M _ (.inr ⟨e, he, by rw [← hb']; exact hx'.2, rfl, rfl⟩) ?_ ⟨⟨fun b o v hv => ?_, hS.mem.glob⟩, fun q ob hq => ?_, fun q q' hq hq' lq lq' ee => ?_⟩ ⟨fun _ _ => rfl, Mem.le_refl _, fun b hb hf => ⟨hoth b fun ee => hf n (by rw [ln]; simp) hlv ee.symm, fun _ => rfl⟩, by rw [hsz]; exact Nat.le_refl _, fun q hq => ?_, ?_, ?_, ?_⟩)
    · exact (Rp.tup_iff.2 ⟨_, rfl, Rps.cons_iff.2 ⟨_, _, rfl, Rp.bool_iff.2 rfl, Rps.cons_iff.2 ⟨_, _, rfl, hrk, Rps.cons_iff.2 ⟨_, _, rfl, hrv, Rps.nil_iff.2 rfl⟩⟩⟩⟩ : Rp p μ M _ _).more hpk (fun _ _ => rfl) (Mem.le_refl _)
    · have hbl : b ≠ (μ n).blk := fun ee => by rw [ee, hMn hlv] at hv; cases hv
      rw [← hS.mem b o v hv]
      unfold World.cell?
      rw [hoth b hbl]
    · rw [lk_cons, lk_one] at hq
      split at hq
      · rename_i e'; subst e'; simp at hq; subst hq
        refine ⟨.inl hpn, ⟨hlv, fun q hq => .inl (hpm q hq), ?_⟩, hMn⟩
        simpa [hb'] using hsame
      · split at hq
        · rename_i e'; subst e'; simp at hq; subst hq
          refine ⟨.inl hpm', ⟨hlv2, ens, (hoth _ hne).trans hb2, hre.more hpk (fun _ _ => rfl) (Mem.le_refl _)⟩, hMm⟩
        · cases hq
    · have dom : ∀ q, lk [(n, Ob.iter (some m) since (seen ++ [e.1]) c), (m, .map es c)] q ≠ none → lk [(n, Ob.iter (some m) since seen st), (m, .map es c)] q ≠ none := fun q hq => by
        rw [lk_cons, lk_one] at hq ⊢
        split at hq
        · rename_i e'; rw [if_pos e']; simp
        · rename_i e'; rw [if_neg e']; split at hq <;> simp_all
      exact hS.inj q q' (dom q hq) (dom q' hq') lq lq' ee
    · refine .inr ⟨by omega, ?_⟩
      rw [lk_cons, lk_one] at hq ⊢
      split at hq
      · rename_i e'; rw [if_pos e']; simp
      · rename_i e'; rw [if_neg e']; split at hq <;> simp_all
    · rcases hw1 with rfl | rfl <;> rfl
    · rcases hw1 with rfl | rfl
      · exact ⟨rfl, Nat.le_refl _⟩
      · exact ⟨rfl, Nat.le_succ _⟩
    · rcases hw1 with rfl | rfl <;> rfl
theorem sq_mnext0 {o : Oper} {E : Nat → Option SV} {H : Nat → Option Ob} {k : Nat} {x' : X} {n since st : Nat} {seen : List Nat} (hc : cO P o.op = some (.mnext x')) (h1 : ev E x' = some (.it n))
    (hH : H n = some (.iter none since seen st)) : SoundQ P o E H k 0 [(n, .iter none since seen st)] fun r F' => r = .tup [.d (.bool false)] ∧ F' = [(n, .iter none since seen st)] := by
  obtain ⟨it, ho, hx⟩ := cO_next hc
  refine ⟨?_, ?_⟩
  · intro q ob hq
    rw [lk_one] at hq
    split at hq
    · rename_i e; subst e; simp at hq; subst hq; exact hH
    · cases hq
  intro rd p μ M a w K QQ hnew hk hS hK
  obtain ⟨hpn, ⟨hlv, hpm, hb⟩, hMn⟩ := hS.obs n _ (by rw [lk_one, if_pos rfl])
  simp only [Option.map_none] at hb
  have e1 := (hk.get (by simp [ho, Op.operands]) hx h1).it_of
  have hg : (getObj (μ n).blk).run P w = .ok (.mapIter none since seen.toArray st) w := by simp [getObj, Sem.run, hb]
  have hrun' : (execOp a.eval o).run P w = .ok (.value (.tuple #[.bool false])) w := by simp [execOp, ho, e1, Instr.next, hg]
  exact wp_value hrun' (hK _ _ _ μ M w ⟨rfl, rfl⟩ (Rp.tup_iff.2 ⟨_, rfl, Rps.cons_iff.2 ⟨_, _, rfl, Rp.bool_iff.2 rfl, Rps.nil_iff.2 rfl⟩⟩) (hS.more fun q hq => .inl hq) (Ev.refl _ _ _ _ _ fun q _ h => by omega))
theorem SWn.mnext {N k0 : Nat} {st : St} {K : St → Prop} {d : Option Nat} {r : List SI} {x : X} {n m since s c : Nat} {seen : List Nat} {es : List (Nat × SV × SV)}
    (h1 : ev (fun t => st.env.lookup t) x = some (.it n)) (hH : lk st.hp n = some (.iter (some m) since seen s)) (hM : lk st.hp m = some (.map es c)) (hnm : n ≠ m) (hold : ∀ e, e ∈ es → e.1 < since) (hs : since ≤ s)
    (h : ∀ v F', NextQ n m since seen s es c v F' → SWn P N k0 r (upd st ⟨d, .mnext x, none⟩ ⟨v, [(n, .iter (some m) since seen s), (m, .map es c)], F', 0, True⟩) K) : SWn P N k0 (⟨d, .mnext x, none⟩ :: r) st K :=
  SWn.many rfl (fun o hc => sq_mnext hc h1 hH hM hnm hold hs) rfl h
theorem SWn.mnext0 {N k0 : Nat} {st : St} {K : St → Prop} {d : Option Nat} {r : List SI} {x : X} {n since s : Nat} {seen : List Nat}
    (h1 : ev (fun t => st.env.lookup t) x = some (.it n)) (hH : lk st.hp n = some (.iter none since seen s))
    (h : SWn P N k0 r (upd st ⟨d, .mnext x, none⟩ ⟨.tup [.d (.bool false)], [(n, .iter none since seen s)], [(n, .iter none since seen s)], 0, True⟩) K) : SWn P N k0 (⟨d, .mnext x, none⟩ :: r) st K :=
  SWn.many rfl (fun o hc => sq_mnext0 hc h1 hH) rfl (fun v F' ⟨e1, e2⟩ => by subst e1; subst e2; exact h)
end Go.Sl
namespace Go.Sl
open Go.RowKit
variable {P : Program}
theorem here_core {args : List SV} {F : Hp} {k nk : Nat} {Q : SV → Hp → Prop} (q : Nat → Bool) (hao : SV.oks q args = true) (hFo : F.ok q = true) (hk : F.ok (fun n => decide (n < k)) = true) (hqp : ∀ n, q n = true → lk F n ≠ none)
    (hQ : ∀ r F', Q r F' → r.ok (fun n => decide (n < k + nk)) = true → F'.ok (fun n => decide (n < k + nk)) = true → r.ok (fun n => q n || (decide (k ≤ n) && decide (n < k + nk))) = true ∧ F'.ok (fun n => q n || (decide (k ≤ n) && decide (n < k + nk))) = true)
    {p : Nat → Prop} {μ : Nat → Nm} {M : Mem} {w : World} {vals : Array Value} (hp : ∀ n, (k ≤ n ∧ n < k + nk) → ¬ p n) (hr : Rps p μ M args vals.toList) (hS : SatF p μ M (lk F) w) :
    Rps (· < k) μ M args vals.toList ∧ SatF (· < k) μ M (lk F) w ∧ ∀ e w',
      (∃ r F' μ' M' u, e = Ending.returned u ∧ Q r F' ∧ r.ok (fun n => decide (n < k + nk)) = true ∧ F'.ok (fun n => decide (n < k + nk)) = true ∧ Rep μ' M' r u ∧ SatF (· < k + nk) μ' M' (lk F') w' ∧
        Ev (lk F) (fun n => k ≤ n ∧ n < k + nk) μ M w (lk F') μ' M' w') →
      ∃ r F' μ' M' u, e = Ending.returned u ∧ Q r F' ∧ Rp (fun n => p n ∨ (k ≤ n ∧ n < k + nk)) μ' M' r u ∧ SatF (fun n => p n ∨ (k ≤ n ∧ n < k + nk)) μ' M' (lk F') w' ∧
        Ev (lk F) (fun n => k ≤ n ∧ n < k + nk) μ M w (lk F') μ' M' w' := by
  have hlt : ∀ n, q n = true → n < k := fun n h => by
    obtain ⟨ob, ho⟩ := Option.ne_none_iff_exists'.1 (hqp n h)
    simpa using (Hp.ok_lk hk ho).1
  have hqP : ∀ n, q n = true → p n := fun n h => by
    obtain ⟨ob, ho⟩ := Option.ne_none_iff_exists'.1 (hqp n h)
    exact (hS.obs n ob ho).1
  refine ⟨Rps.of_reps hao hlt hr.reps, ⟨hS.mem, fun n ob hn => ?_, hS.inj⟩, ?_⟩
  · obtain ⟨a1, a2⟩ := Hp.ok_lk hFo hn
    obtain ⟨_, b1, b2⟩ := hS.obs n ob hn
    have hb' : ObRep p (fun n => μ (id n)) M w (μ n) (ob.ren id) := by rw [Ob.ren_id]; exact b1
    exact ⟨hlt n a1, ObRep.to a2 hlt (fun _ _ => rfl) hb', b2⟩
  · rintro e w' ⟨r, F', μ', M', u, rfl, hq, hr1, hr2, hru, hS', hE⟩
    obtain ⟨h1, h2⟩ := hQ r F' hq hr1 hr2
    have hq2 : ∀ n, (q n || (decide (k ≤ n) && decide (n < k + nk))) = true → (p n ∨ (k ≤ n ∧ n < k + nk)) := fun n hn => by
      simp only [Bool.or_eq_true, Bool.and_eq_true, decide_eq_true_eq] at hn
      exact hn.imp (hqP n) id
    refine ⟨r, F', μ', M', u, rfl, hq, Rp.of_rep h1 hq2 hru, ⟨hS'.mem, fun n ob hn => ?_, hS'.inj⟩, hE⟩
    obtain ⟨a1, a2⟩ := Hp.ok_lk h2 hn
    obtain ⟨_, b1, b2⟩ := hS'.obs n ob hn
    have hb' : ObRep (· < k + nk) (fun n => μ' (id n)) M' w' (μ' n) (ob.ren id) := by rw [Ob.ren_id]; exact b1
    exact ⟨hq2 n a1, ObRep.to a2 hq2 (fun _ _ => rfl) hb', b2⟩
theorem SB.here {f : FuncId} {args : List SV} {F : Hp} {k nk : Nat} {Q : SV → Hp → Prop} (q : Nat → Bool) (h : SB P f args F k nk Q) (hqp : ∀ n, q n = true → lk F n ≠ none) (hao : SV.oks q args = true) (hFo : F.ok q = true)
    (hQ : ∀ r F', Q r F' → r.ok (fun n => decide (n < k + nk)) = true → F'.ok (fun n => decide (n < k + nk)) = true → r.ok (fun n => q n || (decide (k ≤ n) && decide (n < k + nk))) = true ∧ F'.ok (fun n => q n || (decide (k ≤ n) && decide (n < k + nk))) = true) : SC P f args F k nk Q := by
  refine ⟨h.1, fun p μ M w vals hp hr hS => ?_⟩
  obtain ⟨h1, h2, h3⟩ := here_core q hao hFo h.2.2.1 hqp hQ hp hr hS
  exact (h.2.2.2 μ M w vals h1 h2).mono h3
theorem hrep_same : ∀ {h : Hp} {n : Nat} {ob : Ob}, lk h n = some ob → hrep h n ob = h
  | [], n, ob, h => by simp [lk_nil] at h
  | (m, o) :: h, n, ob, hl => by
    rw [lk_cons] at hl
    simp only [hrep]
    by_cases e : m = n
    · subst e
      simp only [if_true] at hl ⊢
      injection hl with hl; rw [hl]
    · rw [if_neg (fun h => e h.symm)] at hl
      rw [if_neg e, hrep_same hl]
theorem hset_same {h : Hp} {n : Nat} {ob : Ob} (hl : lk h n = some ob) : hset h n ob = h := by
  unfold hset; rw [hl]; exact hrep_same hl
theorem hset_head {h : Hp} {n : Nat} {o o' : Ob} : hset ((n, o) :: h) n o' = (n, o') :: h := by
  have : lk ((n, o) :: h) n = some o := lk_cons_same
  unfold hset; rw [this]; simp [hrep]
theorem hmrg_ro {h F F' : Hp} : hmrg true h F F' = h := rfl
def unseen (es : List (Nat × SV × SV)) (seen : List Nat) : Nat := (es.filter fun e => !seen.contains e.1).length
theorem unseen_lt {es : List (Nat × SV × SV)} {seen : List Nat} {e : Nat × SV × SV} (he : e ∈ es) (hs : seen.contains e.1 = false) : unseen es (seen ++ [e.1]) < unseen es seen := by
  induction es with
  | nil => cases he
  | cons x es ih =>
    have hle : ∀ l : List (Nat × SV × SV), unseen l (seen ++ [e.1]) ≤ unseen l seen := fun l => by
      induction l with
      | nil => exact Nat.le_refl _
      | cons y l ihl =>
        simp only [unseen, List.filter, List.contains_append] at ihl ⊢
        cases h1 : seen.contains y.1
        · cases h2 : [e.1].contains y.1
          · simp only [Bool.or_self, Bool.not_false, List.length_cons]; omega
          · simp only [Bool.false_or, Bool.not_true, Bool.not_false, List.length_cons]; omega
        · simp only [Bool.true_or, Bool.not_true]; omega
    rcases List.mem_cons.1 he with rfl | he
    · have := hle es
      simp only [unseen, List.filter, List.contains_append, hs, Bool.false_or, List.contains_cons, List.contains_nil, BEq.rfl, Bool.true_or, Bool.not_true, Bool.not_false, List.length_cons] at this ⊢
      omega
    · have := ih he
      simp only [unseen, List.filter, List.contains_append] at this ⊢
      cases h1 : seen.contains x.1
      · cases h2 : [e.1].contains x.1
        · simp only [Bool.or_self, Bool.not_false, List.length_cons]; omega
        · simp only [Bool.false_or, Bool.not_true, Bool.not_false, List.length_cons]; omega
      · simp only [Bool.true_or, Bool.not_true]; omega
theorem unseen_sub {es es' : List (Nat × SV × SV)} (h : es'.Sublist es) (seen : List Nat) : unseen es' seen ≤ unseen es seen := (h.filter _).length_le
theorem Hp.ok_mono {q q' : Nat → Bool} (h : ∀ n, q n = true → q' n = true) {F : Hp} (hF : F.ok q = true) : F.ok q' = true := by
  unfold Hp.ok at hF ⊢
  rw [List.all_eq_true] at hF ⊢
  intro x hx
  have := hF x hx
  simp only [Bool.and_eq_true] at this ⊢
  refine ⟨h _ this.1, ?_⟩
  have h2 := this.2
  generalize x.2 = ob at h2 ⊢
  cases ob <;> simp only [Ob.ok] at h2 ⊢
  · exact SV.oks_more h _ h2
  · exact SV.oks_more h _ h2
  · rw [List.all_eq_true] at h2 ⊢
    intro e he
    have := h2 e he
    simp only [Bool.and_eq_true] at this ⊢
    exact ⟨SV.ok_more h _ this.1, SV.ok_more h _ this.2⟩
  · rename_i mo _ _ _
    cases mo with
    | none => rfl
    | some n => exact h n h2
  · exact SV.oks_more h _ h2
theorem Hp.ok_less {k k' : Nat} (h : k ≤ k') {F : Hp} (hF : F.ok (fun n => decide (n < k)) = true) : F.ok (fun n => decide (n < k')) = true := Hp.ok_mono (fun n hn => by simp at hn ⊢; omega) hF
theorem HpW.of_lk {k : Nat} {hp : Hp} : ∀ {h : Hp}, h.ok (fun n => decide (n < k)) = true → (∀ x, x ∈ h → lk hp x.1 = some x.2) → HpW id k hp h
  | [], _, _ => trivial
  | (n, ob) :: r, hq, hl => by
    unfold Hp.ok at hq
    simp only [List.all_cons, Bool.and_eq_true, decide_eq_true_eq] at hq
    refine ⟨?_, hq.1.1, hq.1.2, HpW.of_lk (by unfold Hp.ok; exact hq.2) fun x hx => hl x (by simp [hx])⟩
    rw [Ob.ren_id]; exact hl (n, ob) (by simp)
theorem Weak.same {k0 : Nat} {st st1 : St} (h1 : k0 ≤ st1.k) (h2 : EnvW id st1.k st.env st1.env) (h3 : st1.hp.ok (fun n => decide (n < st1.k)) = true) (h4 : ∀ x, x ∈ st1.hp → lk st.hp x.1 = some x.2) : Weak k0 st st1 id :=
  ⟨h1, fun _ _ => rfl, h2, HpW.of_lk h3 h4, fun _ _ _ _ e => e⟩
theorem ne4 {x y : Nat} (h : x ≠ y) : (x == y) = false ∧ (y == x) = false ∧ (x = y) = False ∧ (y = x) = False :=
  ⟨by simpa using h, by simpa using Ne.symm h, eq_false h, eq_false (Ne.symm h)⟩
section
variable {N k0 : Nat} {st : St} {Q : Exit → St → Prop}
theorem SW.mapLoop {it a b id : Nat} {bs : List Nat} {body : SCo} {α : Type} (I : α → St) (m : α → Nat) (i0 : α) (ρ0 : Nat → Nat) (nit nm since sst c : α → Nat) (seen : α → List Nat) (es : α → List (Nat × SV × SV))
    (h0 : Weak k0 st (I i0) ρ0) (hit : ∀ i, (I i).env.lookup it = some (.it (nit i))) (hI : ∀ i, lk (I i).hp (nit i) = some (.iter (some (nm i)) (since i) (seen i) (sst i))) (hM : ∀ i, lk (I i).hp (nm i) = some (.map (es i) (c i)))
    (hne : ∀ i, nit i ≠ nm i) (hold : ∀ i e, e ∈ es i → e.1 < since i) (hst : ∀ i, since i ≤ sst i)
    (fin : ∀ i, (∀ e, e ∈ es i → (seen i).contains e.1 = true) → ∃ st1 ρ, Weak k0 ⟨(b, .d (.bool false)) :: (a, .tup [.d (.bool false)]) :: (I i).env, (I i).hp, (I i).k⟩ st1 ρ ∧ Q (.exit id) st1)
    (step : ∀ i e, e ∈ es i → (seen i).contains e.1 = false → SW P N k0 body ⟨(b, .d (.bool true)) :: (a, .tup [.d (.bool true), e.2.1, e.2.2]) :: (I i).env, hset (I i).hp (nit i) (.iter (some (nm i)) (since i) (seen i ++ [e.1]) (c i)), (I i).k⟩
      fun ex st' => match ex with | .normal => ∃ j ρ, m j < m i ∧ Weak k0 st' (I j) ρ | e => Q e st') :
    SW P N k0 (.loop (.seq (.reg [⟨some a, .mnext (.t it), none⟩, ⟨some b, .ext 0 (.t a), none⟩] bs false) (.seq (.cond (.t b) .skip (.exit id)) body))) st Q := by
  refine SW.loop I m i0 ρ0 h0 fun i => SW.seq (SW.ofN (SWn.mnext (hit i) (hI i) (hM i) (hne i) (hold i) (hst i) fun v F' hv => ?_))
  have hmm : lk ([(nit i, .iter (some (nm i)) (since i) (seen i) (sst i)), (nm i, .map (es i) (c i))] : Hp) (nit i) = some (.iter (some (nm i)) (since i) (seen i) (sst i)) := by simp [lk_cons]
  rcases hv with ⟨rfl, rfl, hall⟩ | ⟨e, he, hs, rfl, rfl⟩
  · have hh : hmrg false (I i).hp [(nit i, .iter (some (nm i)) (since i) (seen i) (sst i)), (nm i, .map (es i) (c i))] [(nit i, .iter (some (nm i)) (since i) (seen i) (sst i)), (nm i, .map (es i) (c i))] = (I i).hp := by
      have h1 : (lk ([(nit i, .iter (some (nm i)) (since i) (seen i) (sst i)), (nm i, .map (es i) (c i))] : Hp) (nit i)).isSome = true := by simp [lk_cons]
      have h2 : (lk ([(nit i, .iter (some (nm i)) (since i) (seen i) (sst i)), (nm i, .map (es i) (c i))] : Hp) (nm i)).isSome = true := by rw [lk_cons]; split <;> simp [lk_cons]
      simp only [hmrg, hdels, h1, h2, if_true, hsets, Bool.false_eq_true, if_false]
      rw [hset_same (hM i), hset_same (hI i)]
    refine SWn.runs (crs := []) (st' := ⟨(b, .d (.bool false)) :: (a, .tup [.d (.bool false)]) :: (I i).env, (I i).hp, (I i).k⟩) (ob := True ∧ True) (ts := [(true, [])]) ?_ ⟨trivial, trivial⟩ ?_
    · simp only [Go.Sl.runs, runOp, goOp, sop, upd, ev, List.lookup, BEq.rfl, roOf, hh, Nat.add_zero, List.getElem?_cons_zero, hmrg_ro, touchL, List.map_nil, List.append_nil]
    · obtain ⟨st1, ρ, hw, hq⟩ := fin i hall
      refine SW.seq (SW.cond (b := false) ?_ (fun h => by cases h) (fun _ => SW.weak ρ hw (SW.exit hq)))
      simp only [ev, List.lookup, BEq.rfl]
  · have hh : hmrg false (I i).hp [(nit i, .iter (some (nm i)) (since i) (seen i) (sst i)), (nm i, .map (es i) (c i))] [(nit i, .iter (some (nm i)) (since i) (seen i ++ [e.1]) (c i)), (nm i, .map (es i) (c i))] = hset (I i).hp (nit i) (.iter (some (nm i)) (since i) (seen i ++ [e.1]) (c i)) := by
      have h1 : (lk ([(nit i, .iter (some (nm i)) (since i) (seen i ++ [e.1]) (c i)), (nm i, .map (es i) (c i))] : Hp) (nit i)).isSome = true := by simp [lk_cons]
      have h2 : (lk ([(nit i, .iter (some (nm i)) (since i) (seen i ++ [e.1]) (c i)), (nm i, .map (es i) (c i))] : Hp) (nm i)).isSome = true := by rw [lk_cons]; split <;> simp [lk_cons]
      simp only [hmrg, hdels, h1, h2, if_true, hsets, Bool.false_eq_true, if_false]
      rw [hset_same (hM i)]
    refine SWn.runs (crs := []) (st' := ⟨(b, .d (.bool true)) :: (a, .tup [.d (.bool true), e.2.1, e.2.2]) :: (I i).env, hset (I i).hp (nit i) (.iter (some (nm i)) (since i) (seen i ++ [e.1]) (c i)), (I i).k⟩) (ob := True ∧ True) (ts := [(true, [])]) ?_ ⟨trivial, trivial⟩ ?_
    · simp only [Go.Sl.runs, runOp, goOp, sop, upd, ev, List.lookup, BEq.rfl, roOf, hh, Nat.add_zero, List.getElem?_cons_zero, hmrg_ro, touchL, List.map_nil, List.append_nil]
    · refine SW.seq (SW.cond (b := true) ?_ (fun _ => SW.skip ?_) (fun h => by cases h))
      · simp only [ev, List.lookup, BEq.rfl]
      · exact step i e he hs
theorem SW.mapLoop0 {it a b id n since s : Nat} {seen : List Nat} {bs : List Nat} {body : SCo} (ρ0 : Nat → Nat) (st1 : St) (h0 : Weak k0 st st1 ρ0) (hit : st1.env.lookup it = some (.it n)) (hI : lk st1.hp n = some (.iter none since seen s))
    (fin : ∃ st2 ρ, Weak k0 ⟨(b, .d (.bool false)) :: (a, .tup [.d (.bool false)]) :: st1.env, st1.hp, st1.k⟩ st2 ρ ∧ Q (.exit id) st2) :
    SW P N k0 (.loop (.seq (.reg [⟨some a, .mnext (.t it), none⟩, ⟨some b, .ext 0 (.t a), none⟩] bs false) (.seq (.cond (.t b) .skip (.exit id)) body))) st Q := by
  refine SW.loop (fun _ : Unit => st1) (fun _ => 0) () ρ0 h0 fun i => SW.seq (SW.ofN (SWn.mnext0 hit hI ?_))
  have hh : hmrg false st1.hp [(n, .iter none since seen s)] [(n, .iter none since seen s)] = st1.hp := by
    have h1 : (lk ([(n, .iter none since seen s)] : Hp) n).isSome = true := by simp [lk_cons]
    simp only [hmrg, hdels, h1, if_true, hsets, Bool.false_eq_true, if_false]
    rw [hset_same hI]
  refine SWn.runs (crs := []) (st' := ⟨(b, .d (.bool false)) :: (a, .tup [.d (.bool false)]) :: st1.env, st1.hp, st1.k⟩) (ob := True ∧ True) (ts := [(true, [])]) ?_ ⟨trivial, trivial⟩ ?_
  · simp only [Go.Sl.runs, runOp, goOp, sop, upd, ev, List.lookup, BEq.rfl, roOf, hh, Nat.add_zero, List.getElem?_cons_zero, hmrg_ro, touchL, List.map_nil, List.append_nil]
  · obtain ⟨st2, ρ, hw, hq⟩ := fin
    refine SW.seq (SW.cond (b := false) ?_ (fun h => by cases h) (fun _ => SW.weak ρ hw (SW.exit hq)))
    simp only [ev, List.lookup, BEq.rfl]
end
end Go.Sl
namespace Go.Sl
open Go.RowKit
def Ob.frz (n len : Nat) (ds : List DV) : Ob → Ob
  | .box t cs => .box t (SV.frzs n len ds cs)
  | o => o
def frzH (n len : Nat) (ds : List DV) (h : Hp) : Hp := h.map fun x => (x.1, x.2.frz n len ds)
theorem lk_frzH (n len : Nat) (ds : List DV) : ∀ (h : Hp) (m : Nat), lk (frzH n len ds h) m = (lk h m).map (Ob.frz n len ds)
  | [], m => rfl
  | (q, o) :: h, m => by
    have ih := lk_frzH n len ds h m
    unfold frzH at ih ⊢
    rw [List.map_cons, lk_cons, lk_cons]
    split
    · rfl
    · exact ih
theorem SatF.frzd {p : Nat → Prop} {μ : Nat → Nm} {M : Mem} {w : World} {h : Hp} {n len : Nat} {ds : List DV} (hS : SatF p μ M (lk h) w) (hg : ∀ v, Rp p μ M (.gs n len) v → Rp p μ M (.d (.sl len ds)) v) : SatF p μ M (lk (frzH n len ds h)) w := by
  refine ⟨⟨hS.mem.cell, hS.mem.glob⟩, fun m ob hm => ?_, fun m m' hm hm' => ?_⟩
  · rw [lk_frzH] at hm
    obtain ⟨o, ho, rfl⟩ := Option.map_eq_some_iff.1 hm
    obtain ⟨a1, a2, a3⟩ := hS.obs m o ho
    refine ⟨a1, ?_, a3⟩
    cases o with
    | box t cs =>
      simp only [ObRep, Ob.frz] at a2 ⊢
      obtain ⟨b1, vs, b2, b3⟩ := a2
      exact ⟨b1, vs, b2, SV.frzs_rep hg cs _ b3⟩
    | _ => exact a2
  · have key : ∀ m, lk (frzH n len ds h) m ≠ none → lk h m ≠ none := fun m hm hn => hm (by rw [lk_frzH, hn]; rfl)
    exact hS.inj m m' (key m hm) (key m' hm')
section
variable {P : Program} {N k0 : Nat} {st : St} {Q : Exit → St → Prop}
theorem StA.freezeB {μ0 : Nat → Nm} {M0 : Mem} {w0 : World} {c0 : Nat → Option Ob} {a : Act} {w : World} (n : Nat) {e sz len : Nat} {cs : List SV} {ds : List DV} (hn : lk st.hp n = some (.arr e sz len cs)) (hcs : cs = ds.map .d)
    (h : StA N μ0 M0 w0 c0 k0 st a w) : StA N μ0 M0 w0 c0 k0 ⟨frzE n len ds st.env, frzH n len ds (hdel st.hp n), st.k⟩ a w := by
  subst hcs
  obtain ⟨hk0, hdf, hsz, μ, M, hsl, hS, hE⟩ := h
  obtain ⟨hpn, hob, hMn⟩ := hS.obs n _ hn
  rcases hob with ⟨hdead, hl0, hds⟩ | ⟨hlive, vs, hb, hl1, hl2, hl3, hl4, hr⟩
  · have hd0 : ds = [] := by simpa using hds
    subst hd0; subst hl0
    have hg : ∀ v, Rp (· < st.k) μ M (.gs n 0) v → Rp (· < st.k) μ M (.d (.sl 0 [])) v := fun v hv => by
      refine Rp.d_iff.2 ?_
      simp only [RepD]
      obtain ⟨h, _⟩ | ⟨_, _, A, e1⟩ := hv.gs_of
      · rw [hdead] at h; cases h
      · exact ⟨A, 0, e1, Nat.le_refl _, fun _ => trivial, fun h => absurd h (Nat.lt_irrefl _)⟩
    have hsub : ∀ m ob, lk (hdel st.hp n) m = some ob → lk st.hp m = some ob := fun m ob hm => by
      rw [lk_hdel] at hm
      split at hm
      · cases hm
      · exact hm
    refine ⟨hk0, hdf, hsz, μ, M, fun t s hs => ?_, (hS.sub hsub).frzd hg, hE.fewer fun m hm => ?_⟩
    · rw [lookup_frz] at hs
      obtain ⟨s', hs', rfl⟩ := Option.map_eq_some_iff.1 hs
      exact SV.frz_rep hg s' _ (hsl t s' hs')
    · obtain ⟨o1, ho1⟩ := Option.ne_none_iff_exists'.1 hm
      rw [lk_frzH] at ho1
      obtain ⟨o2, ho2, _⟩ := Option.map_eq_some_iff.1 ho1
      rw [hsub m o2 ho2]; simp
  have hMn := hMn hlive
  have hlen : ds.length = len * sz := by simpa using hl1
  let M' : Mem := fun b o => if b = (μ n).blk then (if o < len * sz then vs[o]? else none) else M b o
  have hne : ∀ b, b ≠ (μ n).blk → ∀ o, M' b o = M b o := fun b hb o => by simp [M', hb]
  have hle : Mem.le M M' := fun b o v hv => by
    have : b ≠ (μ n).blk := fun e => by rw [e, hMn] at hv; cases hv
    rw [hne b this]; exact hv
  have hoth : ∀ m, lk st.hp m ≠ none → m ≠ n → (μ m).live = true → (μ m).blk ≠ (μ n).blk := fun m hm hmn lm e => hmn (hS.inj m n hm (by rw [hn]; simp) lm hlive e)
  have hsub : ∀ m ob, lk (hdel st.hp n) m = some ob → lk st.hp m = some ob ∧ m ≠ n := fun m ob hm => by
    rw [lk_hdel] at hm
    split at hm
    · cases hm
    · rename_i e; exact ⟨hm, e⟩
  have hg : ∀ v, Rp (· < st.k) μ M' (.gs n len) v → Rp (· < st.k) μ M' (.d (.sl len ds)) v := fun v hv => by
    obtain ⟨_, e1⟩ | ⟨h, _⟩ := hv.gs_of
    rotate_left
    · rw [hlive] at h; cases h
    refine Rp.d_iff.2 ?_
    simp only [RepD]
    refine ⟨_, _, e1, hl2, fun h0 => ?_, fun _ => ⟨_, _, rfl, RepR.mk fun i c hi => ?_⟩⟩
    · subst h0
      simp at hlen
      exact hlen
    · obtain ⟨u, hu, hru⟩ := hr.d_get hi
      have hil : i < len * sz := by rw [← hlen]; exact (List.getElem?_eq_some_iff.1 hi).1
      refine ⟨u, ?_, RepD.mono hle _ _ hru⟩
      rw [List.getElem?_take_of_lt hil] at hu
      simp only [M', if_true, Nat.zero_add, hil]
      simpa using hu
  have hS2 : SatF (· < st.k) μ M' (lk (hdel st.hp n)) w := by
    refine ⟨⟨fun b o v hv => ?_, hS.mem.glob.le hle⟩, fun m ob hm => ?_, fun m m' hm hm' lm lm' e => ?_⟩
    · by_cases hbn : b = (μ n).blk
      · subst hbn
        simp only [M', if_true] at hv
        split at hv
        · rw [cell_of hb]; exact hv
        · cases hv
      · rw [hne b hbn] at hv
        exact hS.mem b o v hv
    · obtain ⟨hm1, hmn⟩ := hsub m ob hm
      obtain ⟨a1, a2, a3⟩ := hS.obs m ob hm1
      refine ⟨a1, a2.more (fun _ h => h) (fun _ _ => rfl) hle fun _ => rfl, fun lm o => ?_⟩
      rw [hne _ (hoth m (by rw [hm1]; simp) hmn lm)]
      exact a3 lm o
    · obtain ⟨o1, ho1⟩ := Option.ne_none_iff_exists'.1 hm
      obtain ⟨o2, ho2⟩ := Option.ne_none_iff_exists'.1 hm'
      exact hS.inj m m' (by rw [(hsub m o1 ho1).1]; simp) (by rw [(hsub m' o2 ho2).1]; simp) lm lm' e
  refine ⟨hk0, hdf, hsz, μ, M', fun t s hs => ?_, hS2.frzd hg, ⟨hE.old, Mem.le_trans hE.mem hle, fun b hb0 hf => ?_, hE.size, fun m hm => ?_, hE.os, hE.tape, hE.output⟩⟩
  · rw [lookup_frz] at hs
    obtain ⟨s', hs', rfl⟩ := Option.map_eq_some_iff.1 hs
    exact SV.frz_rep hg s' _ ((hsl t s' hs').more (fun _ h => h) (fun _ _ => rfl) hle)
  · have hbn : b ≠ (μ n).blk := fun e => by
      rcases hE.names n (by rw [hn]; simp) with ⟨_, hh⟩ | ⟨h, h'⟩
      · rcases hh hlive with h | ⟨m, hm, lm, e'⟩
        · omega
        · exact hf m hm lm (e'.trans e.symm)
      · rw [hE.old n h] at e hlive
        exact hf n h' hlive e.symm
    obtain ⟨f1, f2⟩ := hE.frame b hb0 hf
    exact ⟨f1, fun o => by rw [hne b hbn]; exact f2 o⟩
  · obtain ⟨o1, ho1⟩ := Option.ne_none_iff_exists'.1 hm
    rw [lk_frzH] at ho1
    obtain ⟨o2, ho2, _⟩ := Option.map_eq_some_iff.1 ho1
    exact hE.names m (by rw [(hsub m o2 ho2).1]; simp)
theorem SW.freezeB {s : SCo} (n : Nat) {e sz len : Nat} {cs : List SV} (ds : List DV) (hn : lk st.hp n = some (.arr e sz len cs)) (hcs : cs = ds.map .d) (h : SW P N k0 s ⟨frzE n len ds st.env, frzH n len ds (hdel st.hp n), st.k⟩ Q) : SW P N k0 s st Q :=
  fun c hc rd hrf μ0 M0 w0 c0 a w hSt => h c hc rd hrf μ0 M0 w0 c0 a w (hSt.freezeB n hn hcs)
end
end Go.Sl
namespace Go.Sl
theorem Vec.count_put (v : Vec) {r : Nat} (hr : r < 8) : (v.set r (v.get r + 1)).count = v.count + 1 := by
  match r, hr with
  | 0, _ => simp [Vec.count, Vec.set, Vec.of, Vec.get]; omega
  | 1, _ => simp [Vec.count, Vec.set, Vec.of, Vec.get]; omega
  | 2, _ => simp [Vec.count, Vec.set, Vec.of, Vec.get]; omega
  | 3, _ => simp [Vec.count, Vec.set, Vec.of, Vec.get]; omega
  | 4, _ => simp [Vec.count, Vec.set, Vec.of, Vec.get]; omega
  | 5, _ => simp [Vec.count, Vec.set, Vec.of, Vec.get]; omega
  | 6, _ => simp [Vec.count, Vec.set, Vec.of, Vec.get]; omega
  | 7, _ => simp [Vec.count, Vec.set, Vec.of, Vec.get]; omega
theorem fit_int {P : Program} {d : Nat} {t : TypeId} {k : IntKind} {ds : List DV} (ht : P.underlying t = some (.int k)) (h : Fit P (d + 1) t ds) : ∃ n, ds = [.int k n] ∧ (Lit.int k n).wf = true := by
  rw [Fit, ht] at h
  exact h
theorem wf_u32 {n : Int} (h : (Lit.int .u32 n).wf = true) : ∃ m : Nat, n = (m : Int) ∧ m < 4294967296 := by
  simp [Lit.wf, IntKind.min, IntKind.max, IntKind.signed, IntKind.bits] at h
  exact ⟨n.toNat, by omega, by omega⟩
theorem wf_u8 {n : Int} (h : (Lit.int .u8 n).wf = true) : ∃ m : Nat, n = (m : Int) ∧ m < 256 := by
  simp [Lit.wf, IntKind.min, IntKind.max, IntKind.signed, IntKind.bits] at h
  exact ⟨n.toNat, by omega, by omega⟩
theorem wf_i64 {n : Int} (h : (Lit.int .i64 n).wf = true) : -9223372036854775808 ≤ n ∧ n < 9223372036854775808 := by
  simp [Lit.wf, IntKind.min, IntKind.max, IntKind.signed, IntKind.bits] at h
  omega
theorem fit_u32 {P : Program} {d : Nat} {t : TypeId} {ds : List DV} (ht : P.underlying t = some (.int .u32)) (h : Fit P (d + 1) t ds) : ∃ m : Nat, m < 4294967296 ∧ ds = [.int .u32 m] := by
  obtain ⟨n, rfl, hw⟩ := fit_int ht h
  obtain ⟨m, rfl, hm⟩ := wf_u32 hw
  exact ⟨m, hm, rfl⟩
theorem fit_u8 {P : Program} {d : Nat} {t : TypeId} {ds : List DV} (ht : P.underlying t = some (.int .u8)) (h : Fit P (d + 1) t ds) : ∃ m : Nat, m < 256 ∧ ds = [.int .u8 m] := by
  obtain ⟨n, rfl, hw⟩ := fit_int ht h
  obtain ⟨m, rfl, hm⟩ := wf_u8 hw
  exact ⟨m, hm, rfl⟩
theorem fit_i64 {P : Program} {d : Nat} {t : TypeId} {ds : List DV} (ht : P.underlying t = some (.int .i64)) (h : Fit P (d + 1) t ds) : ∃ n : Int, (-9223372036854775808 ≤ n ∧ n < 9223372036854775808) ∧ ds = [.int .i64 n] := by
  obtain ⟨n, rfl, hw⟩ := fit_int ht h
  exact ⟨n, wf_i64 hw, rfl⟩
theorem fit_bool {P : Program} {d : Nat} {t : TypeId} {ds : List DV} (ht : P.underlying t = some .bool) (h : Fit P (d + 1) t ds) : ∃ b : Bool, ds = [.bool b] := by
  rw [Fit, ht] at h
  exact h
theorem one_at {ds : List DV} {o : Nat} {x : DV} (h : (ds.drop o).take 1 = [x]) : ds[o]? = some x := by
  have := congrArg (·[0]?) h
  simpa [List.getElem?_take] using this
theorem fit_vec {P : Program} {d : Nat} {t e : TypeId} {ds : List DV} (ht : P.underlying t = some (.array 8 e)) (he : P.underlying e = some (.int .u32)) (hc : P.cellsOf t = 8) (hce : P.cellsOf e = 1) (h : Fit P (d + 2) t ds) : ∃ v : Vec, v.wf ∧ ds = v.ds := by
  rw [Fit, ht] at h
  dsimp only at h
  obtain ⟨hl, hi⟩ := h
  rw [hc] at hl
  rw [hce] at hi
  have key : ∀ i, i < 8 → ∃ m : Nat, m < 4294967296 ∧ ds[i]? = some (.int .u32 m) := fun i hlt => by
    obtain ⟨m, hm, e1⟩ := fit_u32 (d := d) he (hi i hlt)
    exact ⟨m, hm, one_at (by simpa using e1)⟩
  obtain ⟨m0, h0, e0⟩ := key 0 (by omega)
  obtain ⟨m1, h1, e1⟩ := key 1 (by omega)
  obtain ⟨m2, h2, e2⟩ := key 2 (by omega)
  obtain ⟨m3, h3, e3⟩ := key 3 (by omega)
  obtain ⟨m4, h4, e4⟩ := key 4 (by omega)
  obtain ⟨m5, h5, e5⟩ := key 5 (by omega)
  obtain ⟨m6, h6, e6⟩ := key 6 (by omega)
  obtain ⟨m7, h7, e7⟩ := key 7 (by omega)
  refine ⟨⟨m0, m1, m2, m3, m4, m5, m6, m7⟩, fun r hr => ?_, List.ext_getElem? fun i => ?_⟩
  · match r, hr with
    | 0, _ => exact h0
    | 1, _ => exact h1
    | 2, _ => exact h2
    | 3, _ => exact h3
    | 4, _ => exact h4
    | 5, _ => exact h5
    | 6, _ => exact h6
    | 7, _ => exact h7
  · match i with
    | 0 => rw [e0]; rfl
    | 1 => rw [e1]; rfl
    | 2 => rw [e2]; rfl
    | 3 => rw [e3]; rfl
    | 4 => rw [e4]; rfl
    | 5 => rw [e5]; rfl
    | 6 => rw [e6]; rfl
    | 7 => rw [e7]; rfl
    | i + 8 => rw [List.getElem?_eq_none (by omega), List.getElem?_eq_none (by simp [Vec.ds])]
theorem fit_field {P : Program} {d : Nat} {t : TypeId} {fs : Array Field} {ds : List DV} (ht : P.underlying t = some (.struct fs)) (h : Fit P (d + 1) t ds) (i : Nat) (f : Field) (hf : fs[i]? = some f) :
    Fit P d f.type ((ds.drop f.offset).take (P.cellsOf f.type)) := by
  rw [Fit, ht] at h
  dsimp only at h
  exact h.2 f (by simpa using Array.mem_of_getElem? hf)
theorem fit_len {P : Program} {d : Nat} {t : TypeId} {fs : Array Field} {ds : List DV} (ht : P.underlying t = some (.struct fs)) (h : Fit P (d + 1) t ds) : ds.length = P.cellsOf t := by
  rw [Fit, ht] at h
  dsimp only at h
  exact h.1
theorem fit_slice {P : Program} {d : Nat} {t e : TypeId} {ds : List DV} {α : Type} (f : α → List DV) (ok : α → Prop) (ht : P.underlying t = some (.slice e)) (hp : ∀ ds, Fit P d e ds → ∃ x, ok x ∧ ds = f x)
    (h : Fit P (d + 1) t ds) : (ds = [.nils]) ∨ ∃ l : List α, (∀ x ∈ l, ok x) ∧ l.length ≤ 9223372036854775807 ∧ ds = [.sl l.length (l.flatMap f)] := by
  rw [Fit, ht] at h
  dsimp only at h
  rcases h with h | ⟨n, cs, rfl, hn, hl, hi⟩
  · exact .inl h
  · refine .inr ?_
    have key : ∀ k, k ≤ n → ∃ l : List α, (∀ x ∈ l, ok x) ∧ l.length = k ∧ cs.take (k * P.cellsOf e) = l.flatMap f := by
      intro k
      induction k with
      | zero => intro _; exact ⟨[], by simp, rfl, by simp⟩
      | succ k ih =>
        intro hk
        obtain ⟨l, a1, a2, a3⟩ := ih (by omega)
        obtain ⟨x, b1, b2⟩ := hp _ (hi k hk)
        refine ⟨l ++ [x], fun y hy => ?_, by simp [a2], ?_⟩
        · rcases List.mem_append.1 hy with h | h
          · exact a1 y h
          · simp at h; subst h; exact b1
        · rw [Nat.succ_mul, List.take_add, a3, b2]; simp
    obtain ⟨l, a1, a2, a3⟩ := key n (Nat.le_refl _)
    rw [List.take_of_length_le (by omega)] at a3
    exact ⟨l, a1, by omega, by rw [a2, a3]⟩
end Go.Sl
namespace Go.Sl
open Go.RowKit
structure Cm where
  line : Dt
  ver : Dt
  deriving DecidableEq
def Cm.ds (x : Cm) : List DV := x.line.ds ++ x.ver.ds
@[simp] theorem cms_len (l : List Cm) : (l.flatMap Cm.ds).length = l.length * 4 := flat_length Cm.ds 4 (fun _ => rfl) l
end Go.Sl
namespace Go.Sl
open Go.RowKit
end Go.Sl
