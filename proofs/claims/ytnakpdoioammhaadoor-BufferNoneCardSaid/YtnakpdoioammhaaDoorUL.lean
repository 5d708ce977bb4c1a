/-
  Histories: what a row knows, counted; the program's own test of a history is the document's.
-/
import Derived.Test.YtnakpdoioammhaaDoorU8
import Derived.Test.YtnakpdoioammhaaDoorUK
import Derived.Test.YtnakpdoioammhaaDoorU9
import Derived.Test.YtnakpdoioammhaaDoorU7
set_option linter.unusedSectionVars false
set_option linter.unusedVariables false
set_option linter.unusedSimpArgs false
namespace Go.Sl
def knStep (v : Vec) (o : OpD) : Vec := if o.dot.r < 8 then v.set o.dot.r (max (v.get o.dot.r) o.dot.n) else v
def knownV (l : List OpD) : Vec := l.foldl knStep Vec.zero
theorem knStep_ge (v : Vec) (o : OpD) {r : Nat} (hr : r < 8) : v.get r ≤ (knStep v o).get r := by
  unfold knStep
  split
  · rw [Vec.set_get _ _ _ hr]; split
    · rename_i e; rw [← e]; omega
    · omega
  · omega
theorem knStep_own (v : Vec) (o : OpD) (hr : o.dot.r < 8) : o.dot.n ≤ (knStep v o).get o.dot.r := by
  unfold knStep
  rw [if_pos hr, Vec.set_get _ _ _ hr, if_pos rfl]; omega
theorem knStep_at (v : Vec) (o : OpD) {r : Nat} (hr : r < 8) : (knStep v o).get r = v.get r ∨ (o.dot = ⟨r, (knStep v o).get r⟩) := by
  unfold knStep
  split
  · rw [Vec.set_get _ _ _ hr]; split
    · rename_i e
      rcases Nat.le_total o.dot.n (v.get o.dot.r) with h | h
      · left; rw [← e] at h ⊢; omega
      · right
        rw [Nat.max_eq_right h]
        cases hd : o.dot; rw [hd] at e; rw [e]
    · exact .inl rfl
  · exact .inl rfl
theorem known_ge : ∀ (l : List OpD) (v : Vec) {r : Nat}, r < 8 → v.get r ≤ (l.foldl knStep v).get r
  | [], v, r, _ => Nat.le_refl _
  | o :: l, v, r, hr => Nat.le_trans (knStep_ge v o hr) (known_ge l (knStep v o) hr)
theorem known_own : ∀ (l : List OpD) (v : Vec) {o : OpD}, o ∈ l → o.dot.r < 8 → o.dot.n ≤ (l.foldl knStep v).get o.dot.r
  | x :: l, v, o, ho, hr => by
    rcases List.mem_cons.1 ho with rfl | ho
    · exact Nat.le_trans (knStep_own v o hr) (known_ge l _ hr)
    · exact known_own l (knStep v x) ho hr
theorem known_at : ∀ (l : List OpD) (v : Vec) {r : Nat}, r < 8 → (l.foldl knStep v).get r = v.get r ∨ ∃ o, o ∈ l ∧ o.dot = ⟨r, (l.foldl knStep v).get r⟩
  | [], v, r, _ => .inl rfl
  | o :: l, v, r, hr => by
    rcases known_at l (knStep v o) hr with h | ⟨x, hx, h⟩
    · rcases knStep_at v o hr with h2 | h2
      · left
        show (l.foldl knStep (knStep v o)).get r = _
        rw [h, h2]
      · right
        refine ⟨o, by simp, ?_⟩
        show o.dot = ⟨r, (l.foldl knStep (knStep v o)).get r⟩
        rw [h]; exact h2
    · exact .inr ⟨x, List.mem_cons_of_mem _ hx, h⟩
theorem knownV_ge {l : List OpD} {o : OpD} (ho : o ∈ l) (hr : o.dot.r < 8) : o.dot.n ≤ (knownV l).get o.dot.r := known_own l _ ho hr
theorem knownV_at (l : List OpD) {r : Nat} (hr : r < 8) : (knownV l).get r = 0 ∨ ∃ o, o ∈ l ∧ o.dot = ⟨r, (knownV l).get r⟩ := by
  rcases known_at l Vec.zero hr with h | h
  · left; unfold knownV; rw [h, Vec.zero_get]
  · exact .inr h
theorem knownV_snoc (l : List OpD) (x : OpD) : knownV (l ++ [x]) = knStep (knownV l) x := by unfold knownV; rw [List.foldl_append]; rfl
def cntR (l : List OpD) (r : Nat) : Nat := l.countP fun o => decide (o.dot.r = r)
theorem cntR_sum : ∀ (l : List OpD), (∀ o, o ∈ l → o.dot.r < 8) → l.length = cntR l 0 + cntR l 1 + cntR l 2 + cntR l 3 + cntR l 4 + cntR l 5 + cntR l 6 + cntR l 7
  | [], _ => rfl
  | x :: l, h => by
    have ih := cntR_sum l fun o ho => h o (List.mem_cons_of_mem _ ho)
    have hx := h x (by simp)
    simp only [cntR, List.countP_cons, List.length_cons] at ih ⊢
    generalize x.dot.r = r at hx ⊢
    match r, hx with
    | 0, _ | 1, _ | 2, _ | 3, _ | 4, _ | 5, _ | 6, _ | 7, _ => simp; omega
theorem nodup_le {g : Nat} {ns : List Nat} (hn : ns.Nodup) (hb : ∀ n, n ∈ ns → 0 < n ∧ n ≤ g) : ns.length ≤ g := by
  have h : (ns.map fun n => n - 1).Nodup := by
    unfold List.Nodup at hn ⊢
    rw [List.pairwise_map]
    exact List.Pairwise.imp_of_mem (fun ha hb' hab => by have := hb _ ha; have := hb _ hb'; omega) hn
  have := h.length_le_of_subset (l₂ := List.range g) fun x hx => by
    obtain ⟨n, hm, rfl⟩ := List.mem_map.1 hx
    have := hb n hm
    exact List.mem_range.2 (by omega)
  simpa using this
theorem nodup_all {g : Nat} {ns : List Nat} (hn : ns.Nodup) (hb : ∀ n, n ∈ ns → 0 < n ∧ n ≤ g) (hl : ns.length = g) {n : Nat} (h0 : 0 < n) (hg : n ≤ g) : n ∈ ns := by
  refine Classical.byContradiction fun hno => ?_
  have := nodup_le (g := g) (ns := n :: ns) (List.nodup_cons.2 ⟨hno, hn⟩) fun m hm => by
    rcases List.mem_cons.1 hm with rfl | hm
    · exact ⟨h0, hg⟩
    · exact hb m hm
  simp at this; omega
def nsOf (l : List OpD) (r : Nat) : List Nat := (l.filter fun o => decide (o.dot.r = r)).map (·.dot.n)
theorem nsOf_len (l : List OpD) (r : Nat) : (nsOf l r).length = cntR l r := by unfold nsOf cntR; rw [List.length_map, List.countP_eq_length_filter]
theorem mem_nsOf {l : List OpD} {r n : Nat} : n ∈ nsOf l r ↔ ∃ o, o ∈ l ∧ o.dot = ⟨r, n⟩ := by
  unfold nsOf
  simp only [List.mem_map, List.mem_filter, decide_eq_true_eq]
  constructor
  · rintro ⟨o, ⟨ho, e⟩, rfl⟩
    exact ⟨o, ho, by rw [← e]⟩
  · rintro ⟨o, ho, e⟩
    exact ⟨o, ⟨ho, by rw [e]⟩, by rw [e]⟩
theorem nsOf_nd {l : List OpD} (h : Uniq l) (r : Nat) : (nsOf l r).Nodup := by
  unfold nsOf List.Nodup
  rw [List.pairwise_map]
  have h2 : (l.filter fun o => decide (o.dot.r = r)).Pairwise fun a b => a.dot ≠ b.dot := by
    have : Uniq (l.filter fun o => decide (o.dot.r = r)) := h.sub List.filter_sublist
    unfold Uniq List.Nodup at this
    rwa [List.pairwise_map] at this
  refine List.Pairwise.imp_of_mem (fun {a b} ha hb hab e => hab ?_) h2
  simp only [List.mem_filter, decide_eq_true_eq] at ha hb
  cases h1 : a.dot; cases h3 : b.dot
  rw [h1] at ha e; rw [h3] at hb e
  have e1 := ha.2; have e2 := hb.2
  simp only at e1 e2 e
  rw [e1, e2, e]
def Whole (l : List OpD) : Prop := ∀ r n, r < 8 → 0 < n → n ≤ (knownV l).get r → ∃ o, o ∈ l ∧ o.dot = ⟨r, n⟩
theorem cntR_le {l : List OpD} (h : Uniq l) (hd : ∀ o, o ∈ l → o.dot.r < 8 ∧ 0 < o.dot.n) {r : Nat} (hr : r < 8) : cntR l r ≤ (knownV l).get r := by
  rw [← nsOf_len]
  refine nodup_le (nsOf_nd h r) fun n hn => ?_
  obtain ⟨o, ho, e⟩ := mem_nsOf.1 hn
  have h1 := hd o ho
  have h2 := knownV_ge ho h1.1
  rw [e] at h1 h2
  exact ⟨h1.2, h2⟩
theorem whole_iff {l : List OpD} (h : Uniq l) (hd : ∀ o, o ∈ l → o.dot.r < 8 ∧ 0 < o.dot.n) : Whole l ↔ (knownV l).count = l.length := by
  have hs := cntR_sum l fun o ho => (hd o ho).1
  have hle := fun r (hr : r < 8) => cntR_le h hd hr
  constructor
  · intro hw
    have heq : ∀ r, r < 8 → cntR l r = (knownV l).get r := fun r hr => by
      refine Nat.le_antisymm (hle r hr) ?_
      rw [← nsOf_len]
      have h1 : (List.range' 1 ((knownV l).get r)).Nodup := List.nodup_range'
      have := h1.length_le_of_subset (l₂ := nsOf l r) fun n hn => by
        rw [List.mem_range'_1] at hn
        exact mem_nsOf.2 (hw r n hr (by omega) (by omega))
      simpa using this
    have e0 := heq 0 (by omega)
    have e1 := heq 1 (by omega)
    have e2 := heq 2 (by omega)
    have e3 := heq 3 (by omega)
    have e4 := heq 4 (by omega)
    have e5 := heq 5 (by omega)
    have e6 := heq 6 (by omega)
    have e7 := heq 7 (by omega)
    rw [hs, e0, e1, e2, e3, e4, e5, e6, e7]
    rfl
  · intro hc r n hr h0 hn
    have hc : (knownV l).get 0 + (knownV l).get 1 + (knownV l).get 2 + (knownV l).get 3 + (knownV l).get 4 + (knownV l).get 5 + (knownV l).get 6 + (knownV l).get 7 = l.length := hc
    have e0 := hle 0 (by omega)
    have e1 := hle 1 (by omega)
    have e2 := hle 2 (by omega)
    have e3 := hle 3 (by omega)
    have e4 := hle 4 (by omega)
    have e5 := hle 5 (by omega)
    have e6 := hle 6 (by omega)
    have e7 := hle 7 (by omega)
    have heq : cntR l r = (knownV l).get r := by
      match r, hr with
      | 0, _ | 1, _ | 2, _ | 3, _ | 4, _ | 5, _ | 6, _ | 7, _ => omega
    rw [← nsOf_len] at heq
    refine mem_nsOf.1 (nodup_all (nsOf_nd h r) (fun m hm => ?_) heq h0 hn)
    obtain ⟨o, ho, e⟩ := mem_nsOf.1 hm
    have h1 := hd o ho
    have h2 := knownV_ge ho h1.1
    rw [e] at h1 h2
    exact ⟨h1.2, h2⟩
theorem whole_of {l : List OpD} (h : ∀ o, o ∈ l → OneOf l o) : Whole l := by
  intro r n hr h0 hn
  rcases knownV_at l hr with e | ⟨o, ho, e⟩
  · omega
  · have key : ∀ k, k < (knownV l).get r → ∃ a, a ∈ l ∧ a.dot = ⟨r, (knownV l).get r - k⟩ := by
      intro k
      induction k with
      | zero => intro _; exact ⟨o, ho, e⟩
      | succ k ih =>
        intro hk
        obtain ⟨a, ha, ea⟩ := ih (by omega)
        have e1 : a.dot.r = r := by rw [ea]
        have e2 : a.dot.n = (knownV l).get r - k := by rw [ea]
        have := (h a ha).prev (by omega)
        rw [e1, e2] at this
        exact cntO_pos.1 (by rw [show (knownV l).get r - (k + 1) = (knownV l).get r - k - 1 by omega]; omega)
    obtain ⟨a, ha, ea⟩ := key ((knownV l).get r - n) (by omega)
    exact ⟨a, ha, by rw [ea]; congr 1; omega⟩
theorem oneOf_iff {l : List OpD} (hd : ∀ o, o ∈ l → o.dot.r < 8 ∧ 0 < o.dot.n) :
    (∀ o, o ∈ l → OneOf l o) ↔ Uniq l ∧ (knownV l).count = l.length ∧ ∀ o, o ∈ l → (knownV l).above o.dep = true ∧ ∀ a, a ∈ l → a.before o = true → a.time < o.time ∧ o.dep.above a.dep = true := by
  constructor
  · intro h
    have hu : Uniq l := Uniq.cnt fun o ho => (h o ho).self
    refine ⟨hu, (whole_iff hu hd).1 (whole_of h), fun o ho => ⟨Vec.above_iff.2 fun r hr => ?_, (h o ho).bef⟩⟩
    rcases Nat.eq_zero_or_pos (o.dep.get r) with h0 | h0
    · omega
    · have := (h o ho).deps r hr h0
      obtain ⟨a, ha, ea⟩ := cntO_pos.1 (by rw [this]; omega)
      have := knownV_ge ha (by rw [ea]; exact hr)
      rw [ea] at this; exact this
  · rintro ⟨hu, hc, ha⟩ o ho
    have hw := (whole_iff hu hd).2 hc
    have h1 := hd o ho
    have hk := knownV_ge ho h1.1
    refine ⟨hu.cnt1 ⟨o, ho, rfl⟩, fun h2 => hu.cnt1 (hw _ _ h1.1 (by omega) (by omega)), fun r hr h0 => hu.cnt1 (hw r _ hr h0 (Vec.above_iff.1 (ha o ho).1 r hr)), (ha o ho).2⟩
def insL (out : List OpD) (x : OpD) : List OpD := out.takeWhile (fun y => y.lt x) ++ x :: out.dropWhile (fun y => y.lt x)
def sortedR (l : List OpD) : List OpD := l.foldl insL []
theorem insL_perm (out : List OpD) (x : OpD) : (insL out x).Perm (x :: out) := by
  unfold insL
  refine List.perm_middle.trans ?_
  rw [List.takeWhile_append_dropWhile]
theorem insL_rises {out : List OpD} {x : OpD} (h : Rises out) (hx : ∀ y, y ∈ out → y.dot ≠ x.dot) : Rises (insL out x) := by
  unfold insL
  induction out with
  | nil => exact List.pairwise_singleton _ _
  | cons y out ih =>
    have h1 := List.pairwise_cons.1 h
    by_cases e : y.lt x = true
    · simp only [List.takeWhile_cons, List.dropWhile_cons, e, if_true, List.cons_append]
      refine List.pairwise_cons.2 ⟨fun z hz => ?_, ih h1.2 fun z hz => hx z (List.mem_cons_of_mem _ hz)⟩
      rcases List.mem_append.1 hz with hz | hz
      · exact h1.1 z ((List.takeWhile_sublist _).subset hz)
      · rcases List.mem_cons.1 hz with rfl | hz
        · exact e
        · exact h1.1 z ((List.dropWhile_sublist _).subset hz)
    · have e' : y.lt x = false := Bool.eq_false_iff.2 e
      simp only [List.takeWhile_cons, List.dropWhile_cons, e', Bool.false_eq_true, if_false, List.nil_append]
      have hxy : x.lt y = true := (OpD.lt_total fun e => hx y (by simp) e.symm).resolve_right e
      exact List.pairwise_cons.2 ⟨fun z hz => by
        rcases List.mem_cons.1 hz with rfl | hz
        · exact hxy
        · exact OpD.lt_trans hxy (h1.1 z hz), h⟩
theorem sortedR_snoc (l : List OpD) (x : OpD) : sortedR (l ++ [x]) = insL (sortedR l) x := by unfold sortedR; rw [List.foldl_append]; rfl
theorem foldl_insL : ∀ (l out : List OpD), (l.foldl insL out).Perm (l ++ out)
  | [], out => List.Perm.refl _
  | x :: l, out => (foldl_insL l (insL out x)).trans ((List.Perm.append_left l (insL_perm out x)).trans List.perm_middle)
theorem sortedR_perm (l : List OpD) : (sortedR l).Perm l := by
  have := foldl_insL l []
  rwa [List.append_nil] at this
theorem foldl_rises : ∀ (l out : List OpD), Uniq (l ++ out) → Rises out → Rises (l.foldl insL out)
  | [], out, _, h => h
  | x :: l, out, hu, h => by
    have hp : (x :: l ++ out).Perm (l ++ x :: out) := List.perm_middle.symm
    have hu2 : Uniq (l ++ x :: out) := hu.perm hp.symm
    refine foldl_rises l (insL out x) (hu2.perm (List.Perm.append_left l (insL_perm out x))) (insL_rises h fun y hy e => ?_)
    unfold Uniq at hu
    rw [List.cons_append, List.map_cons, List.nodup_cons] at hu
    exact hu.1 (List.mem_map.2 ⟨y, List.mem_append.2 (.inr hy), e⟩)
theorem sortedR_eq {l : List OpD} (h : Uniq l) : sortedR l = osorted l := by
  have h1 : Rises (sortedR l) := foldl_rises l [] (by rwa [List.append_nil]) List.Pairwise.nil
  exact h1.unique (osorted_rises h) ((sortedR_perm l).trans (osorted_perm l).symm)
end Go.Sl
namespace Go.Sl
open Go.RowKit
variable {P : Program}
end Go.Sl
namespace Go.Sl
open Go.RowKit
theorem cO_eqnil {P : Program} {op : Op} {neg : Bool} {kd : Nat} {x' : X} (hc : cO P op = some (.eqnil neg kd x')) : ∃ b t x y t', op = .binOp b t x y t' ∧ isEq b = true ∧ isNeq b = neg ∧ nilKd P t y = some kd ∧ cX x = some x' := by
  cases op <;> simp only [cO] at hc <;> try (cases hc; done)
  case binOp b t x y t' =>
    refine ⟨b, t, x, y, t', rfl, ?_⟩
    by_cases hq : isEq b = true
    · rw [if_pos hq] at hc
      split at hc
      · repeat' (first | contradiction | (cases hc; done) | split at hc)
      · repeat' (first | contradiction | (cases hc; done) | split at hc)
      · repeat' (first | contradiction | (cases hc; done) | split at hc)
      · repeat' (first | contradiction | (cases hc; done) | split at hc)
      · split at hc <;> first | (cases hc; done) | skip
        rename_i h1 h2
        injection hc with hc
        injection hc with e1 e2 e3
        subst e2; subst e3
        exact ⟨hq, e1, h1, h2⟩
    · rw [if_neg hq] at hc
      repeat' (first | contradiction | (cases hc; done) | split at hc)
  all_goals (repeat' (first | contradiction | (cases hc; done) | (obtain ⟨_, _, hh⟩ := Option.map_eq_some_iff.1 hc; cases hh; done) | split at hc))
theorem sq_eqnilS {P : Program} {o : Oper} {E : Nat → Option SV} {H : Nat → Option Ob} {k : Nat} {neg : Bool} {x' : X} {n : Nat} {cs : List DV} (hc : cO P o.op = some (.eqnil neg 3 x')) (hx : ev E x' = some (.d (.sl n cs))) :
    SoundQ P o E H k 0 [] (fun v F' => F' = [] ∧ (v = .d (.bool neg) ∨ (n = 0 ∧ v = .d (.bool !neg)))) := by
  obtain ⟨op, t, x, y, t', ho, hop, hneg, hy, hcx⟩ := cO_eqnil hc
  subst hneg
  refine ⟨sub_nil, fun rd p μ M a w K QQ hnew hk hS hK => ?_⟩
  obtain ⟨A, c, e1, e2, e3, e4⟩ := (by simpa [RepD] using Rp.d_iff.1 (hk.get (by simp [ho, Op.operands]) hcx hx) : ∃ A cp, a.eval x = .slice A n cp ∧ n ≤ cp ∧ (n = 0 → cs = []) ∧ (0 < n → ∃ b q, A = some ⟨b, q, none⟩ ∧ RepR M b q cs))
  have hty : ∃ e, P.underlying t = some (.slice e) ∧ a.eval y = .slice none 0 0 := by
    unfold nilKd at hy
    split at hy <;> first | (cases hy; done) | skip
    all_goals first
      | (injection hy with hy; cases hy; done)
      | exact ⟨_, by assumption, rfl⟩
  obtain ⟨el, hty, hyv⟩ := hty
  have h0 : ∀ d, (Op.equalIn (d + 1) t (a.eval x) (a.eval y)).run P w = .ok A.isNone w := fun d => by
    rw [e1, hyv]; cases A <;> simp [Op.equalIn, run_underlying hty]
  have h1 := h0 9999
  clear h0
  have n5 : eqGuard op t x y (a.eval x) (a.eval y) = Pure.pure () := by rw [e1]; simp [eqGuard_at_slice]
  have hb : (binOp op t (a.eval x) (a.eval y)).run P w = .ok (.bool (bif isNeq op then !A.isNone else A.isNone)) w := by
    rw [e1, hyv] at h1 ⊢
    rcases isEq_cases hop with rfl | rfl <;> simp [binOp, Op.equal, Op.maxDepth, h1, isNeq]
  have hex : (execOp a.eval o).run P w = .ok (.value (.bool (bif isNeq op then !A.isNone else A.isNone))) w := by
    simp only [execOp, ho, Sem.run_bind, n5, Sem.run_pure, Result.andThen_ok, hb]
  refine wp_value hex (hK (.d (.bool (bif isNeq op then !A.isNone else A.isNone))) [] _ μ M w ⟨rfl, ?_⟩ (Rp.bool_iff.2 rfl) (hS.more fun _ h => .inl h) (Ev.refl _ _ _ _ _ fun n h => by simp [lk_nil] at h))
  by_cases hn : n = 0
  · cases A <;> cases isNeq op <;> simp [hn]
  · obtain ⟨b, q, rfl, _⟩ := e4 (by omega)
    left
    cases isNeq op <;> rfl
theorem SWn.manyR {P : Program} {N k0 : Nat} {st : St} {K : St → Prop} {si : SI} {r : List SI} {F : Hp} {nk : Nat} {Q : SV → Hp → Prop} (hg : si.g = none) (hq : ∀ o : Oper, cO P o.op = some si.op → SoundQ P o (fun t => st.env.lookup t) (lk st.hp) st.k nk F Q)
    (hro : ∀ v F', Q v F' → F' = F) (h : ∀ v F', Q v F' → SWn P N k0 r (upd st si ⟨v, F, F', nk, True⟩) K) : SWn P N k0 (si :: r) st K := by
  refine SWn.cons fun ops o hc hN rd μ0 M0 w0 c0 a w hSt i ho Q' KK hKK => ?_
  obtain ⟨g1, g2, g3⟩ := cOper_spec hc
  have hgn : o.guard = none := by
    rcases g3 with ⟨h, _⟩ | ⟨j, w, t, h, _, h'⟩
    · exact h
    · rw [hg] at h'; cases h'
  unfold wpOpIn
  simp only [ho, Region.wanted, hgn, if_true]
  exact (StA.step g2 (fun d hd => hN d (by rw [g2]; exact hd)) (hq o g1) (fun v F' hQ hr => hro v F' hQ) hSt fun v F' hQ a' w' hSt' => hKK _ a' w' (h v F' hQ) hSt')
theorem SW.nilS {P : Program} {N k0 : Nat} {st : St} {Q : Exit → St → Prop} {d s t n : Nat} {cs : List DV} {neg : Bool} {bs : List Nat} (hl : st.env.lookup s = some (.d (.sl n cs)))
    (h1 : Q .normal ⟨(d, .d (.bool neg)) :: (t, .d (.sl n cs)) :: st.env, st.hp, st.k⟩) (h2 : n = 0 → Q .normal ⟨(d, .d (.bool !neg)) :: (t, .d (.sl n cs)) :: st.env, st.hp, st.k⟩) :
    SW P N k0 (.reg [⟨some t, .mv (.t s), none⟩, ⟨some d, .eqnil neg 3 (.t t), none⟩] bs false) st Q := by
  refine SW.ofN (SWn.one (crs := []) (c2 := []) (e := ⟨.d (.sl n cs), [], [], 0, True⟩) (by simp only [runOp, goOp, sop, ev, hl]) trivial ?_)
  refine SWn.manyR rfl (fun o hc => sq_eqnilS (n := n) (cs := cs) hc (by simp [upd, ev])) (fun v F' h => h.1) fun v F' hv => SWn.nil ?_
  obtain ⟨rfl, rfl | ⟨h0, rfl⟩⟩ := hv
  · exact h1
  · exact h2 h0
end Go.Sl
namespace Go.Sl
open Go.RowKit
variable {P : Program}
theorem SWn.manyG {N k0 : Nat} {st : St} {K : St → Prop} {si : SI} {r : List SI} {t : Nat} {b : Bool} {F : Hp} {nk : Nat} {Q : SV → Hp → Prop} (hg : si.g = some (t, b)) (hgv : st.env.lookup t = some (.d (.bool b))) (hq : ∀ o : Oper, cO P o.op = some si.op → SoundQ P o (fun t => st.env.lookup t) (lk st.hp) st.k nk F Q)
    (hro : roOf si.op = false) (h : ∀ v F', Q v F' → SWn P N k0 r (upd st si ⟨v, F, F', nk, True⟩) K) : SWn P N k0 (si :: r) st K := by
  refine SWn.cons fun ops o hc hN rd μ0 M0 w0 c0 a w hSt i ho Q' KK hKK => ?_
  obtain ⟨g1, g2, g3⟩ := cOper_spec hc
  obtain ⟨hk0, hdf, hsz, μ, M, hsl, hS, hE⟩ := hSt
  have hSt : StA N μ0 M0 w0 c0 k0 st a w := ⟨hk0, hdf, hsz, μ, M, hsl, hS, hE⟩
  have hw : Region.wanted o (yielded ops a.tmps) = true := by
    rcases g3 with ⟨_, h'⟩ | ⟨j, w, t', hg', hd, h'⟩
    · rw [hg] at h'; cases h'
    · rw [hg] at h'
      injection h' with h'
      injection h' with e1 e2
      subst e1; subst e2
      have hv := Rp.bool_iff.1 (hsl t _ hgv)
      simp only [Region.wanted, hg', yielded_of hd hv]
      simp
  unfold wpOpIn
  simp only [ho, hw, if_true]
  exact (StA.step g2 (fun d hd => hN d (by rw [g2]; exact hd)) (hq o g1) (fun v F' _ hr => by rw [hro] at hr; cases hr) hSt fun v F' hQ a' w' hSt' => hKK _ a' w' (h v F' hQ) hSt')
end Go.Sl
namespace Go.Sl
open Go.RowKit
end Go.Sl
namespace Go.Sl
open Go.RowKit
variable {P : Program}
section
variable {σ : Type} {G : Hp} {Fh : σ → Hp} {s : σ} {kk : Nat}
end
section
variable {N k0 : Nat} {K : St → Prop}
end
end Go.Sl
namespace Go.Sl
open Go.RowKit
section
variable {P : Program} {N k0 : Nat} {st : St} {Q : Exit → St → Prop}
end
end Go.Sl
