/-
  Trees of credentials: what New has made, plainly: each credential is by one that is there, and what is not there is refused; the document's answer is the same.
-/
import Derived.Test.YtmmonbnlleeloaaKB
import Derived.Test.YtmmonbnlleeloaaChecked
import Derived.Shelf.SlSortCmp.NoneTotal
import Derived.Test.YtmmonbnlleeloaaK5
set_option linter.unusedSectionVars false
set_option linter.unusedVariables false
set_option linter.unusedSimpArgs false
namespace Go.Proofs.Ytmmonbnlleeloaa
open Go.Sl Go.Proofs
theorem hasB_bit (r i : Nat) : hasB r (2 ^ i) = r.testBit i := by
  unfold hasB; rw [Nat.testBit_eq_decide_div_mod_eq]
theorem withinTo_iff (r o : Nat) : ∀ n, withinTo r o n = true ↔ ∀ i, i < n → r.testBit i = true → o.testBit i = true
  | 0 => by simp [withinTo]
  | n + 1 => by
    simp only [withinTo, Bool.and_eq_true, withinTo_iff r o n, hasB_bit, Bool.or_eq_true, Bool.not_eq_true']
    constructor
    · rintro ⟨h1, h2⟩ i hi hr
      by_cases e : i = n
      · subst e
        rcases h2 with h2 | h2
        · rw [h2] at hr; cases hr
        · exact h2
      · exact h1 i (by omega) hr
    · intro h
      refine ⟨fun i hi => h i (by omega), ?_⟩
      cases hr : r.testBit n with
      | false => exact .inl rfl
      | true => exact .inr (h n (by omega) hr)
theorem bits_u8 (v : BitVec 8) : IntKind.u8.wrap ((v.toNat : Nat) : Int) = v.toNat := wrap_u8 _ v.isLt
theorem andNot_eq (r o : Nat) : bits .andNot .u8 (r : Int) (o : Int) = ((BitVec.ofNat 8 r &&& ~~~BitVec.ofNat 8 o).toNat : Int) := by
  show IntKind.u8.wrap (((BitVec.ofInt 8 (r : Int) &&& ~~~BitVec.ofInt 8 (o : Int)).toNat : Nat) : Int) = _
  rw [bits_u8, BitVec.ofInt_natCast, BitVec.ofInt_natCast]
theorem and_eq (r o : Nat) : bits .and .u8 (r : Int) (o : Int) = ((BitVec.ofNat 8 r &&& BitVec.ofNat 8 o).toNat : Int) := by
  show IntKind.u8.wrap (((BitVec.ofInt 8 (r : Int) &&& BitVec.ofInt 8 (o : Int)).toNat : Nat) : Int) = _
  rw [bits_u8, BitVec.ofInt_natCast, BitVec.ofInt_natCast]
theorem andNot_zero (r o : Nat) : bits .andNot .u8 (r : Int) (o : Int) = 0 ↔ ∀ i, i < 8 → r.testBit i = true → o.testBit i = true := by
  rw [andNot_eq]
  constructor
  · intro h i hi hr
    have h0 : BitVec.ofNat 8 r &&& ~~~BitVec.ofNat 8 o = 0#8 := BitVec.eq_of_toNat_eq (by simpa using h)
    have h1 : (BitVec.ofNat 8 r &&& ~~~BitVec.ofNat 8 o).getLsbD i = false := by rw [h0]; simp
    rw [BitVec.getLsbD_and, BitVec.getLsbD_not, BitVec.getLsbD_ofNat, BitVec.getLsbD_ofNat] at h1
    simpa [hi, hr] using h1
  · intro h
    have h0 : BitVec.ofNat 8 r &&& ~~~BitVec.ofNat 8 o = 0#8 := by
      apply BitVec.eq_of_getLsbD_eq
      intro i hi
      rw [BitVec.getLsbD_and, BitVec.getLsbD_not, BitVec.getLsbD_ofNat, BitVec.getLsbD_ofNat]
      have := h i hi
      cases hr : r.testBit i with
      | false => simp
      | true => simp [hi, this hr]
    rw [h0]; rfl
theorem andOne (r : Nat) : (bits .and .u8 (r : Int) 1 == 0) = !hasB r 1 := by
  have h := and_eq r 1
  have e : hasB r 1 = r.testBit 0 := hasB_bit r 0
  rw [show ((1 : Nat) : Int) = 1 from rfl] at h
  rw [h, e, BitVec.toNat_and, BitVec.toNat_ofNat, BitVec.toNat_ofNat]
  rw [show (1 % 2 ^ 8 : Nat) = 1 from rfl, Nat.and_one_is_mod, Nat.testBit_zero, Bool.eq_iff_iff]
  simp only [beq_iff_eq, Bool.not_eq_true', decide_eq_false_iff_not]
  omega
theorem narrow_same (o : OpD) (c : Cr) : narrowV o c = rnarrow o c := by
  unfold narrowV rnarrow withinV
  have h : (bits .andNot .u8 (o.roles : Int) (c.roles : Int) != 0) = !withinTo o.roles c.roles 8 := by
    rw [Bool.eq_iff_iff, bne_iff_ne, Bool.not_eq_true', ne_eq, andNot_zero, ← withinTo_iff, Bool.not_eq_true]
  rw [h]
  congr 3
  cases withinTo o.roles c.roles 8 <;> by_cases e : o.roles = 0 <;> simp [e]
theorem findO_cons (x : OpD) (l : List OpD) (d : Dt) : findO (x :: l) d = if x.dot = d then some x else findO l d := by
  unfold findO
  rw [List.find?_cons]
  by_cases h : x.dot = d <;> simp [h]
theorem findO_dot {l : List OpD} {d : Dt} {o : OpD} (h : findO l d = some o) : o.dot = d := by
  have := List.find?_some h
  simpa using this
theorem findO_mem {l : List OpD} {d : Dt} {o : OpD} (h : findO l d = some o) : o ∈ l := List.mem_of_find?_eq_some h
theorem On.cnt_step (s : On) (x : OpD) (d : Dt) : (On.step s x).1.cnt d = if d = x.dot then s.cnt x.dot + 1 else s.cnt d := by
  show (MM.get (MM.put s.L s.c x.dot (s.cnt x.dot + 1)) d).getD 0 = _
  rw [MM.get_put]
  by_cases h : d = x.dot
  · rw [if_pos h, if_pos h]; rfl
  · rw [if_neg h, if_neg h]; rfl
theorem firsts_go : ∀ (l : List OpD) (s : On), (∀ d, 0 ≤ s.cnt d) → (∀ o, o ∈ (keepD On.step s l).1 ↔ s.cnt o.dot = 0 ∧ findO l o.dot = some o ∧ o.kind ≤ 1) ∧ ((keepD On.step s l).1.map (·.dot)).Nodup
  | [], s, h => ⟨fun o => by simp [keepD, findO], by simp [keepD]⟩
  | x :: l, s, h => by
    have hs : ∀ d, 0 ≤ (On.step s x).1.cnt d := fun d => by
      rw [On.cnt_step]; have := h x.dot; have := h d; split <;> omega
    obtain ⟨ih1, ih2⟩ := firsts_go l (On.step s x).1 hs
    have hb : (On.step s x).2 = (decide (s.cnt x.dot + 1 > 1) || decide (x.kind > 1)) := rfl
    have hx := h x.dot
    simp only [keepD]
    by_cases e : (On.step s x).2 = true
    · rw [if_pos e]
      refine ⟨fun o => ?_, ih2⟩
      rw [ih1 o, On.cnt_step, findO_cons]
      rw [hb] at e
      simp only [Bool.or_eq_true, decide_eq_true_eq] at e
      by_cases ed : x.dot = o.dot
      · rw [if_pos ed.symm, if_pos ed]
        constructor
        · rintro ⟨h1, _⟩; omega
        · rintro ⟨h1, h2, h3⟩
          injection h2 with h2
          subst h2
          omega
      · rw [if_neg (Ne.symm ed), if_neg ed]
    · rw [if_neg e]
      rw [hb] at e
      simp only [Bool.or_eq_true, decide_eq_true_eq, not_or, Int.not_lt, Nat.not_lt, gt_iff_lt] at e
      refine ⟨fun o => ?_, ?_⟩
      · rw [List.mem_cons, ih1 o, On.cnt_step, findO_cons]
        by_cases ed : x.dot = o.dot
        · rw [if_pos ed.symm, if_pos ed]
          constructor
          · rintro (rfl | ⟨h1, _⟩)
            · exact ⟨by omega, rfl, by omega⟩
            · omega
          · rintro ⟨h1, h2, h3⟩
            injection h2 with h2
            exact .inl h2.symm
        · rw [if_neg (Ne.symm ed), if_neg ed]
          constructor
          · rintro (rfl | h1)
            · exact absurd rfl ed
            · exact h1
          · exact .inr
      · rw [List.map_cons, List.nodup_cons]
        refine ⟨fun hm => ?_, ih2⟩
        obtain ⟨o, ho, hod⟩ := List.mem_map.1 hm
        have := ((ih1 o).1 ho).1
        rw [On.cnt_step, if_pos hod] at this
        omega
theorem firsts_mem (l : List OpD) (o : OpD) : o ∈ firsts l ↔ findO l o.dot = some o ∧ o.kind ≤ 1 := by
  have h := (firsts_go l ⟨[], 0⟩ (fun d => Int.le_refl 0)).1 o
  rw [firsts, h]
  exact ⟨fun ⟨_, h⟩ => h, fun h => ⟨rfl, h⟩⟩
theorem firsts_nd (l : List OpD) : ((firsts l).map (·.dot)).Nodup := (firsts_go l ⟨[], 0⟩ (fun d => Int.le_refl 0)).2
structure By (o : OpD) (p : Cr) (q : OpD) (c : Cr) : Prop where
  kind : o.kind = 1
  cart : p.cart = o.cart
  bef : q.before o = true
  hold : p.hold = o.who
  own : hasB p.roles 1 = true
  nar : rnarrow o p = false
  is : c = ⟨o.dot, o.cart, o.cred, o.to, o.roles, o.depth, o.cap, p.level + 1⟩
structure CrOk (l : List OpD) (a : MM Dt Cr) (d : Dt) (o : OpD) (c : Cr) : Prop where
  fd : findO l d = some o
  lv : 0 ≤ c.level ∧ c.level + (c.depth : Int) ≤ 8
  how : (o.kind = 0 ∧ o.cart = d ∧ c = rootC o) ∨ ∃ p q, MM.get a o.cred = some p ∧ findO l o.cred = some q ∧ By o p q c
theorem CrOk.dot {l : List OpD} {a : MM Dt Cr} {d : Dt} {o : OpD} {c : Cr} (h : CrOk l a d o c) : c.dot = d := by
  have hd := findO_dot h.fd
  rcases h.how with ⟨_, _, e⟩ | ⟨p, q, _, _, hb⟩
  · rw [e]; exact hd
  · rw [hb.is]; exact hd
structure TInv (l : List OpD) (T : Tr) (W : List OpD) : Prop where
  cr : ∀ d c, MM.get T.at_ d = some c → ∃ o, MM.get T.made d = some o ∧ CrOk l T.at_ d o c
  w1 : ∀ o, o ∈ W → findO l o.dot = some o ∧ o.kind ≤ 1 ∧ MM.get T.at_ o.dot = none
  w2 : (W.map (·.dot)).Nodup
  all : ∀ d o, findO l d = some o → o.kind ≤ 1 → o ∈ W ∨ ∃ c, MM.get T.at_ d = some c
theorem rnarrow_depth {o : OpD} {c : Cr} (h : rnarrow o c = false) : o.depth < c.depth ∧ o.cap ≤ c.cap ∧ o.to ≠ 0 ∧ withinV o.roles c.roles = true := by
  unfold rnarrow at h
  simp only [Bool.or_eq_false_iff, Bool.not_eq_false', beq_eq_false_iff_ne, decide_eq_false_iff_not] at h
  obtain ⟨⟨⟨h1, h2⟩, h3⟩, h4⟩ := h
  exact ⟨by omega, by omega, by omega, h1⟩
theorem why_zero {T : Tr} {o : OpD} (h : T.why o = 0) : o.kind = 1 ∧ T.noCred o = false ∧ (T.by o).hold = o.who ∧ hasB (T.by o).roles 1 = true ∧ rnarrow o (T.by o) = false := by
  unfold Tr.why at h
  rw [andOne, narrow_same] at h
  by_cases h1 : o.kind = 1
  · rw [if_neg (by omega)] at h
    by_cases h2 : T.noCred o = true
    · rw [if_pos h2] at h; omega
    · rw [if_neg h2] at h
      by_cases h3 : (T.by o).hold = o.who
      · rw [if_neg (by omega)] at h
        by_cases h4 : (!hasB (T.by o).roles 1) = true
        · rw [if_pos h4] at h; omega
        · rw [if_neg h4] at h
          by_cases h5 : rnarrow o (T.by o) = true
          · rw [if_pos h5] at h; omega
          · exact ⟨h1, by simpa using h2, h3, by simpa using h4, by simpa using h5⟩
      · rw [if_pos h3] at h; omega
  · rw [if_pos h1] at h; omega
theorem TInv.put {l : List OpD} {T : Tr} {K W : List OpD} {o : OpD} (h : TInv l T (K ++ o :: W)) (hr : T.refuses o = false) : TInv l (T.put o).1 (K ++ W) := by
  obtain ⟨cr, w1, w2, all⟩ := h
  obtain ⟨o1, o2, o3⟩ := w1 o (by simp)
  have ep : (T.put o).1 = { T with at_ := MM.put T.at_ T.ca o.dot (T.made1 o), ca := MM.clk T.at_ T.ca o.dot, made := MM.put T.made T.cm o.dot o, cm := MM.clk T.made T.cm o.dot } := by
    unfold Tr.put; rw [if_neg (by rw [hr]; decide)]
  have ga : ∀ d, MM.get (T.put o).1.at_ d = if d = o.dot then some (T.made1 o) else MM.get T.at_ d := fun d => by
    rw [ep]; exact MM.get_put
  have gm : ∀ d, MM.get (T.put o).1.made d = if d = o.dot then some o else MM.get T.made d := fun d => by
    rw [ep]; exact MM.get_put
  have up : ∀ d c, MM.get T.at_ d = some c → MM.get (T.put o).1.at_ d = some c := fun d c hc => by
    rw [ga, if_neg (fun e => by rw [e, o3] at hc; cases hc)]; exact hc
  have w2' : (K ++ o :: W).map (·.dot) = K.map (·.dot) ++ o.dot :: W.map (·.dot) := by simp
  rw [w2', List.nodup_append, List.nodup_cons] at w2
  obtain ⟨n1, ⟨n2, n3⟩, n4⟩ := w2
  have hne : ∀ x, x ∈ K ++ W → x.dot ≠ o.dot := fun x hx e => by
    rcases List.mem_append.1 hx with hx | hx
    · exact n4 _ (List.mem_map.2 ⟨x, hx, rfl⟩) _ (List.mem_cons_self ..) e
    · exact n2 (List.mem_map.2 ⟨x, hx, e⟩)
  refine ⟨fun d c hc => ?_, fun x hx => ?_, ?_, fun d x hd hk => ?_⟩
  · rw [ga] at hc
    by_cases e : d = o.dot
    · rw [if_pos e] at hc
      injection hc with hc
      refine ⟨o, by rw [gm, if_pos e], ?_⟩
      subst e
      unfold Tr.refuses at hr
      simp only [Bool.or_eq_false_iff, Bool.and_eq_false_iff, decide_eq_false_iff_not, Bool.not_eq_false', decide_eq_true_eq] at hr
      by_cases hk : o.kind = 1
      · have hw : T.why o = 0 := by rcases hr.2 with h | h; exact absurd hk h; exact Decidable.not_not.1 h
        obtain ⟨_, h2, h3, h4, h5⟩ := why_zero hw
        unfold Tr.noCred at h2
        simp only [Bool.or_eq_false_iff, Bool.not_eq_false', decide_eq_true_eq] at h2
        obtain ⟨⟨h6, h7⟩, h8⟩ := h2
        obtain ⟨p, hp⟩ := Option.isSome_iff_exists.1 (show (MM.get T.at_ o.cred).isSome = true from h6)
        have eb : T.by o = p := by unfold Tr.by; rw [hp]; rfl
        obtain ⟨q, hq, hqc⟩ := cr _ _ hp
        have em : T.maker o = q := by unfold Tr.maker; rw [hq]; rfl
        rw [eb] at h3 h4 h5 h7
        rw [em] at h8
        obtain ⟨l1, l2⟩ := hqc.lv
        obtain ⟨n1, _⟩ := rnarrow_depth h5
        have ec : c = ⟨o.dot, o.cart, o.cred, o.to, o.roles, o.depth, o.cap, p.level + 1⟩ := by
          rw [← hc]
          unfold Tr.made1 grantC
          rw [if_pos hk, eb, wrap_i _ (by omega) (by omega)]
        refine ⟨o1, ?_, .inr ⟨p, q, up _ _ hp, hqc.fd, ⟨hk, h7, h8, h3, h4, h5, ec⟩⟩⟩
        rw [ec]
        exact ⟨by show 0 ≤ p.level + 1; omega, by show p.level + 1 + (o.depth : Int) ≤ 8; omega⟩
      · have hk0 : o.kind = 0 := by omega
        have ec : o.cart = o.dot := by rcases hr.1 with h | h; exact absurd hk0 h; exact h
        have ecr : c = rootC o := by rw [← hc]; unfold Tr.made1; rw [if_neg hk]
        refine ⟨o1, ?_, .inl ⟨hk0, ec, ecr⟩⟩
        rw [ecr]
        exact ⟨by show (0 : Int) ≤ 0; omega, by show (0 : Int) + ((8 : Nat) : Int) ≤ 8; omega⟩
    · rw [if_neg e] at hc
      obtain ⟨x, hx, hxc⟩ := cr d c hc
      refine ⟨x, by rw [gm, if_neg e]; exact hx, hxc.fd, hxc.lv, ?_⟩
      rcases hxc.how with h | ⟨p, q, h1, h2, h3⟩
      · exact .inl h
      · exact .inr ⟨p, q, up _ _ h1, h2, h3⟩
  · obtain ⟨a1, a2, a3⟩ := w1 x (by
      rcases List.mem_append.1 hx with h | h
      · exact List.mem_append_left _ h
      · exact List.mem_append_right _ (List.mem_cons_of_mem _ h))
    exact ⟨a1, a2, by rw [ga, if_neg (hne x hx)]; exact a3⟩
  · rw [List.map_append, List.nodup_append]
    exact ⟨n1, n3, fun a ha b hb => n4 a ha b (List.mem_cons_of_mem _ hb)⟩
  · rcases all d x hd hk with h | ⟨c, hc⟩
    · by_cases e : x.dot = o.dot
      · refine .inr ⟨T.made1 o, ?_⟩
        rw [ga, if_pos (by rw [← findO_dot hd]; exact e)]
      · rcases List.mem_append.1 h with h | h
        · exact .inl (List.mem_append_left _ h)
        · rcases List.mem_cons.1 h with h | h
          · rw [h] at e; exact absurd rfl e
          · exact .inl (List.mem_append_right _ h)
    · exact .inr ⟨c, up _ _ hc⟩
theorem step_put (s : TS) (o : OpD) : (TrS.step s o).2 = !s.T.refuses o ∧ (s.T.refuses o = true → (TrS.step s o).1.T = s.T) := by
  show (s.T.put o).2 = _ ∧ (_ → (s.T.put o).1 = s.T)
  unfold Tr.put
  cases h : s.T.refuses o with
  | true => exact ⟨rfl, fun _ => rfl⟩
  | false => exact ⟨rfl, fun h => by cases h⟩
theorem TInv.keep {l : List OpD} : ∀ (W K : List OpD) (s : TS), TInv l s.T (K ++ W) → TInv l (keepD TrS.step s W).2.T (K ++ (keepD TrS.step s W).1)
  | [], K, s, h => h
  | x :: W, K, s, h => by
    obtain ⟨p1, p2⟩ := step_put s x
    simp only [keepD]
    cases hr : s.T.refuses x with
    | false =>
      rw [p1, hr, if_pos (by rfl)]
      exact TInv.keep W K _ (h.put hr)
    | true =>
      rw [p1, hr, if_neg (by decide)]
      have := TInv.keep W (K ++ [x]) (TrS.step s x).1 (by rw [p2 hr, List.append_assoc]; exact h)
      rw [List.append_assoc] at this
      exact this
theorem keep_end : ∀ (W : List OpD) (s : TS), ¬ (keepD TrS.step s W).1.length < W.length → (keepD TrS.step s W).1 = W ∧ (keepD TrS.step s W).2.T = s.T ∧ ∀ o, o ∈ W → s.T.refuses o = true
  | [], s, _ => ⟨rfl, rfl, fun o h => by cases h⟩
  | x :: W, s, h => by
    obtain ⟨p1, p2⟩ := step_put s x
    have hl := keepD_len TrS.step W (TrS.step s x).1
    simp only [keepD] at h ⊢
    cases hr : s.T.refuses x with
    | false =>
      rw [p1, hr, if_pos (by rfl)] at h
      exact absurd (by simp; omega) h
    | true =>
      rw [p1, hr, if_neg (by decide)] at h ⊢
      obtain ⟨a1, a2, a3⟩ := keep_end W (TrS.step s x).1 (by simpa using h)
      rw [p2 hr] at a2 a3
      exact ⟨by rw [a1], a2, fun o ho => by
        rcases List.mem_cons.1 ho with rfl | ho
        · exact hr
        · exact a3 o ho⟩
structure TOk (l : List OpD) (T : Tr) : Prop where
  cr : ∀ d c, MM.get T.at_ d = some c → ∃ o, MM.get T.made d = some o ∧ CrOk l T.at_ d o c
  no : ∀ d o, findO l d = some o → o.kind ≤ 1 → T.refuses o = true ∨ ∃ c, MM.get T.at_ d = some c
theorem grow_ok {l : List OpD} : ∀ (f : Nat) (s : TS) (W : List OpD), W.length < f → TInv l s.T W → TOk l (grow f s W).T
  | 0, s, W, hf, h => by omega
  | f + 1, s, W, hf, h => by
    simp only [grow]
    split
    · rename_i hlt
      exact grow_ok f _ _ (by omega) (TInv.keep W [] s h)
    · rename_i hlt
      obtain ⟨a1, a2, a3⟩ := keep_end W s hlt
      rw [a2]
      refine ⟨h.cr, fun d o hd hk => ?_⟩
      rcases h.all d o hd hk with h' | h'
      · exact .inl (a3 o h')
      · exact .inr h'
theorem newTr_tok (l : List OpD) : TOk l (newTr l) := by
  refine grow_ok _ _ _ (Nat.lt_succ_self _) ⟨fun d c h => (by cases h), fun o ho => ?_, firsts_nd l, fun d o hd hk => .inl ((firsts_mem l o).2 ⟨by rw [findO_dot hd]; exact hd, hk⟩)⟩
  obtain ⟨h1, h2⟩ := (firsts_mem l o).1 ho
  exact ⟨h1, h2, rfl⟩
theorem newTr'_tok (l : List OpD) (k : Nat) : TOk l (newTr' l k) := ⟨(newTr_tok l).cr, (newTr_tok l).no⟩
theorem TOk.falls {l : List OpD} {T : Tr} (h : TOk l T) : Falls T.at_ := fun d c p hc hl hp => by
  obtain ⟨o, _, ho⟩ := h.cr d c hc
  rcases ho.how with ⟨_, _, e⟩ | ⟨p', q, h1, _, hb⟩
  · rw [e] at hl; exact absurd hl (by show ¬ (0 : Int) < 0; omega)
  · have ec : c.par = o.cred := by rw [hb.is]
    rw [ec, h1] at hp
    injection hp with hp
    subst hp
    rw [hb.is]
    show p'.level < p'.level + 1
    omega
theorem TOk.level {l : List OpD} {T : Tr} (h : TOk l T) {d : Dt} {c : Cr} (hc : MM.get T.at_ d = some c) : 0 ≤ c.level ∧ c.level ≤ 8 := by
  obtain ⟨o, _, ho⟩ := h.cr d c hc
  have := ho.lv
  omega
theorem TOk.whyIs {l : List OpD} {T : Tr} (h : TOk l T) {p : Cr} {o : OpD} (hp : MM.get T.at_ o.cred = some p) : (whyOf l (p, true) o).2 = T.why o := by
  obtain ⟨q, hq, hc⟩ := h.cr _ _ hp
  have eb : T.by o = p := by unfold Tr.by; rw [hp]; rfl
  have em : T.maker o = q := by unfold Tr.maker; rw [hq]; rfl
  have ei : T.is o = true := by unfold Tr.is MM.has; rw [hp]; rfl
  unfold whyOf Tr.why
  rw [andOne, narrow_same, eb]
  have en : rnoCred l (p, true) o = T.noCred o := by
    unfold rnoCred Tr.noCred
    rw [eb, em, ei, hc.fd]; rfl
  rw [en]
  by_cases hk : o.kind ≠ 1
  · rw [if_pos hk, if_pos hk]
  · rw [if_neg hk, if_neg hk]
    cases hasB p.roles 1 <;> rfl
theorem whyOf_zero {l : List OpD} {p c : Cr} {o q : OpD} (h2 : findO l o.cred = some q) (hb : By o p q c) : whyOf l (p, true) o = (p, 0) := by
  have e : rnoCred l (p, true) o = false := by
    unfold rnoCred
    rw [h2]
    simp [hb.cart, hb.bef]
  unfold whyOf
  rw [if_neg (by rw [hb.kind]; decide), e]
  simp [hb.hold, hb.own, hb.nar]
theorem TOk.sound {l : List OpD} {T : Tr} (h : TOk l T) : ∀ (n : Nat) (d : Dt) (c : Cr), MM.get T.at_ d = some c → c.level < (n : Int) → getR l n d = (c, true)
  | 0, d, c, hc, hn => by have := (h.level hc).1; omega
  | n + 1, d, c, hc, hn => by
    obtain ⟨o, hm, ho⟩ := h.cr d c hc
    simp only [getR, ho.fd]
    have ed := findO_dot ho.fd
    have hlv := h.level hc
    rcases ho.how with ⟨h1, h2, h3⟩ | ⟨p, q, h1, h2, hb⟩
    · rw [if_pos h1, h3, decide_eq_true h2]
      unfold rootC
      rw [ed]
    · have hl : c.level = p.level + 1 := by rw [hb.is]
      have hg := TOk.sound h n o.cred p h1 (by omega)
      rw [if_neg (by rw [hb.kind]; decide), hg, whyOf_zero h2 hb, if_neg (fun h => h rfl)]
      rw [hb.is, ed]
      show (_, true) = (_, true)
      rw [wrap_i _ (by show -9223372036854775808 ≤ p.level + 1; omega) (by show p.level + 1 < 9223372036854775808; omega)]
theorem TOk.full {l : List OpD} {T : Tr} (h : TOk l T) : ∀ (m : Nat) (d : Dt), (getR l m d).2 = true → ∃ c, MM.get T.at_ d = some c ∧ getR l m d = (c, true)
  | 0, d, hd => by cases hd
  | m + 1, d, hd => by
    cases hf : findO l d with
    | none => simp only [getR, hf] at hd; cases hd
    | some o =>
      have ed := findO_dot hf
      by_cases hk : o.kind = 0
      · simp only [getR, hf, if_pos hk] at hd ⊢
        have hcart : o.cart = d := by simpa using hd
        have hr : T.refuses o = false := by
          unfold Tr.refuses
          simp [hk, hcart, ed]
        rcases h.no d o hf (by omega) with h1 | ⟨c, hc⟩
        · rw [hr] at h1; cases h1
        · refine ⟨c, hc, ?_⟩
          obtain ⟨o', hm, ho⟩ := h.cr d c hc
          have eo : o = o' := by have := ho.fd; rw [hf] at this; injection this
          subst eo
          rcases ho.how with ⟨_, _, e⟩ | ⟨p, q, _, _, hb⟩
          · rw [e, decide_eq_true hcart]
            unfold rootC
            rw [ed]
          · have := hb.kind; omega
      · simp only [getR, hf, if_neg hk] at hd ⊢
        by_cases hw : (whyOf l (getR l m o.cred) o).2 ≠ 0
        · rw [if_pos hw] at hd; cases hd
        · have hw0 : (whyOf l (getR l m o.cred) o).2 = 0 := Decidable.not_not.1 hw
          rw [if_neg hw]
          have hk1 : o.kind = 1 := by
            by_cases e : o.kind = 1
            · exact e
            · unfold whyOf at hw0; rw [if_pos e] at hw0; cases hw0
          have hg2 : (getR l m o.cred).2 = true := by
            cases e : (getR l m o.cred).2 with
            | true => rfl
            | false =>
              unfold whyOf rnoCred at hw0
              rw [if_neg (by omega), e] at hw0
              cases hw0
          obtain ⟨p, hp, hgp⟩ := TOk.full h m o.cred hg2
          rw [hgp] at hw0 ⊢
          rw [h.whyIs hp] at hw0
          have hr : T.refuses o = false := by
            unfold Tr.refuses
            simp [hk1, hw0]
          rcases h.no d o hf (by omega) with h1 | ⟨c, hc⟩
          · rw [hr] at h1; cases h1
          · refine ⟨c, hc, ?_⟩
            obtain ⟨o', hm, ho⟩ := h.cr d c hc
            have eo : o = o' := by have := ho.fd; rw [hf] at this; injection this
            subst eo
            rcases ho.how with ⟨h0, _, _⟩ | ⟨p', q, h1, h2, hb⟩
            · omega
            · have ep : p = p' := by rw [hp] at h1; injection h1
              subst ep
              have hl := h.level hp
              rw [whyOf_zero h2 hb, hb.is, ed]
              show (_, true) = (_, true)
              rw [wrap_i _ (by show -9223372036854775808 ≤ p.level + 1; omega) (by show p.level + 1 < 9223372036854775808; omega)]
theorem TOk.get {l : List OpD} {T : Tr} (h : TOk l T) (d : Dt) : ((getR l 10 d).2 = MM.has T.at_ d) ∧ ∀ c, MM.get T.at_ d = some c → getR l 10 d = (c, true) := by
  have hs : ∀ c, MM.get T.at_ d = some c → getR l 10 d = (c, true) := fun c hc => h.sound 10 d c hc (by have := (h.level hc).2; show c.level < 10; omega)
  refine ⟨?_, hs⟩
  cases hg : MM.get T.at_ d with
  | some c => rw [hs c hg]; show true = (MM.get T.at_ d).isSome; rw [hg]; rfl
  | none =>
    show _ = (MM.get T.at_ d).isSome
    rw [hg]
    cases e : (getR l 10 d).2 with
    | false => rfl
    | true =>
      obtain ⟨c, hc, _⟩ := h.full 10 d e
      rw [hg] at hc; cases hc
theorem TOk.above {l : List OpD} {T : Tr} (h : TOk l T) {d : Dt} {c : Cr} (hc : MM.get T.at_ d = some c) (hl : 0 < c.level) : ∃ o p q, findO l d = some o ∧ findO l c.par = some q ∧ MM.get T.at_ c.par = some p ∧ By o p q c := by
  obtain ⟨o, _, ho⟩ := h.cr d c hc
  rcases ho.how with ⟨_, _, e⟩ | ⟨p, q, h1, h2, hb⟩
  · rw [e] at hl; exact absurd hl (by show ¬ (0 : Int) < 0; omega)
  · have ec : c.par = o.cred := by rw [hb.is]
    exact ⟨o, p, q, ho.fd, by rw [ec]; exact h2, by rw [ec]; exact h1, hb⟩
theorem TOk.root {l : List OpD} {T : Tr} (h : TOk l T) {d : Dt} {c : Cr} (hc : MM.get T.at_ d = some c) (hl : ¬ 0 < c.level) : c.dot = c.cart ∧ c.level = 0 := by
  obtain ⟨o, _, ho⟩ := h.cr d c hc
  rcases ho.how with ⟨_, _, e⟩ | ⟨p, q, h1, h2, hb⟩
  · rw [e]; exact ⟨rfl, rfl⟩
  · have := (h.level h1).1
    rw [hb.is] at hl
    exact absurd (show 0 < p.level + 1 by omega) hl
theorem TOk.dotIs {l : List OpD} {T : Tr} (h : TOk l T) {d : Dt} {c : Cr} (hc : MM.get T.at_ d = some c) : c.dot = d := by
  obtain ⟨o, _, ho⟩ := h.cr d c hc
  exact ho.dot
theorem TOk.upsAt {l : List OpD} {T : Tr} (h : TOk l T) : ∀ (n : Nat) (d : Dt) (c : Cr), MM.get T.at_ d = some c → c.level = (n : Int) → ∃ L, Ups T.at_ (some c) L ∧ L.length = n + 1
  | 0, d, c, hc, hn => ⟨[c], .root c (by omega), rfl⟩
  | n + 1, d, c, hc, hn => by
    have hl : 0 < c.level := by omega
    obtain ⟨o, p, q, _, _, hp, hb⟩ := h.above hc hl
    have e : c.level = p.level + 1 := by rw [hb.is]
    obtain ⟨L, h1, h2⟩ := TOk.upsAt h n c.par p hp (by omega)
    exact ⟨c :: L, .more c L hl (by rw [hp]; exact h1), by simp [h2]⟩
theorem TOk.ups {l : List OpD} {T : Tr} (h : TOk l T) (d : Dt) : ∃ L, Ups T.at_ (MM.get T.at_ d) L ∧ L.length ≤ 9 ∧ ∀ c, MM.get T.at_ d = some c → (L.length : Int) = c.level + 1 := by
  cases hg : MM.get T.at_ d with
  | none => exact ⟨[], .none, by simp, fun c hc => by cases hc⟩
  | some c =>
    have hl := h.level hg
    obtain ⟨L, h1, h2⟩ := h.upsAt c.level.toNat d c hg (by omega)
    exact ⟨L, h1, by omega, fun c' hc' => by injection hc' with hc'; subst hc'; omega⟩
theorem Ups.mem {a : MM Dt Cr} {oc : Option Cr} {L : List Cr} (h : Ups a oc L) (x : Cr) (hx : x ∈ L) : oc = some x ∨ ∃ y, y ∈ L ∧ 0 < y.level ∧ MM.get a y.par = some x := by
  induction h with
  | none => cases hx
  | root c hc => simp at hx; exact .inl (by rw [hx])
  | more c L hc hL ih =>
    rcases List.mem_cons.1 hx with e | hx
    · exact .inl (by rw [e])
    · rcases ih hx with h1 | ⟨y, hy, h2, h3⟩
      · exact .inr ⟨c, by simp, hc, h1⟩
      · exact .inr ⟨y, List.mem_cons_of_mem _ hy, h2, h3⟩
theorem Ups.head {a : MM Dt Cr} {c : Cr} {L : List Cr} (h : Ups a (some c) L) : L[0]? = some c := by
  cases h <;> rfl
theorem Ups.next {a : MM Dt Cr} {oc : Option Cr} {L : List Cr} (h : Ups a oc L) : ∀ (i : Nat) (x y : Cr), L[i]? = some x → L[i + 1]? = some y → 0 < x.level ∧ MM.get a x.par = some y := by
  induction h with
  | none => intro i x y hx; cases hx
  | root c hc => intro i x y hx hy; simp at hy
  | more c L hc hL ih =>
    intro i x y hx hy
    cases i with
    | zero =>
      have e : c = x := by simpa using hx
      subst e
      refine ⟨hc, ?_⟩
      have hy' : L[0]? = some y := by simpa using hy
      revert hL hy'
      generalize MM.get a c.par = oc
      intro hL hy'
      cases hL with
      | none => cases hy'
      | root d _ => simpa using hy'
      | more d M _ _ => simpa using hy'
    | succ i => exact ih i x y (by simpa using hx) (by simpa using hy)
theorem Ups.last {a : MM Dt Cr} {oc : Option Cr} {L : List Cr} (h : Ups a oc L) (hall : ∀ x, x ∈ L → 0 < x.level → (MM.get a x.par).isSome = true) : ∀ x, L[L.length - 1]? = some x → ¬ 0 < x.level := by
  induction h with
  | none => intro x hx; cases hx
  | root c hc => intro x hx; simp at hx; rw [← hx]; exact hc
  | more c L hc hL ih =>
    intro x hx
    cases L with
    | nil =>
      have := hall c (by simp) hc
      revert hL this
      generalize MM.get a c.par = oc
      intro hL this
      cases hL
      cases this
    | cons y M =>
      refine ih (fun x hx => hall x (List.mem_cons_of_mem _ hx)) x ?_
      simpa using hx
theorem TOk.upsGet {l : List OpD} {T : Tr} (h : TOk l T) {d : Dt} {L : List Cr} (hL : Ups T.at_ (MM.get T.at_ d) L) (x : Cr) (hx : x ∈ L) : MM.get T.at_ x.dot = some x := by
  rcases hL.mem x hx with h1 | ⟨y, _, _, h1⟩
  · rw [h.dotIs h1]; exact h1
  · rw [h.dotIs h1]; exact h1
theorem TOk.upsLevel {l : List OpD} {T : Tr} (h : TOk l T) {d : Dt} {L : List Cr} (hL : Ups T.at_ (MM.get T.at_ d) L) : ∀ (i : Nat) (x c : Cr), MM.get T.at_ d = some c → L[i]? = some x → x.level = c.level - (i : Int)
  | 0, x, c, hc, hx => by
    rw [hc] at hL
    rw [hL.head] at hx
    injection hx with hx
    subst hx
    simp
  | i + 1, x, c, hc, hx => by
    obtain ⟨hlt, _⟩ := List.getElem?_eq_some_iff.1 hx
    obtain ⟨y, hy⟩ := get_of_lt (show i < L.length by omega)
    have ih := TOk.upsLevel h hL i y c hc hy
    obtain ⟨h1, h2⟩ := hL.next i y x hy hx
    obtain ⟨o, p, q, _, _, hp, hb⟩ := h.above (h.upsGet hL y (List.mem_of_getElem? hy)) h1
    rw [hp] at h2
    injection h2 with h2
    subst h2
    have e : y.level = p.level + 1 := by rw [hb.is]
    omega
theorem TOk.upsInj {l : List OpD} {T : Tr} (h : TOk l T) {d : Dt} {L : List Cr} (hL : Ups T.at_ (MM.get T.at_ d) L) {i j : Nat} {x y : Cr} (hx : L[i]? = some x) (hy : L[j]? = some y) (e : x.dot = y.dot) : i = j := by
  cases hg : MM.get T.at_ d with
  | none => rw [hg] at hL; cases hL; cases hx
  | some c =>
    have e1 := h.upsGet hL x (List.mem_of_getElem? hx)
    have e2 := h.upsGet hL y (List.mem_of_getElem? hy)
    rw [e, e2] at e1
    injection e1 with e1
    have l1 := h.upsLevel hL i x c hg hx
    have l2 := h.upsLevel hL j y c hg hy
    rw [e1] at l2
    omega
end Go.Proofs.Ytmmonbnlleeloaa
namespace Go.Proofs.Ytmmonbnlleeloaa
open Go.Sl Go.Proofs
theorem TOk.upsEnd {l : List OpD} {T : Tr} (h : TOk l T) {d : Dt} {L : List Cr} (hL : Ups T.at_ (MM.get T.at_ d) L) {x : Cr} (hx : L[L.length - 1]? = some x) : x.level = 0 ∧ x.dot = x.cart := by
  have hn := hL.last (fun y hy hl => by
    obtain ⟨o, p, q, _, _, hp, _⟩ := h.above (h.upsGet hL y hy) hl
    rw [hp]; rfl) x hx
  obtain ⟨a, b⟩ := h.root (h.upsGet hL x (List.mem_of_getElem? hx)) hn
  exact ⟨b, a⟩
def gO : OpD := ⟨⟨0, 1⟩, Vec.zero, 1, 1, ⟨0, 1⟩, 0, ⟨0, 0⟩, 0, 0, 0, 0, ⟨0, 0⟩, ⟨0, 0⟩, 0, 0, 0, .nils⟩
def vec1 (n : Nat) : Vec := ⟨n, 0, 0, 0, 0, 0, 0, 0⟩
def aO : OpD := ⟨⟨0, 2⟩, vec1 1, 2, 1, ⟨0, 1⟩, 1, ⟨0, 1⟩, 2, 3, 3, 500, ⟨0, 0⟩, ⟨0, 0⟩, 0, 0, 0, .nils⟩
def bO : OpD := ⟨⟨0, 3⟩, vec1 2, 3, 2, ⟨0, 1⟩, 1, ⟨0, 2⟩, 3, 2, 0, 500, ⟨0, 0⟩, ⟨0, 0⟩, 0, 0, 0, .nils⟩
abbrev hl3 : List OpD := [bO, gO, aO]
def c1 : Cr := ⟨⟨0, 1⟩, ⟨0, 1⟩, ⟨0, 0⟩, 1, 7, 8, 1099511627776, 0⟩
def c2 : Cr := ⟨⟨0, 2⟩, ⟨0, 1⟩, ⟨0, 1⟩, 2, 3, 3, 500, 1⟩
def c3 : Cr := ⟨⟨0, 3⟩, ⟨0, 1⟩, ⟨0, 2⟩, 3, 2, 0, 500, 2⟩
end Go.Proofs.Ytmmonbnlleeloaa
namespace Go.Proofs.Ytmmonbnlleeloaa
open Go.Sl Go.Proofs Go.Sort
theorem dcmp_lt (a b : Dt) : dcmp a b < 0 ↔ a.r < b.r ∨ a.r = b.r ∧ a.n < b.n := by
  unfold dcmp cmpZ
  split <;> split <;> (try split) <;> (try split) <;> omega
theorem dcmp_swap (a b : Dt) : dcmp a b = -dcmp b a := by
  unfold dcmp cmpZ
  repeat' split
  all_goals omega
theorem dcmp_zero (a b : Dt) : dcmp a b = 0 ↔ a = b := by
  obtain ⟨a1, a2⟩ := a
  obtain ⟨b1, b2⟩ := b
  simp only [Dt.mk.injEq]
  unfold dcmp cmpZ
  dsimp only
  repeat' split
  all_goals omega
theorem Dt.lt_iff (a b : Dt) : ltOf dcmp a b = true ↔ a.r < b.r ∨ a.r = b.r ∧ a.n < b.n := by
  unfold ltOf; rw [decide_eq_true_eq]; exact dcmp_lt a b
def Dt.le (a b : Dt) : Bool := !ltOf dcmp b a
theorem Dt.le_iff (a b : Dt) : Dt.le a b = true ↔ a.r < b.r ∨ a.r = b.r ∧ a.n ≤ b.n := by
  unfold Dt.le; rw [Bool.not_eq_true', Bool.eq_false_iff, ne_eq, Dt.lt_iff]; omega
theorem Dt.le_antisymm {a b : Dt} (h1 : Dt.le a b = true) (h2 : Dt.le b a = true) : a = b := by
  rw [Dt.le_iff] at *
  obtain ⟨a1, a2⟩ := a
  obtain ⟨b1, b2⟩ := b
  simp only [Dt.mk.injEq] at *
  omega
def Dt.rises (l : List Dt) : Prop := l.Pairwise fun a b => dcmp a b < 0
end Go.Proofs.Ytmmonbnlleeloaa
namespace Go.Proofs.Ytmmonbnlleeloaa
open Go.Sl Go.Proofs
attribute [local irreducible] SW RW SCd SC CallP Pruned
theorem bldG : spl (spl (spl (spl OpD.zero.cells 0 (Dt.mk 0 1).cells) 10 [.d (.int .u64 1)]) 11 [.d (.int .u32 1)]) 12 (Dt.mk 0 1).cells = gO.cells := rfl
theorem bldV1 : spl Vec.zero.cells 0 [.d (.int .u32 1)] = (vec1 1).cells := rfl
theorem bldV2 : spl Vec.zero.cells 0 [.d (.int .u32 2)] = (vec1 2).cells := rfl
abbrev tr2 (a : MM Dt Cr) (ca : Nat) (m : MM Dt OpD) (cm : Nat) : Tr := ⟨2, 0, 1, a, ca, m, cm⟩
abbrev H2 (a : MM Dt Cr) (ca : Nat) (m : MM Dt OpD) (cm : Nat) : Hp := [(2, .box 74 [.mp 0, .mp 1]), (0, .map (mapE Dt.cells cv a) ca), (1, .map (mapE Dt.cells ov m) cm)]
structure Tn (l : List OpD) (a : MM Dt Cr) (ca : Nat) (m : MM Dt OpD) (cm : Nat) : Prop where
  new : newTr' l 0 = tr2 a ca m cm
theorem tn_of (l : List OpD) : ∃ a ca m cm, Tn l a ca m cm := by
  refine ⟨(newTr' l 0).at_, (newTr' l 0).ca, (newTr' l 0).made, (newTr' l 0).cm, ⟨?_⟩⟩
  have e1 : (newTr' l 0).bx = 2 := by show 0 + _ = 2; rw [Nat.zero_add]; exact TrS.e1 _
  have e2 : (newTr' l 0).ma = 0 := by show 0 + _ = 0; rw [Nat.zero_add]; exact TrS.e2 _
  have e3 : (newTr' l 0).mm = 1 := by show 0 + _ = 1; rw [Nat.zero_add]; exact TrS.e3 _
  revert e1 e2 e3
  generalize newTr' l 0 = T
  obtain ⟨b, x, y, a, ca, m, cm⟩ := T
  rintro rfl rfl rfl
  rfl
section
variable {l : List OpD} {a : MM Dt Cr} {ca : Nat} {m : MM Dt OpD} {cm : Nat} (h : Tn l a ca m cm)
include h
theorem Tn.tok : TOk l (tr2 a ca m cm) := by rw [← h.new]; exact newTr'_tok l 0
theorem Tn.newC (hl : l.length < 1000000000) : SCd Try.prog tree_New.f [ops l] [] 0 7 (.ptr 2 0) (H2 a ca m cm) := by
  have := new_at l hl 0
  rw [h.new] at this; exact this
end
def oWho : OpD := { bO with who := 1 }
def oRoles : OpD := { bO with roles := 4 }
section
variable {a : MM Dt Cr} {ca : Nat} {m : MM Dt OpD} {cm : Nat} (h : Tn hl3 a ca m cm)
include h
end
theorem hsm (k : Nat) : SCd Try.prog ref03_Same.f [dots [⟨0, 3⟩, ⟨0, 2⟩, ⟨0, 1⟩], .d (.sl 3 ((Dt.mk 0 3).ds ++ ((Dt.mk 0 2).ds ++ (Dt.mk 0 1).ds)))] [] k 0 (.d (.bool true)) [] := same_at [⟨0, 3⟩, ⟨0, 2⟩, ⟨0, 1⟩] [⟨0, 3⟩, ⟨0, 2⟩, ⟨0, 1⟩] (by decide) (by decide) k
set_option maxRecDepth 100000 in
theorem lit3 {P : Program} {env : List (Nat × SV)} {hp : Hp} {k d p q s : Nat} {r : List SI} {K : St → List (Bool × List Nat) → Prop} {a b c : OpD} {z : List SV} (hz : z = zOp ++ (zOp ++ zOp))
    (ha : env.lookup p = some (.agg a.cells)) (hb : env.lookup q = some (.agg b.cells)) (hc : env.lookup s = some (.agg c.cells))
    (h : RW P r ⟨(d, ops [a, b, c]) :: env, hp, k⟩ fun st' ts => K st' ((false, []) :: ts)) : RW P (⟨some d, .bsl 39 29 3 z [(0, 29, .t p), (29, 29, .t q), (58, 29, .t s)], none⟩ :: r) ⟨env, hp, k⟩ K := by
  subst hz
  refine RW.cons (e := ⟨ops [a, b, c], [], [], 0, ((29 = 29 ∧ 0 + 29 ≤ 87 ∧ 29 = 29 ∧ 29 + 29 ≤ 87 ∧ 29 = 29 ∧ 58 + 29 ≤ 87 ∧ True))⟩) (fun crs => ⟨.frz :: crs, runOp_some (.inl rfl) ?_⟩) (by show 29 = 29 ∧ 0 + 29 ≤ 87 ∧ 29 = 29 ∧ 29 + 29 ≤ 87 ∧ 29 = 29 ∧ 58 + 29 ≤ 87 ∧ True; decide) ?_
  · have h1 : evp (fun t => env.lookup t) [(0, 29, X.t p), (29, 29, X.t q), (58, 29, X.t s)] = some [(0, 29, .agg a.cells), (29, 29, .agg b.cells), (58, 29, .agg c.cells)] := by
      simp only [evp, ev, ha, hb, hc]
    have h2 : bldS (zOp ++ (zOp ++ zOp)) [(0, 29, .agg a.cells), (29, 29, .agg b.cells), (58, 29, .agg c.cells)] = some (a.cells ++ (b.cells ++ c.cells), ((29 = 29 ∧ 0 + 29 ≤ 87 ∧ 29 = 29 ∧ 29 + 29 ≤ 87 ∧ 29 = 29 ∧ 58 + 29 ≤ 87 ∧ True))) := rfl
    have h3 : datas (a.cells ++ (b.cells ++ c.cells)) = some ([a, b, c].flatMap OpD.ds) := rfl
    have h4 : (a.cells ++ (b.cells ++ c.cells)).all SV.isOne = true := rfl
    simp only [goOp, sop, h1, h2, h3, h4, if_true, Bool.false_or]
    rfl
  · exact h
theorem st1 : spl bO.cells 11 [.d (.int .u32 1)] = oWho.cells := rfl
theorem st2 : spl bO.cells 18 [.d (.int .u8 4)] = oRoles.cells := rfl
end Go.Proofs.Ytmmonbnlleeloaa
namespace Go.Proofs.Ytmmonbnlleeloaa
open Go.Sl Go.Proofs Go.Sort
attribute [local irreducible] SW RW SCd SC CallP Pruned
def Dt.ins (l : List Dt) (d : Dt) : List Dt := if d ∈ l then l else l.takeWhile (fun x => decide (dcmp x d < 0)) ++ d :: l.dropWhile (fun x => decide (dcmp x d < 0))
theorem snocRec {α : Type} {motive : List α → Prop} (nil : motive []) (snoc : ∀ l x, motive l → motive (l ++ [x])) (l : List α) : motive l := by
  have key : ∀ r : List α, motive r.reverse := fun r => by
    induction r with
    | nil => exact nil
    | cons x r ih => rw [List.reverse_cons]; exact snoc _ _ ih
  simpa using key l.reverse
def ahead (d : Dt) (x : Dt) : Bool := decide (dcmp x d < 0)
theorem takeWhile_take {α : Type} (p : α → Bool) : ∀ (l : List α) (i : Nat), (∀ j x, j < i → l[j]? = some x → p x = true) → (∀ x, l[i]? = some x → p x = false) → i ≤ l.length → l.takeWhile p = l.take i ∧ l.dropWhile p = l.drop i
  | [], i, _, _, h => by have : i = 0 := by simpa using h
                         subst this; exact ⟨rfl, rfl⟩
  | x :: l, 0, _, h, _ => by
    have := h x rfl
    simp [this]
  | x :: l, i + 1, h1, h2, h3 => by
    have hx := h1 0 x (by omega) rfl
    obtain ⟨a, b⟩ := takeWhile_take p l i (fun j y hj hy => h1 (j + 1) y (by omega) hy) (fun y hy => h2 y hy) (by simpa using h3)
    simp [hx, a, b]
theorem dots_drop : ∀ (l : List Dt) (i : Nat), (l.flatMap Dt.ds).drop (i * 2) = (l.drop i).flatMap Dt.ds
  | [], i => by simp
  | x :: l, 0 => by simp
  | x :: l, i + 1 => by
    have := dots_drop l i
    rw [List.drop_succ_cons, ← this, List.flatMap_cons, List.drop_append]
    rw [show (i + 1) * 2 - x.ds.length = i * 2 by rw [Dt.ds_len]; omega, List.drop_of_length_le (by rw [Dt.ds_len]; omega)]
    rfl
theorem dots_rest (l : List Dt) (i : Nat) : ((l.flatMap Dt.ds).drop (i * 2)).take ((l.length - i) * 2) = (l.drop i).flatMap Dt.ds := by
  rw [dots_drop, List.take_of_length_le]
  rw [dots_len]; simp
set_option maxHeartbeats 1000000 in
theorem with_ok (l : List Dt) (d : Dt) (hl : l.length < 100000000) (hwl : ∀ x, x ∈ l → x.wf) (hwd : d.wf) : Go.Sl.Pure Try.prog ref03_with.f [dots l, .agg d.cells] (dots (Dt.ins l d)) := by
  have hl' : l.length < 4611686018427387904 := by omega
  refine ref03_with.enter (by first | rfl | simp [SV.ok, SV.oks]) (by first | rfl | simp [Hp.ok, Ob.ok, SV.ok, SV.oks, Vec.cells_ok]) (by simp) ?_
  unfold ref03_with.s
  by_cases hm : d ∈ l
  · have h1 : decide (d ∈ l) = true := by simp [hm]
    (repeat (first | refine SW.seq ?_ | refine SW.block ?_ | (refine SW.regL [0, 1, 3, 4, 5, 6, 9, 23] mixed ?_; (repeat (first | refine RW.ro (h1) (h := ?_) | refine RW.skip (h := ?_) | refine RW.op (h1) (h := ?_) | refine RW.opN (h1) (h := ?_) | refine RW.skip0 (h := ?_) | (refine RW.callC (h := ?_); (first | refine CallP.mk (h1) (hc := in_at _ (by first | assumption | omega) _ _) (h := ?_) | refine CallP.mk (h1) (hc := rcompare_at _ _ (by first | assumption | omega) (by first | assumption | omega) _) (h := ?_))))); refine RW.nil ⟨by kernel_rfl, Pruned.mk (h := ?_)⟩) | refine SW.skip ?_ | refine SW.exit ?_ | refine SW.ret ?_ | refine SW.condT rfl ?_ | refine SW.condF rfl ?_))
    exact End.mk [] (h4 := ⟨by simp [Dt.ins, hm, retV], rfl⟩)
  · have h1 : decide (d ∈ l) = false := by simp [hm]
    refine SW.seq ?_
    (refine SW.regL [0, 1, 3, 4, 5, 6, 9, 23] mixed ?_; (repeat (first | refine RW.ro bq_tt (h := ?_) | refine RW.skip (h := ?_) | refine RW.op bq_tt (h := ?_) | refine RW.opN bq_tt (h := ?_) | refine RW.skip0 (h := ?_) | (refine RW.callC (h := ?_); (first | refine CallP.mk bq_tt (hc := in_at _ (by first | assumption | omega) _ _) (h := ?_) | refine CallP.mk bq_tt (hc := rcompare_at _ _ (by first | assumption | omega) (by first | assumption | omega) _) (h := ?_))))); refine RW.nil ⟨by kernel_rfl, Pruned.mk (h := ?_)⟩)
    refine SW.seq (SW.seq ?_)
    (refine SW.regL [0, 1, 3, 4, 5, 6, 9, 23] mixed ?_; (repeat (first | refine RW.ro (h1) (h := ?_) | refine RW.skip (h := ?_) | refine RW.op (h1) (h := ?_) | refine RW.opN (h1) (h := ?_) | refine RW.skip0 (h := ?_) | (refine RW.callC (h := ?_); (first | refine CallP.mk (h1) (hc := in_at _ (by first | assumption | omega) _ _) (h := ?_) | refine CallP.mk (h1) (hc := rcompare_at _ _ (by first | assumption | omega) (by first | assumption | omega) _) (h := ?_))))); refine RW.nil ⟨by kernel_rfl, Pruned.mk (h := ?_)⟩)
    refine SW.condF rfl (SW.skip ?_)
    refine SW.seq ?_
    (refine SW.regL [0, 1, 3, 4, 5, 6, 9, 23] mixed ?_; (repeat (first | refine RW.ro bq_tt (h := ?_) | refine RW.skip (h := ?_) | refine RW.op bq_tt (h := ?_) | refine RW.opN bq_tt (h := ?_) | refine RW.skip0 (h := ?_) | (refine RW.callC (h := ?_); (first | refine CallP.mk bq_tt (hc := in_at _ (by first | assumption | omega) _ _) (h := ?_) | refine CallP.mk bq_tt (hc := rcompare_at _ _ (by first | assumption | omega) (by first | assumption | omega) _) (h := ?_))))); refine RW.nil ⟨by kernel_rfl, Pruned.mk (h := ?_)⟩)
    refine SW.nilrow 5 33 2 rfl ?_
    refine SW.seq ?_
    (refine SW.regL [0, 1, 3, 4, 5, 6, 9, 23] mixed ?_; (repeat (first | refine RW.ro bq_tt (h := ?_) | refine RW.skip (h := ?_) | refine RW.op bq_tt (h := ?_) | refine RW.opN bq_tt (h := ?_) | refine RW.skip0 (h := ?_) | (refine RW.callC (h := ?_); (first | refine CallP.mk bq_tt (hc := in_at _ (by first | assumption | omega) _ _) (h := ?_) | refine CallP.mk bq_tt (hc := rcompare_at _ _ (by first | assumption | omega) (by first | assumption | omega) _) (h := ?_))))); refine RW.nil ⟨by kernel_rfl, Pruned.mk (h := ?_)⟩)
    refine SW.seq (SW.block ?_)
    refine SW.loopA (α := {i : Nat // i ≤ l.length ∧ ∀ j x, j < i → l[j]? = some x → ahead d x = true}) (fun i => ⟨[(6, i64 i.1), (0, dots l), (3, .ptr 0 0), (5, .gs 1 i.1)], [(1, .arr 33 2 i.1 (((l.take i.1).flatMap Dt.ds).map .d)), (0, .box 33 d.cells)], 2⟩) (fun i => l.length - i.1) ⟨0, by omega, by omega⟩ id bq_tt (round := ?_)
    rintro ⟨i, hi, hs⟩
    have e0 : (i : Int).toNat = i := Int.toNat_natCast i
    by_cases h : i < l.length
    · obtain ⟨x, hx⟩ := get_of_lt h
      have hwx : x.wf := hwl x (List.mem_of_getElem? hx)
      have h1 : decide ((i : Int) < l.length) = true := by simp; exact h
      by_cases hc : dcmp x d < 0
      · have h2 : decide (dcmp x d < 0) = true := by simp [hc]
        (repeat (first | refine SW.seq ?_ | refine SW.block ?_ | (have fx := (And.intro (h1) (And.intro (dot_at hx) (h2))); refine SW.regL [0, 1, 3, 4, 5, 6, 9, 23] mixed ?_; (repeat (first | refine RW.ro fx (h := ?_) | refine RW.skip (h := ?_) | refine RW.op fx (h := ?_) | refine RW.opN fx (h := ?_) | refine RW.skip0 (h := ?_) | (refine RW.callC (h := ?_); (first | refine CallP.mk fx (hc := in_at _ (by first | assumption | omega) _ _) (h := ?_) | refine CallP.mk fx (hc := rcompare_at _ _ (by first | assumption | omega) (by first | assumption | omega) _) (h := ?_))))); refine RW.nil ⟨by kernel_rfl, Pruned.mk (h := ?_)⟩) | refine SW.skip ?_ | refine SW.exit ?_ | refine SW.ret ?_ | refine SW.condT rfl ?_ | refine SW.condF rfl ?_))
        have e1 : l.take (i + 1) = l.take i ++ [x] := take_snoc hx
        refine ⟨⟨i + 1, by omega, fun j y hj hy => ?_⟩, fun n => if n = 1 then 2 else n, by simp; omega, Weak.mk (And.intro e1 (Dt.map_ds x))⟩
        by_cases e : j = i
        · subst e; rw [hx] at hy; injection hy with hy; subst hy; exact h2
        · exact hs j y (by omega) hy
      · have h2 : decide (dcmp x d < 0) = false := by simp [hc]
        refine SW.seq (SW.seq ?_)
        (have fx := (And.intro (h1) (And.intro (dot_at hx) (h2))); refine SW.regL [0, 1, 3, 4, 5, 6, 9, 23] mixed ?_; (repeat (first | refine RW.ro fx (h := ?_) | refine RW.skip (h := ?_) | refine RW.op fx (h := ?_) | refine RW.opN fx (h := ?_) | refine RW.skip0 (h := ?_) | (refine RW.callC (h := ?_); (first | refine CallP.mk fx (hc := in_at _ (by first | assumption | omega) _ _) (h := ?_) | refine CallP.mk fx (hc := rcompare_at _ _ (by first | assumption | omega) (by first | assumption | omega) _) (h := ?_))))); refine RW.nil ⟨by kernel_rfl, Pruned.mk (h := ?_)⟩)
        refine SW.condF rfl (SW.exit ?_)
        refine SW.seq ?_
        (refine SW.regL [0, 1, 3, 4, 5, 6, 9, 23] mixed ?_; (repeat (first | refine RW.ro (e0) (h := ?_) | refine RW.skip (h := ?_) | refine RW.op (e0) (h := ?_) | refine RW.opN (e0) (h := ?_) | refine RW.skip0 (h := ?_) | (refine RW.callC (h := ?_); (first | refine CallP.mk (e0) (hc := in_at _ (by first | assumption | omega) _ _) (h := ?_) | refine CallP.mk (e0) (hc := rcompare_at _ _ (by first | assumption | omega) (by first | assumption | omega) _) (h := ?_))))); refine RW.nil ⟨by kernel_rfl, Pruned.mk (h := ?_)⟩)
        refine SW.seq ?_
        (refine SW.regL [0, 1, 3, 4, 5, 6, 9, 23] mixed ?_; (repeat (first | refine RW.ro (e0) (h := ?_) | refine RW.skip (h := ?_) | refine RW.op (e0) (h := ?_) | refine RW.opN (e0) (h := ?_) | refine RW.skip0 (h := ?_) | (refine RW.callC (h := ?_); (first | refine CallP.mk (e0) (hc := in_at _ (by first | assumption | omega) _ _) (h := ?_) | refine CallP.mk (e0) (hc := rcompare_at _ _ (by first | assumption | omega) (by first | assumption | omega) _) (h := ?_))))); refine RW.nil ⟨by kernel_rfl, Pruned.mk (h := ?_)⟩)
        have hins : Dt.ins l d = l.take i ++ d :: l.drop i := by
          have := takeWhile_take (ahead d) l i hs (fun y hy => by rw [hx] at hy; injection hy with hy; subst hy; exact h2) hi
          unfold Dt.ins ahead at *
          rw [if_neg hm, this.1, this.2]
        have hlen : (Dt.ins l d).length = i + 1 + (l.length - i) := by rw [hins]; simp; omega
        refine SW.freeze 3 ((Dt.ins l d).flatMap Dt.ds) rfl (by rw [dots_rest, hins]; simp) ?_
        simp only [frzE, SV.frz, List.map_cons, List.map_nil, if_true, if_false, reduceIte, hdel, Nat.reduceEqDiff, ← hlen]
        refine SW.ret ?_
        exact End.mk [] (h4 := ⟨rfl, rfl⟩)
    · have h1 : decide ((i : Int) < l.length) = false := by simp; omega
      have h2 : i = l.length := by omega
      refine SW.seq (SW.seq ?_)
      (refine SW.regL [0, 1, 3, 4, 5, 6, 9, 23] mixed ?_; (repeat (first | refine RW.ro (h1) (h := ?_) | refine RW.skip (h := ?_) | refine RW.op (h1) (h := ?_) | refine RW.opN (h1) (h := ?_) | refine RW.skip0 (h := ?_) | (refine RW.callC (h := ?_); (first | refine CallP.mk (h1) (hc := in_at _ (by first | assumption | omega) _ _) (h := ?_) | refine CallP.mk (h1) (hc := rcompare_at _ _ (by first | assumption | omega) (by first | assumption | omega) _) (h := ?_))))); refine RW.nil ⟨by kernel_rfl, Pruned.mk (h := ?_)⟩)
      refine SW.condF rfl (SW.exit ?_)
      refine SW.seq ?_
      (refine SW.regL [0, 1, 3, 4, 5, 6, 9, 23] mixed ?_; (repeat (first | refine RW.ro (e0) (h := ?_) | refine RW.skip (h := ?_) | refine RW.op (e0) (h := ?_) | refine RW.opN (e0) (h := ?_) | refine RW.skip0 (h := ?_) | (refine RW.callC (h := ?_); (first | refine CallP.mk (e0) (hc := in_at _ (by first | assumption | omega) _ _) (h := ?_) | refine CallP.mk (e0) (hc := rcompare_at _ _ (by first | assumption | omega) (by first | assumption | omega) _) (h := ?_))))); refine RW.nil ⟨by kernel_rfl, Pruned.mk (h := ?_)⟩)
      refine SW.seq ?_
      (refine SW.regL [0, 1, 3, 4, 5, 6, 9, 23] mixed ?_; (repeat (first | refine RW.ro (e0) (h := ?_) | refine RW.skip (h := ?_) | refine RW.op (e0) (h := ?_) | refine RW.opN (e0) (h := ?_) | refine RW.skip0 (h := ?_) | (refine RW.callC (h := ?_); (first | refine CallP.mk (e0) (hc := in_at _ (by first | assumption | omega) _ _) (h := ?_) | refine CallP.mk (e0) (hc := rcompare_at _ _ (by first | assumption | omega) (by first | assumption | omega) _) (h := ?_))))); refine RW.nil ⟨by kernel_rfl, Pruned.mk (h := ?_)⟩)
      have hins : Dt.ins l d = l.take i ++ d :: l.drop i := by
        have := takeWhile_take (ahead d) l i hs (fun y hy => by rw [List.getElem?_eq_none (by omega)] at hy; cases hy) hi
        unfold Dt.ins ahead at *
        rw [if_neg hm, this.1, this.2]
      have hlen : (Dt.ins l d).length = i + 1 + (l.length - i) := by rw [hins]; simp; omega
      refine SW.freeze 3 ((Dt.ins l d).flatMap Dt.ds) rfl (by rw [dots_rest, hins]; simp) ?_
      simp only [frzE, SV.frz, List.map_cons, List.map_nil, if_true, if_false, reduceIte, hdel, Nat.reduceEqDiff, ← hlen]
      refine SW.ret ?_
      exact End.mk [] (h4 := ⟨rfl, rfl⟩)
theorem with_at (l : List Dt) (d : Dt) (hl : l.length < 100000000) (hwl : ∀ x, x ∈ l → x.wf) (hwd : d.wf) (k : Nat) : SCd Try.prog ref03_with.f [dots l, .agg d.cells] [] k 0 (dots (Dt.ins l d)) [] := (with_ok l d hl hwl hwd).sc rfl k
theorem Dt.mem_ins {l : List Dt} {d x : Dt} : x ∈ Dt.ins l d ↔ x ∈ l ∨ x = d := by
  unfold Dt.ins
  split
  · rename_i h
    refine ⟨.inl, fun h' => ?_⟩
    rcases h' with h' | rfl
    · exact h'
    · exact h
  · have := List.takeWhile_append_dropWhile (p := fun x => decide (dcmp x d < 0)) (l := l)
    have h2 : x ∈ l ↔ x ∈ l.takeWhile (fun x => decide (dcmp x d < 0)) ∨ x ∈ l.dropWhile (fun x => decide (dcmp x d < 0)) := by
      rw [← List.mem_append, this]
    rw [h2, List.mem_append, List.mem_cons]
    constructor
    · rintro (h | h | h)
      · exact .inl (.inl h)
      · exact .inr h
      · exact .inl (.inr h)
    · rintro ((h | h) | h)
      · exact .inl h
      · exact .inr (.inr h)
      · exact .inr (.inl h)
theorem Dt.ins_rises {l : List Dt} (h : Dt.rises l) (d : Dt) : Dt.rises (Dt.ins l d) := by
  unfold Dt.ins
  split
  · exact h
  · rename_i hd
    induction l with
    | nil => simp [Dt.rises]
    | cons x l ih =>
      have h1 := List.pairwise_cons.1 h
      by_cases hx : dcmp x d < 0
      · simp only [List.takeWhile_cons, List.dropWhile_cons, hx, decide_true, if_true, List.cons_append]
        refine List.pairwise_cons.2 ⟨fun y hy => ?_, ih h1.2 fun hm => hd (List.mem_cons_of_mem _ hm)⟩
        rcases List.mem_append.1 hy with hy | hy
        · exact h1.1 y ((List.takeWhile_sublist _).subset hy)
        · rcases List.mem_cons.1 hy with rfl | hy
          · exact hx
          · exact h1.1 y ((List.dropWhile_sublist _).subset hy)
      · simp only [List.takeWhile_cons, List.dropWhile_cons, hx, decide_false, Bool.false_eq_true, if_false, List.nil_append]
        have hlt : dcmp d x < 0 := by
          have e := dcmp_swap d x
          have : dcmp x d ≠ 0 := fun e => hd (by rw [(dcmp_zero x d).1 e]; simp)
          omega
        refine List.pairwise_cons.2 ⟨fun y hy => ?_, h⟩
        rcases List.mem_cons.1 hy with rfl | hy
        · exact hlt
        · have := h1.1 y hy
          rw [dcmp_lt] at *
          omega
def Dt.setR (l : List Dt) : List Dt := l.foldl Dt.ins []
theorem Dt.setR_snoc (l : List Dt) (d : Dt) : Dt.setR (l ++ [d]) = Dt.ins (Dt.setR l) d := by simp [Dt.setR, List.foldl_append]
theorem Dt.setR_rises (l : List Dt) : Dt.rises (Dt.setR l) := by
  induction l using snocRec with
  | nil => exact List.Pairwise.nil
  | snoc l d ih => rw [Dt.setR_snoc]; exact Dt.ins_rises ih d
theorem Dt.mem_setR {l : List Dt} {d : Dt} : d ∈ Dt.setR l ↔ d ∈ l := by
  induction l using snocRec with
  | nil => simp [Dt.setR]
  | snoc l x ih => rw [Dt.setR_snoc, Dt.mem_ins, ih]; simp
theorem Dt.ins_len (l : List Dt) (d : Dt) : (Dt.ins l d).length ≤ l.length + 1 := by
  unfold Dt.ins
  split
  · omega
  · have := congrArg List.length (List.takeWhile_append_dropWhile (p := fun x => decide (dcmp x d < 0)) (l := l))
    simp only [List.length_append, List.length_cons] at *
    omega
theorem Dt.setR_len (l : List Dt) : (Dt.setR l).length ≤ l.length := by
  induction l using snocRec with
  | nil => exact Nat.le_refl _
  | snoc l x ih =>
    rw [Dt.setR_snoc]
    have := Dt.ins_len (Dt.setR l) x
    simp; omega
theorem rsort_ok (l : List Dt) (hl : l.length < 100000000) (hw : ∀ x, x ∈ l → x.wf) : Go.Sl.Pure Try.prog ref03_Sort.f [dots l] (dots (Dt.setR l)) := by
  refine ref03_Sort.enter (by first | rfl | simp [SV.ok, SV.oks]) (by first | rfl | simp [Hp.ok, Ob.ok, SV.ok, SV.oks, Vec.cells_ok]) (by simp) ?_
  unfold ref03_Sort.s
  refine SW.seq ?_
  (refine SW.regL [0, 2, 3, 4, 8] mixed ?_; (repeat (first | refine RW.ro bq_tt (h := ?_) | refine RW.skip (h := ?_) | refine RW.op bq_tt (h := ?_) | refine RW.opN bq_tt (h := ?_) | refine RW.skip0 (h := ?_) | (refine RW.callC (h := ?_); (first | refine CallP.mk bq_tt (hc := with_at _ _ (by first | assumption | omega) (by first | assumption | omega) (by first | assumption | omega) _) (h := ?_))))); refine RW.nil ⟨by kernel_rfl, Pruned.mk (h := ?_)⟩)
  refine SW.seq ?_
  (refine SW.regL [0, 2, 3, 4, 8] mixed ?_; (repeat (first | refine RW.ro bq_tt (h := ?_) | refine RW.skip (h := ?_) | refine RW.op bq_tt (h := ?_) | refine RW.opN bq_tt (h := ?_) | refine RW.skip0 (h := ?_) | (refine RW.callC (h := ?_); (first | refine CallP.mk bq_tt (hc := with_at _ _ (by first | assumption | omega) (by first | assumption | omega) (by first | assumption | omega) _) (h := ?_))))); refine RW.nil ⟨by kernel_rfl, Pruned.mk (h := ?_)⟩)
  refine SW.nils 3 rfl ?_
  refine SW.seq (SW.seq ?_)
  (refine SW.regL [0, 2, 3, 4, 8] mixed ?_; (repeat (first | refine RW.ro bq_tt (h := ?_) | refine RW.skip (h := ?_) | refine RW.op bq_tt (h := ?_) | refine RW.opN bq_tt (h := ?_) | refine RW.skip0 (h := ?_) | (refine RW.callC (h := ?_); (first | refine CallP.mk bq_tt (hc := with_at _ _ (by first | assumption | omega) (by first | assumption | omega) (by first | assumption | omega) _) (h := ?_))))); refine RW.nil ⟨by kernel_rfl, Pruned.mk (h := ?_)⟩)
  refine SW.block ?_
  refine SW.loopA (α := {i : Nat // i ≤ l.length}) (fun i => ⟨[(4, i64 i.1), (0, dots l), (3, dots (Dt.setR (l.take i.1)))], [], 0⟩) (fun i => l.length - i.1) ⟨0, by omega⟩ id (And.intro (show Dt.setR [] = [] from rfl) bq_tt) (round := ?_)
  rintro ⟨i, hi⟩
  have hlen : (Dt.setR (l.take i)).length < 100000000 := by
    have := Dt.setR_len (l.take i)
    have h2 : (l.take i).length ≤ l.length := by rw [List.length_take]; omega
    omega
  have hwi : ∀ x, x ∈ Dt.setR (l.take i) → x.wf := fun x hx => by
    rw [Dt.mem_setR] at hx
    exact hw x (List.mem_of_mem_take hx)
  by_cases h : i < l.length
  · obtain ⟨x, hx⟩ := get_of_lt h
    have hwx : x.wf := hw x (List.mem_of_getElem? hx)
    have h1 : decide ((i : Int) < l.length) = true := by simp; exact h
    have e1 : l.take (i + 1) = l.take i ++ [x] := take_snoc hx
    (repeat (first | refine SW.seq ?_ | refine SW.block ?_ | (have fx := (And.intro (h1) (dot_at hx)); refine SW.regL [0, 2, 3, 4, 8] mixed ?_; (repeat (first | refine RW.ro fx (h := ?_) | refine RW.skip (h := ?_) | refine RW.op fx (h := ?_) | refine RW.opN fx (h := ?_) | refine RW.skip0 (h := ?_) | (refine RW.callC (h := ?_); (first | refine CallP.mk fx (hc := with_at _ _ (by first | assumption | omega) (by first | assumption | omega) (by first | assumption | omega) _) (h := ?_))))); refine RW.nil ⟨by kernel_rfl, Pruned.mk (h := ?_)⟩) | refine SW.skip ?_ | refine SW.exit ?_ | refine SW.ret ?_ | refine SW.condT rfl ?_ | refine SW.condF rfl ?_))
    exact ⟨⟨i + 1, by omega⟩, id, by simp; omega, Weak.mk (And.intro e1 (And.intro (Dt.setR_snoc (l.take i) x) bq_tt))⟩
  · have h1 : decide ((i : Int) < l.length) = false := by simp; omega
    have h2 : i = l.length := by omega
    subst h2
    simp only [List.take_length]
    (repeat (first | refine SW.seq ?_ | refine SW.block ?_ | (refine SW.regL [0, 2, 3, 4, 8] mixed ?_; (repeat (first | refine RW.ro (h1) (h := ?_) | refine RW.skip (h := ?_) | refine RW.op (h1) (h := ?_) | refine RW.opN (h1) (h := ?_) | refine RW.skip0 (h := ?_) | (refine RW.callC (h := ?_); (first | refine CallP.mk (h1) (hc := with_at _ _ (by first | assumption | omega) (by first | assumption | omega) (by first | assumption | omega) _) (h := ?_))))); refine RW.nil ⟨by kernel_rfl, Pruned.mk (h := ?_)⟩) | refine SW.skip ?_ | refine SW.exit ?_ | refine SW.ret ?_ | refine SW.condT rfl ?_ | refine SW.condF rfl ?_))
    exact End.mk [] (h4 := ⟨rfl, rfl⟩)
theorem rsort_at (l : List Dt) (hl : l.length < 100000000) (hw : ∀ x, x ∈ l → x.wf) (k : Nat) : SCd Try.prog ref03_Sort.f [dots l] [] k 0 (dots (Dt.setR l)) [] := (rsort_ok l hl hw).sc rfl k
end Go.Proofs.Ytmmonbnlleeloaa
namespace Go.Proofs.Ytmmonbnlleeloaa
open Go.Proofs Go.Shelf
end Go.Proofs.Ytmmonbnlleeloaa
namespace Go.Proofs.Ytmmonbnlleeloaa
open Go.Sl Go.Proofs Go.Sort
attribute [local irreducible] SW RW SCd SC CallP Pruned
end Go.Proofs.Ytmmonbnlleeloaa
namespace Go.Proofs.Ytmmonbnlleeloaa
open Go.Sl Go.Proofs
attribute [local irreducible] SW RW SCd SC CallP Pruned
theorem chainYes {a : MM Dt Cr} {d : Dt} {L : List Cr} {c : Cr} (hg : MM.get a d = some c) : chainR a d L = .tup [dots (L.map (·.dot)), .d (.int .i64 0)] := by
  unfold chainR MM.has
  rw [hg]
  simp [dots]
theorem chainNo {a : MM Dt Cr} {d : Dt} {L : List Cr} (hg : MM.get a d = none) : chainR a d L = .tup [.d .nils, .d (.int .i64 7)] := by
  unfold chainR MM.has
  rw [hg]; rfl
theorem mapsF (a : MM Dt Cr) (m : MM Dt OpD) : (∀ q : Nat → Bool, ((mapE Dt.cells cv a).all fun e => e.2.1.ok q && e.2.2.ok q) = true) ∧ (∀ q : Nat → Bool, ((mapE Dt.cells ov m).all fun e => e.2.1.ok q && e.2.2.ok q) = true) ∧ (∀ r : Nat → Nat, (mapE Dt.cells cv a).map (fun e => (e.1, e.2.1.ren r, e.2.2.ren r)) = mapE Dt.cells cv a) ∧ (∀ r : Nat → Nat, (mapE Dt.cells ov m).map (fun e => (e.1, e.2.1.ren r, e.2.2.ren r)) = mapE Dt.cells ov m) :=
  ⟨fun q => cmap_ok q a, fun q => omap_ok q m, fun r => cmap_ren r a, fun r => omap_ren r m⟩
section
variable {l : List OpD} {a : MM Dt Cr} {ca : Nat} {m : MM Dt OpD} {cm : Nat} (h : Tn l a ca m cm)
include h
end
end Go.Proofs.Ytmmonbnlleeloaa
namespace Go.Proofs.Ytmmonbnlleeloaa
open Go.Sl Go.Proofs
attribute [local irreducible] SW RW SCd SC CallP Pruned
end Go.Proofs.Ytmmonbnlleeloaa
namespace Go.Proofs.Ytmmonbnlleeloaa
open Go.Sl Go.Proofs
attribute [local irreducible] SW RW SCd SC CallP Pruned
section
variable {l : List OpD} {a : MM Dt Cr} {ca : Nat} {m : MM Dt OpD} {cm : Nat} (h : Tn l a ca m cm)
include h
end
end Go.Proofs.Ytmmonbnlleeloaa
namespace Go.Proofs.Ytmmonbnlleeloaa
open Go.Sl Go.Proofs
attribute [local irreducible] SW RW SCd SC CallP Pruned
theorem tnone0_ok  : Go.Sl.Pure Try.prog tree_Tree_none.f [.d .nilp] (bl true) := by
  refine tree_Tree_none.enter (by first | rfl | simp [SV.ok, SV.oks]) (by first | rfl | simp [Hp.ok, Ob.ok, SV.ok, SV.oks, Vec.cells_ok]) (by simp) ?_
  unfold tree_Tree_none.s
  (repeat (first | refine SW.seq ?_ | refine SW.block ?_ | (refine SW.regL [0, 2] mixed ?_; (repeat (first | refine RW.ro bq_tt (h := ?_) | refine RW.skip (h := ?_) | refine RW.op bq_tt (h := ?_) | refine RW.opN bq_tt (h := ?_) | refine RW.skip0 (h := ?_))); refine RW.nil ⟨by kernel_rfl, Pruned.mk (h := ?_)⟩) | refine SW.skip ?_ | refine SW.exit ?_ | refine SW.ret ?_ | refine SW.condT rfl ?_ | refine SW.condF rfl ?_))
  exact End.mk [] (h4 := ⟨rfl, rfl⟩)
theorem tnone0_at  (k : Nat) : SCd Try.prog tree_Tree_none.f [.d .nilp] [] k 0 (bl true) [] := (tnone0_ok ).sc rfl k
theorem tget0_ok (d : Dt) : Go.Sl.Pure Try.prog tree_Tree_Get.f [.d .nilp, .agg d.cells] (.tup [.agg Cr.zero.cells, i64 1]) := by
  refine tree_Tree_Get.enter (by first | rfl | simp [SV.ok, SV.oks]) (by first | rfl | simp [Hp.ok, Ob.ok, SV.ok, SV.oks, Vec.cells_ok]) (by simp) ?_
  unfold tree_Tree_Get.s
  (repeat (first | refine SW.seq ?_ | refine SW.block ?_ | (refine SW.regL [0, 1, 3, 4, 5, 6, 7, 9, 21] mixed ?_; (repeat (first | refine RW.ro bq_tt (h := ?_) | refine RW.skip (h := ?_) | refine RW.op bq_tt (h := ?_) | refine RW.opN bq_tt (h := ?_) | refine RW.skip0 (h := ?_) | (refine RW.callC (h := ?_); (first | refine CallP.mk bq_tt (hc := tnone0_at _) (h := ?_))))); refine RW.nil ⟨by kernel_rfl, Pruned.mk (h := ?_)⟩) | refine SW.skip ?_ | refine SW.exit ?_ | refine SW.ret ?_ | refine SW.condT rfl ?_ | refine SW.condF rfl ?_))
  exact End.mk [] (h4 := ⟨rfl, rfl⟩)
theorem tget0_at (d : Dt) (k : Nat) : SCd Try.prog tree_Tree_Get.f [.d .nilp, .agg d.cells] [] k 0 (.tup [.agg Cr.zero.cells, i64 1]) [] := (tget0_ok d).sc rfl k
theorem tchain0_ok (d : Dt) : Go.Sl.Pure Try.prog tree_Tree_Chain.f [.d .nilp, .agg d.cells] (.tup [.d .nils, i64 1]) := by
  refine tree_Tree_Chain.enter (by first | rfl | simp [SV.ok, SV.oks]) (by first | rfl | simp [Hp.ok, Ob.ok, SV.ok, SV.oks, Vec.cells_ok]) (by simp) ?_
  unfold tree_Tree_Chain.s
  (repeat (first | refine SW.seq ?_ | refine SW.block ?_ | (refine SW.regL [0, 1, 3, 4, 5, 7, 8, 9, 17, 21, 22] mixed ?_; (repeat (first | refine RW.ro bq_tt (h := ?_) | refine RW.skip (h := ?_) | refine RW.op bq_tt (h := ?_) | refine RW.opN bq_tt (h := ?_) | refine RW.skip0 (h := ?_) | (refine RW.callC (h := ?_); (first | refine CallP.mk bq_tt (hc := tget0_at _ _) (h := ?_))))); refine RW.nil ⟨by kernel_rfl, Pruned.mk (h := ?_)⟩) | refine SW.skip ?_ | refine SW.exit ?_ | refine SW.ret ?_ | refine SW.condT rfl ?_ | refine SW.condF rfl ?_))
  exact End.mk [] (h4 := ⟨rfl, rfl⟩)
theorem tchain0_at (d : Dt) (k : Nat) : SCd Try.prog tree_Tree_Chain.f [.d .nilp, .agg d.cells] [] k 0 (.tup [.d .nils, i64 1]) [] := (tchain0_ok d).sc rfl k
end Go.Proofs.Ytmmonbnlleeloaa
namespace Go.Proofs.Ytmmonbnlleeloaa
open Go.Sl Go.Proofs
attribute [local irreducible] SW RW SCd SC CallP Pruned
structure Ak where
  a : Dt
  b : Dt
  who : Nat
  o : OpD
def Ak.ds (x : Ak) : List DV := x.a.ds ++ (x.b.ds ++ (.int .u32 x.who :: x.o.ds))
def Ak.cells (x : Ak) : List SV := x.ds.map .d
section
attribute [local irreducible] Ak.cells
end
end Go.Proofs.Ytmmonbnlleeloaa
namespace Go.Proofs.Ytmmonbnlleeloaa
open Go.Sl Go.Proofs
attribute [local irreducible] SW RW SCd SC CallP Pruned
section
variable {l : List OpD} (hlen : l.length < 4611686018427387904) (hl : ∀ x, x ∈ l → x.roles < 256) {T : Tr} (h : TOk l T)
include hlen hl h
theorem rgetYes {d : Dt} {c : Cr} (hg : MM.get T.at_ d = some c) (k : Nat) : SCd Try.prog ref16_Get.f [ops l, .agg d.cells] [] k 0 (.tup [.agg c.cells, .d (.bool true)]) [] := by
  have := rGet_at hlen hl d k
  rw [(h.get d).2 c hg] at this; exact this
theorem rgetNo {d : Dt} (hg : MM.get T.at_ d = none) (k : Nat) : SCd Try.prog ref16_Get.f [ops l, .agg d.cells] [] k 0 (.tup [.agg (getR l 10 d).1.cells, .d (.bool false)]) [] := by
  have := rGet_at hlen hl d k
  have e := (h.get d).1
  unfold MM.has at e
  rw [hg] at e
  rw [e] at this; exact this
set_option maxHeartbeats 4000000 in
theorem rchain_ok (d : Dt) (L : List Cr) (hL : Ups T.at_ (MM.get T.at_ d) L) (hlL : L.length < 1000000) : Go.Sl.Pure Try.prog ref16_Chain.f [ops l, .agg d.cells] (chainR T.at_ d L) := by
  cases hg : MM.get T.at_ d with
  | none =>
    rw [chainNo hg]
    have hr := rgetNo hlen hl h hg
    refine ref16_Chain.enter (by first | rfl | simp [SV.ok, SV.oks]) (by first | rfl | simp [Hp.ok, Ob.ok, SV.ok, SV.oks, Vec.cells_ok]) (by simp) ?_
    unfold ref16_Chain.s
    (repeat (first | refine SW.seq ?_ | refine SW.block ?_ | (refine SW.regL [0, 1, 3, 4, 5, 6, 7, 8, 16, 21] mixed ?_; (repeat (first | refine RW.ro bq_tt (h := ?_) | refine RW.skip (h := ?_) | refine RW.op bq_tt (h := ?_) | refine RW.opN bq_tt (h := ?_) | refine RW.skip0 (h := ?_) | (refine RW.callC (h := ?_); (first | refine CallP.mk bq_tt (hc := hr _) (h := ?_))))); refine RW.nil ⟨by kernel_rfl, Pruned.mk (h := ?_)⟩) | refine SW.skip ?_ | refine SW.exit ?_ | refine SW.ret ?_ | refine SW.condT rfl ?_ | refine SW.condF rfl ?_))
    exact End.mk [] (h4 := ⟨rfl, rfl⟩)
  | some c =>
    rw [chainYes hg]
    have hr := rgetYes hlen hl h hg
    have hc0 : L[0]? = some c := by rw [hg] at hL; exact hL.head
    refine ref16_Chain.enter (by first | rfl | simp [SV.ok, SV.oks]) (by first | rfl | simp [Hp.ok, Ob.ok, SV.ok, SV.oks, Vec.cells_ok]) (by simp) ?_
    unfold ref16_Chain.s
    refine SW.seq ?_
    (refine SW.regL [0, 1, 3, 4, 5, 6, 7, 8, 16, 21] mixed ?_; (repeat (first | refine RW.ro bq_tt (h := ?_) | refine RW.skip (h := ?_) | refine RW.op bq_tt (h := ?_) | refine RW.opN bq_tt (h := ?_) | refine RW.skip0 (h := ?_) | (refine RW.callC (h := ?_); (first | refine CallP.mk bq_tt (hc := hr _) (h := ?_))))); refine RW.nil ⟨by kernel_rfl, Pruned.mk (h := ?_)⟩)
    refine SW.seq ?_
    (refine SW.regL [0, 1, 3, 4, 5, 6, 7, 8, 16, 21] mixed ?_; (repeat (first | refine RW.ro bq_tt (h := ?_) | refine RW.skip (h := ?_) | refine RW.op bq_tt (h := ?_) | refine RW.opN bq_tt (h := ?_) | refine RW.skip0 (h := ?_) | (refine RW.callC (h := ?_); (first | refine CallP.mk bq_tt (hc := hr _) (h := ?_))))); refine RW.nil ⟨by kernel_rfl, Pruned.mk (h := ?_)⟩)
    refine SW.seq (SW.seq ?_)
    (refine SW.regL [0, 1, 3, 4, 5, 6, 7, 8, 16, 21] mixed ?_; (repeat (first | refine RW.ro bq_tt (h := ?_) | refine RW.skip (h := ?_) | refine RW.op bq_tt (h := ?_) | refine RW.opN bq_tt (h := ?_) | refine RW.skip0 (h := ?_) | (refine RW.callC (h := ?_); (first | refine CallP.mk bq_tt (hc := hr _) (h := ?_))))); refine RW.nil ⟨by kernel_rfl, Pruned.mk (h := ?_)⟩)
    refine SW.condF rfl (SW.skip ?_)
    refine SW.seq ?_
    (refine SW.regL [0, 1, 3, 4, 5, 6, 7, 8, 16, 21] mixed ?_; (repeat (first | refine RW.lit bq_tt (h := ?_) | refine RW.ro bq_tt (h := ?_) | refine RW.skip (h := ?_) | refine RW.op bq_tt (h := ?_) | refine RW.opN bq_tt (h := ?_) | refine RW.skip0 (h := ?_))); refine RW.nil ⟨by kernel_rfl, Pruned.mk (h := ?_)⟩)
    refine SW.seq (SW.block ?_)
    have e0 : (L.take 1).map (·.dot) = [d] := by
      have : L.take 1 = [c] := by
        cases L with
        | nil => cases hc0
        | cons x M => simp at hc0; simp [hc0]
      rw [this]; simp [h.dotIs hg]
    refine SW.loopA (α := {j : Nat × Cr // L[j.1]? = some j.2}) (fun j => ⟨[(8, .gs 2 (j.1.1 + 1)), (0, ops l), (6, .ptr 1 0)], [(2, .arr 33 2 (j.1.1 + 1) ((((L.take (j.1.1 + 1)).map (·.dot)).flatMap Dt.ds).map .d)), (1, .box 41 j.1.2.cells)], 3⟩) (fun j => L.length - j.1.1) ⟨(0, c), hc0⟩ id (And.intro e0 (And.intro (Dt.map_ds d) (fun q : Nat → Bool => Cr.cells_ok c q))) (round := ?_)
    rintro ⟨⟨j, x⟩, hx⟩
    dsimp only at hx ⊢
    have hjl := lt_of_get hx
    by_cases hpos : 0 < x.level
    · have h1 : decide (x.level > 0) = true := decide_eq_true hpos
      obtain ⟨o, p, q, _, _, hp, _⟩ := h.above (h.upsGet hL x (List.mem_of_getElem? hx)) hpos
      have hj2 : j + 1 < L.length := by
        refine Classical.byContradiction fun hn => ?_
        have he : j = L.length - 1 := by omega
        have := (h.upsEnd hL (x := x) (by rw [← he]; exact hx)).1
        omega
      obtain ⟨y, hy⟩ := get_of_lt hj2
      have hpy : p = y := by
        have := (hL.next j x y hx hy).2
        rw [hp] at this; injection this
      subst hpy
      have hr2 := rgetYes hlen hl h hp
      have e1 : (L.take (j + 1 + 1)).map (·.dot) = (L.take (j + 1)).map (·.dot) ++ [x.par] := by
        rw [take_snoc hy, List.map_append]; simp [h.dotIs hp]
      have edt : ∀ d : Dt, datas d.cells = some d.ds := fun _ => rfl
      refine SW.seq (SW.seq ?_)
      (refine SW.regL [0, 1, 3, 4, 5, 6, 7, 8, 16, 21] mixed ?_; (repeat (first | refine RW.ro (h1) (h := ?_) | refine RW.skip (h := ?_) | refine RW.op (h1) (h := ?_) | refine RW.opN (h1) (h := ?_) | refine RW.skip0 (h := ?_) | (refine RW.callC (h := ?_); (first | refine CallP.mk (h1) (hc := hr2 _) (h := ?_))))); refine RW.nil ⟨by kernel_rfl, Pruned.mk (h := ?_)⟩)
      refine SW.condT rfl (SW.skip ?_)
      refine SW.block (SW.seq ?_)
      (refine SW.regL [0, 1, 3, 4, 5, 6, 7, 8, 16, 21] mixed ?_; (repeat (first | refine RW.ro (edt) (h := ?_) | refine RW.skip (h := ?_) | refine RW.op (edt) (h := ?_) | refine RW.opN (edt) (h := ?_) | refine RW.skip0 (h := ?_) | (refine RW.callC (h := ?_); (first | refine CallP.mk (edt) (hc := hr2 _) (h := ?_))))); refine RW.nil ⟨by kernel_rfl, Pruned.mk (h := ?_)⟩)
      (refine SW.regL [0, 1, 3, 4, 5, 6, 7, 8, 16, 21] mixed ?_; (repeat (first | refine RW.ro bq_tt (h := ?_) | refine RW.skip (h := ?_) | refine RW.op bq_tt (h := ?_) | refine RW.opN bq_tt (h := ?_) | refine RW.skip0 (h := ?_) | (refine RW.callC (h := ?_); (first | refine CallP.mk bq_tt (hc := hr2 _) (h := ?_))))); refine RW.nil ⟨by kernel_rfl, Pruned.mk (h := ?_)⟩)
      dsimp only
      refine ⟨⟨(j + 1, p), hy⟩, fun n => if n = 2 then 3 else n, by show L.length - (j + 1) < L.length - j; omega, ?_⟩
      exact Weak.mk (And.intro e1 (And.intro (Dt.map_ds x.par) bq_tt))
    · have h1 : decide (x.level > 0) = false := decide_eq_false hpos
      have hlast : j + 1 = L.length := by
        refine Classical.byContradiction fun hn => ?_
        obtain ⟨y, hy⟩ := get_of_lt (show j + 1 < L.length by omega)
        exact hpos (hL.next j x y hx hy).1
      refine SW.seq (SW.seq ?_)
      (refine SW.regL [0, 1, 3, 4, 5, 6, 7, 8, 16, 21] mixed ?_; (repeat (first | refine RW.ro (h1) (h := ?_) | refine RW.skip (h := ?_) | refine RW.op (h1) (h := ?_) | refine RW.opN (h1) (h := ?_) | refine RW.skip0 (h := ?_))); refine RW.nil ⟨by kernel_rfl, Pruned.mk (h := ?_)⟩)
      refine SW.condF rfl (SW.exit ?_)
      rw [hlast, List.take_length]
      refine SW.seq ?_
      (refine SW.regL [0, 1, 3, 4, 5, 6, 7, 8, 16, 21] mixed ?_; (repeat (first | refine RW.ro bq_tt (h := ?_) | refine RW.skip (h := ?_) | refine RW.op bq_tt (h := ?_) | refine RW.opN bq_tt (h := ?_) | refine RW.skip0 (h := ?_))); refine RW.nil ⟨by kernel_rfl, Pruned.mk (h := ?_)⟩)
      refine SW.freeze 2 ((L.map (·.dot)).flatMap Dt.ds) rfl rfl (SW.ret ?_)
      exact End.mk [] (h4 := ⟨by simp [retV, SV.frz], rfl⟩) (h5 := by simp [retV, SV.frz, SV.ok, SV.oks])
theorem rchain_at (d : Dt) (L : List Cr) (hL : Ups T.at_ (MM.get T.at_ d) L) (hlL : L.length < 1000000) (k : Nat) : SCd Try.prog ref16_Chain.f [ops l, .agg d.cells] [] k 0 (chainR T.at_ d L) [] := (rchain_ok hlen hl h d L hL hlL).sc (by unfold chainR; split <;> rfl) k
end
end Go.Proofs.Ytmmonbnlleeloaa
namespace Go.Proofs.Ytmmonbnlleeloaa
open Go.Sl Go.Proofs
attribute [local irreducible] SW RW SCd SC CallP Pruned
section
variable {l : List OpD} {a : MM Dt Cr} {ca : Nat} {m : MM Dt OpD} {cm : Nat} (h : Tn l a ca m cm)
include h
end
section
variable {l : List OpD} {a : MM Dt Cr} {ca : Nat} {m : MM Dt OpD} {cm : Nat} (h : Tn l a ca m cm)
include h
end
end Go.Proofs.Ytmmonbnlleeloaa
namespace Go.Proofs.Ytmmonbnlleeloaa
open Go.Sl Go.Proofs
attribute [local irreducible] SW RW SCd SC CallP Pruned
theorem Tn.newC1 {l : List OpD} {a : MM Dt Cr} {ca : Nat} {m : MM Dt OpD} {cm : Nat} (h : Tn l a ca m cm) (hl : l.length < 1000000000) :
    SCd Try.prog tree_New.f [ops l] [] 1 7 (.ptr 3 0) [(3, .box 74 [.mp 1, .mp 2]), (1, .map (mapE Dt.cells cv a) ca), (2, .map (mapE Dt.cells ov m) cm)] := by
  have e : newTr' l 1 = ⟨3, 1, 2, a, ca, m, cm⟩ := by
    have h0 := h.new
    unfold newTr' Tr.sh at h0 ⊢
    injection h0 with h1 h2 h3 h4 h5 h6 h7
    rw [h4, h5, h6, h7]
    congr 1
    · omega
    · omega
    · omega
  have := new_at l hl 1
  rw [e] at this
  exact this
def chS (a : MM Dt Cr) (d : Dt) (L : List Cr) : SV := if MM.has a d then dots (L.map (·.dot)) else .d .nils
def chE (a : MM Dt Cr) (d : Dt) : Int := if MM.has a d then 0 else 7
theorem chainR_two (a : MM Dt Cr) (d : Dt) (L : List Cr) : chainR a d L = .tup [chS a d L, .d (.int .i64 (chE a d))] := by
  unfold chainR chS chE
  cases MM.has a d with
  | false => rfl
  | true => simp [dots]
section
attribute [local irreducible] Ak.cells chS chE
end
end Go.Proofs.Ytmmonbnlleeloaa
