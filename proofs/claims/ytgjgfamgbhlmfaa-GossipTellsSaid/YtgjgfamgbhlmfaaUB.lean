/-
  Gossip: what one lacks, one by one.
-/
import Derived.Test.YtgjgfamgbhlmfaaUA
set_option linter.unusedSectionVars false
set_option linter.unusedVariables false
set_option linter.unusedSimpArgs false
namespace Go.Proofs.Ytgjgfamgbhlmfaa
open Go.Sl Go.Proofs Go.Sort
attribute [local irreducible] SW RW SCd SC CallP Pruned

/-- The names met so far. -/
def Met (M : MM Dt Int) (t : List OpD) : Prop := ∀ d, (MM.get M d).getD 0 = if (findO t d).isSome then 1 else 0
theorem findO_snoc (t : List OpD) (x : OpD) (d : Dt) : (findO (t ++ [x]) d).isSome = ((findO t d).isSome || decide (x.dot = d)) := by
  unfold findO
  rw [List.find?_append]
  cases List.find? (fun o => decide (o.dot = d)) t with
  | some _ => simp
  | none => by_cases e : x.dot = d <;> simp [e]
theorem Met.put {M : MM Dt Int} {t : List OpD} (h : Met M t) (c : Nat) (x : OpD) : Met (MM.put M c x.dot 1) (t ++ [x]) := fun d => by
  rw [MM.get_put, findO_snoc]
  by_cases e : d = x.dot
  · rw [if_pos e]; simp [e]
  · rw [if_neg e, h d]
    have : decide (x.dot = d) = false := decide_eq_false fun h => e h.symm
    rw [this, Bool.or_false]
theorem nmap_ok (q : Nat → Bool) (M : MM Dt Int) : ((mapE nmc iv M).all fun e => e.2.1.ok q && e.2.2.ok q) = true := mapE_ok q M (fun _ => rfl) (fun _ => rfl)
/-- One's own objects: the row so far, the names, the set, the vector. -/
def LG (rn k b q : Nat) (s : List OpD) (M : MM Dt Int) (c : Nat) (l : List OpD) (v : Vec) : Hp := [(rn, .arr 48 29 s.length (opc s)), (k, .map (mapE nmc iv M) c), (b, .box 22 [ops l]), (q, .box 25 v.cells)]
structure LI {σ : Type} (Fh : σ → Hp) (s0 : σ) (k b q : Nat) (l : List OpD) (v : Vec) (i rn : Nat) (M : MM Dt Int) (c kk : Nat) : Prop where
  h1 : i ≤ l.length
  h2 : Met M (l.take i)
  own : Own (LG rn k b q (lackL (l.take i) v) M c l v) Fh s0 kk
  h3 : kk ≤ k + 2 + 3 * i
  h4 : k < kk
structure YI {σ : Type} (Fh : σ → Hp) (Step : σ → OpD → σ → Prop) (go : σ → Bool) (s0 : σ) (k b q nky : Nat) (l : List OpD) (v : Vec) (L : List OpD) (j : Nat) (s : σ) (kk : Nat) : Prop where
  c1 : j ≤ L.length
  c2 : OnBy Step s0 (L.take j) s
  c3 : go s = true
  c4 : Own [(b, Ob.box 22 [ops l]), (q, .box 25 v.cells)] Fh s kk
  c5 : kk ≤ k + 2 + 3 * l.length + j * (1 + nky)
  c6 : k ≤ kk
set_option maxHeartbeats 4000000 in
theorem lacked1_sb {σ : Type} {Fh : σ → Hp} {Step : σ → OpD → σ → Prop} {go : σ → Bool} {nky y b q k : Nat} {l : List OpD} {v : Vec} (hl : l.length ≤ 1048576) (hlin : ∀ x, x ∈ l → x.lin ∧ x.cl.length ≤ 1048576 ∧ x.dot.wf) (s0 : σ) (hy : YieldOk Try.prog y (fun x : OpD => .agg x.cells) nky Fh Step go s0 (osorted (lackL l v)).length) (hgo : go s0 = true)
    (hO : Own [(b, Ob.box 22 [ops l]), (q, .box 25 v.cells)] Fh s0 k) :
    SB Try.prog gossip_lacked_1.f [.yl y, .ptr b 0, .ptr q 0] ((b, .box 22 [ops l]) :: (q, .box 25 v.cells) :: Fh s0) k (2 + 3 * l.length + (osorted (lackL l v)).length * (1 + nky))
      fun r F => r = .tup [] ∧ ∃ (xs : List OpD) (s' : σ), OnBy Step s0 xs s' ∧ xs <+: osorted (lackL l v) ∧ (go s' = true → xs = osorted (lackL l v)) ∧ (lk (Fh s') b = none ∧ lk (Fh s') q = none) ∧ F = (b, .box 22 [ops l]) :: (q, .box 25 v.cells) :: Fh s' := by
  have hyk : y < k := by
    obtain ⟨ob, ho⟩ := Option.ne_none_iff_exists'.1 (hy.isin s0)
    simpa using (Hp.ok_lk hO.okF ho).1
  have hb : b < k := hO.lt b (by simp)
  have hq : q < k := hO.lt q (by simp)
  have hbq : b ≠ q := by have := hO.nd; simp at this; exact this
  refine gossip_lacked_1.enter (by simp [SV.ok, SV.oks]; omega) hO.okk (by simp) ?_
  dsimp only [gossip_lacked_1.s, Co.M, Co.G, Co.J, Co.H, Co.N, Co.F, Co.C, Co.Z, Co.B, Co.b8, Co.b32, Co.b64, Co.i6, Co.z8, Co.z29]
  have f1 := ne4 hbq
  have f2 := ne4 (show k ≠ b by omega)
  have f3 := ne4 (show k ≠ q by omega)
  have f4 := ne4 (show k + 1 ≠ k by omega)
  have f5 := ne4 (show k + 1 ≠ b by omega)
  have f6 := ne4 (show k + 1 ≠ q by omega)
  have g0 : List.lookup k (Fh s0) = none := hO.out (Nat.le_refl _)
  have g1 : List.lookup (k + 1) (Fh s0) = none := hO.out (by omega)
  refine SW.seq ?_
  (refine SW.regL [0, 1, 2, 4, 5, 7, 8, 10, 12, 13, 14, 15, 36, 46, 47, 48, 49, 59] mixed ?_; (repeat (first | refine RW.ro (And.intro (f1) (And.intro (f2) (And.intro (f3) (g0)))) (h := ?_) | refine RW.skip (h := ?_) | refine RW.op (And.intro (f1) (And.intro (f2) (And.intro (f3) (g0)))) (h := ?_) | refine RW.opN (And.intro (f1) (And.intro (f2) (And.intro (f3) (g0)))) (h := ?_) | refine RW.skip0 (h := ?_) | refine lit1 rfl rfl (h := ?_))); refine RW.nil ⟨conf_of (by kernel_rfl), Pruned.mk (h := ?_)⟩)
  refine SW.seq ?_
  (refine SW.regL [0, 1, 2, 4, 5, 7, 8, 10, 12, 13, 14, 15, 36, 46, 47, 48, 49, 59] mixed ?_; (repeat (first | refine RW.ro bq_tt (h := ?_) | refine RW.skip (h := ?_) | refine RW.op bq_tt (h := ?_) | refine RW.opN bq_tt (h := ?_) | refine RW.skip0 (h := ?_) | refine lit1 rfl rfl (h := ?_))); refine RW.nil ⟨conf_of (by kernel_rfl), Pruned.mk (h := ?_)⟩)
  refine SW.nilrow 5 48 29 rfl ?_
  refine SW.seq (SW.seq ?_)
  (refine SW.regL [0, 1, 2, 4, 5, 7, 8, 10, 12, 13, 14, 15, 36, 46, 47, 48, 49, 59] mixed ?_; (repeat (first | refine RW.ro (And.intro (f1) (And.intro (f2) (And.intro (f3) (And.intro (f4) (And.intro (f5) (And.intro (f6) (And.intro (g0) (g1)))))))) (h := ?_) | refine RW.skip (h := ?_) | refine RW.op (And.intro (f1) (And.intro (f2) (And.intro (f3) (And.intro (f4) (And.intro (f5) (And.intro (f6) (And.intro (g0) (g1)))))))) (h := ?_) | refine RW.opN (And.intro (f1) (And.intro (f2) (And.intro (f3) (And.intro (f4) (And.intro (f5) (And.intro (f6) (And.intro (g0) (g1)))))))) (h := ?_) | refine RW.skip0 (h := ?_) | refine lit1 rfl rfl (h := ?_))); refine RW.nil ⟨conf_of (by kernel_rfl), Pruned.mk (h := ?_)⟩)
  refine SW.block ?_
  have hO1 : Own (LG (k + 1) k b q [] [] 0 l v) Fh s0 (k + 2) := by
    refine Own.new (Own.new hO (Nat.le_refl _) (Nat.lt_succ_self _) ?_) (Nat.le_refl _) (Nat.lt_succ_self _) ?_
    · exact nmap_ok (fun m => decide (m < k + 1)) []
    · show SV.oks (fun m => decide (m < k + 2)) [] = true
      rfl
  refine SW.loop (α := {i : Nat × Nat × MM Dt Int × Nat × Nat // LI Fh s0 k b q l v i.1 i.2.1 i.2.2.1 i.2.2.2.1 i.2.2.2.2})
    (fun i => ⟨[(14, i64 i.1.1), (12, ops l), (13, i64 l.length), (4, .mp k), (5, .gs i.1.2.1 (lackL (l.take i.1.1) v).length), (0, .yl y), (1, .ptr b 0), (2, .ptr q 0)], LG i.1.2.1 k b q (lackL (l.take i.1.1) v) i.1.2.2.1 i.1.2.2.2.1 l v ++ Fh s0, i.1.2.2.2.2⟩)
    (fun i => l.length - i.1.1) ⟨(0, k + 1, [], 0, k + 2), ⟨Nat.zero_le _, fun d => by simp [MM.get, findO], hO1, by show k + 2 ≤ _; omega, by show k < k + 2; omega⟩⟩ id ?_ ?_
  · refine Weak.own hO1 (hy.nd s0) (by show k ≤ k + 2; omega) (by simp [EnvW, argE, List.lookup, SV.ren, SV.ok, SV.oks, lackL, fstO]; omega) (fun n ob h => ?_)
    exact h
  rintro ⟨⟨i, rn, M, c, kk⟩, hi⟩
  have hi : LI Fh s0 k b q l v i rn M c kk := hi
  obtain ⟨p1, p2, p3, p4, p5⟩ := hi
  dsimp only at *
  have n1 : rn < kk := p3.lt rn (by simp [LG])
  have nd := p3.nd
  simp only [LG, List.map_cons, List.map_nil, List.nodup_cons, List.mem_cons, List.not_mem_nil, or_false, not_or] at nd
  obtain ⟨⟨r1, r2, r3⟩, _⟩ := nd
  have e1 := ne4 r1
  have e2 := ne4 r2
  have e3 := ne4 r3
  simp only [LG, List.cons_append, List.nil_append]
  by_cases h : i < l.length
  · have h1 : decide ((i : Int) < l.length) = true := by simp only [decide_eq_true_eq]; omega
    obtain ⟨x, hx⟩ := get_of_lt h
    have hxw := (hlin x (List.mem_of_getElem? hx)).2.2
    have t2 : IntKind.i64.wrap ((i : Int) + 1) = ((i + 1 : Nat) : Int) := wrap_i64 _ (by omega)
    have t3 : IntKind.u32.wrap (x.dot.r : Int) = (x.dot.r : Int) := wrap_u32 _ (by have := hxw.1; omega)
    have z0 := ne4 (show kk ≠ rn by omega)
    have z1 := ne4 (show kk ≠ k by omega)
    have z2 := ne4 (show kk ≠ b by omega)
    have z3 := ne4 (show kk ≠ q by omega)
    have y0 := ne4 (show kk + 1 ≠ rn by omega)
    have y1 := ne4 (show kk + 1 ≠ k by omega)
    have y2 := ne4 (show kk + 1 ≠ b by omega)
    have y3 := ne4 (show kk + 1 ≠ q by omega)
    have y4 := ne4 (show kk + 1 ≠ kk by omega)
    have w0 := ne4 (show kk + 2 ≠ rn by omega)
    have w1 := ne4 (show kk + 2 ≠ k by omega)
    have w2 := ne4 (show kk + 2 ≠ b by omega)
    have w3 := ne4 (show kk + 2 ≠ q by omega)
    have w4 := ne4 (show kk + 2 ≠ kk by omega)
    have w5 := ne4 (show kk + 2 ≠ kk + 1 by omega)
    have g2 : List.lookup kk (Fh s0) = none := p3.out (Nat.le_refl _)
    have g3 : List.lookup (kk + 1) (Fh s0) = none := p3.out (by omega)
    have g4 : List.lookup (kk + 2) (Fh s0) = none := p3.out (by omega)
    have m1 : spl (spl [SV.d (.int .u32 0), SV.d (.int .u32 0)] 0 [SV.d (.int .u32 (x.dot.r : Int))]) 1 [u32 x.dot.n] = nmc x.dot := rfl
    have m2 : spl [SV.d (.int .u32 0), SV.d (.int .u32 0)] 0 (nmc x.dot) = nmc x.dot := rfl
    have m3 : (nmc x.dot).all SV.isOne = true := rfl
    have m4 : (nmc x.dot).length = 2 := rfl
    have m5 : List.take 2 (nmc x.dot) = nmc x.dot := rfl
    refine SW.seq ?_
    (refine SW.regL [0, 1, 2, 4, 5, 7, 8, 10, 12, 13, 14, 15, 36, 46, 47, 48, 49, 59] mixed ?_; (repeat (first | refine RW.ro (h1) (h := ?_) | refine RW.skip (h := ?_) | refine RW.op (h1) (h := ?_) | refine RW.opN (h1) (h := ?_) | refine RW.skip0 (h := ?_) | refine lit1 rfl rfl (h := ?_))); refine RW.nil ⟨conf_of (by kernel_rfl), Pruned.mk (h := ?_)⟩)
    refine SW.seq (SW.condT rfl (SW.skip ?_))
    refine SW.seq (SW.block (SW.seq ?_))
    (refine SW.regL [0, 1, 2, 4, 5, 7, 8, 10, 12, 13, 14, 15, 36, 46, 47, 48, 49, 59] mixed ?_; (repeat (first | refine RW.ro (And.intro (f1) (And.intro (f2) (And.intro (f3) (And.intro (e1) (And.intro (e2) (And.intro (e3) (And.intro (z0) (And.intro (z1) (And.intro (z2) (And.intro (z3) (And.intro (g2) (And.intro (op_at hx) (op_room0 hx))))))))))))) (h := ?_) | refine RW.skip (h := ?_) | refine RW.op (And.intro (f1) (And.intro (f2) (And.intro (f3) (And.intro (e1) (And.intro (e2) (And.intro (e3) (And.intro (z0) (And.intro (z1) (And.intro (z2) (And.intro (z3) (And.intro (g2) (And.intro (op_at hx) (op_room0 hx))))))))))))) (h := ?_) | refine RW.opN (And.intro (f1) (And.intro (f2) (And.intro (f3) (And.intro (e1) (And.intro (e2) (And.intro (e3) (And.intro (z0) (And.intro (z1) (And.intro (z2) (And.intro (z3) (And.intro (g2) (And.intro (op_at hx) (op_room0 hx))))))))))))) (h := ?_) | refine RW.skip0 (h := ?_) | refine lit1 rfl rfl (h := ?_))); refine RW.nil ⟨conf_of (by kernel_rfl), Pruned.mk (h := ?_)⟩)
    refine SW.seq ?_
    (refine SW.regL [0, 1, 2, 4, 5, 7, 8, 10, 12, 13, 14, 15, 36, 46, 47, 48, 49, 59] mixed ?_; (repeat (first | refine RW.ro (And.intro (f1) (And.intro (f2) (And.intro (f3) (And.intro (e1) (And.intro (e2) (And.intro (e3) (And.intro (z0) (And.intro (z1) (And.intro (z2) (And.intro (z3) (And.intro (y0) (And.intro (y1) (And.intro (y2) (And.intro (y3) (And.intro (y4) (And.intro (g2) (And.intro (g3) (And.intro (t3) (And.intro (m1) (And.intro (m2) (And.intro (m3) (And.intro (m4) (m5))))))))))))))))))))))) (h := ?_) | refine RW.skip (h := ?_) | refine RW.op (And.intro (f1) (And.intro (f2) (And.intro (f3) (And.intro (e1) (And.intro (e2) (And.intro (e3) (And.intro (z0) (And.intro (z1) (And.intro (z2) (And.intro (z3) (And.intro (y0) (And.intro (y1) (And.intro (y2) (And.intro (y3) (And.intro (y4) (And.intro (g2) (And.intro (g3) (And.intro (t3) (And.intro (m1) (And.intro (m2) (And.intro (m3) (And.intro (m4) (m5))))))))))))))))))))))) (h := ?_) | refine RW.opN (And.intro (f1) (And.intro (f2) (And.intro (f3) (And.intro (e1) (And.intro (e2) (And.intro (e3) (And.intro (z0) (And.intro (z1) (And.intro (z2) (And.intro (z3) (And.intro (y0) (And.intro (y1) (And.intro (y2) (And.intro (y3) (And.intro (y4) (And.intro (g2) (And.intro (g3) (And.intro (t3) (And.intro (m1) (And.intro (m2) (And.intro (m3) (And.intro (m4) (m5))))))))))))))))))))))) (h := ?_) | refine RW.skip0 (h := ?_) | refine lit1 rfl rfl (h := ?_))); refine RW.nil ⟨conf_of (by kernel_rfl), Pruned.mk (h := ?_)⟩)
    have hM := p2 x.dot
    have hcov := covers_at v x.dot
    have hsn := lackL_snoc (l.take i) x v
    have e9 : l.take (i + 1) = l.take i ++ [x] := take_snoc hx
    rw [← e9] at hsn
    have hmet : Met (MM.put M c x.dot 1) (l.take (i + 1)) := by rw [e9]; exact p2.put c x
    have hslen : (lackL (l.take i) v).length ≤ i := Nat.le_trans (lackL_len _ _) (by simp; omega)
    have u1 := find_nm x.dot iv M
    have u2 := nm_key x.dot
    have u3 := look_int (kc := nmc) M x.dot
    have u4 := mset_int (kc := nmc) M c x.dot 1
    generalize lackL (l.take i) v = s at hsn hslen p3 ⊢
    have goOn : ∀ (rn' kk' : Nat) (s' : List OpD) (env : List (Nat × SV)) (hp : Hp) (G1 : Hp) (kz : Nat), lackL (l.take (i + 1)) v = s' → Own G1 Fh s0 kz → hp = G1 ++ Fh s0 → rn' ≠ k → rn' ≠ b → rn' ≠ q → (∀ z, z ∈ LG rn' k b q s' (MM.put M c x.dot 1) (MM.clk M c x.dot) l v → z ∈ G1) → kz ≤ kk + 3 → k < kz →
        EnvW id kz env [(14, i64 ((i + 1 : Nat) : Int)), (12, ops l), (13, i64 l.length), (4, .mp k), (5, .gs rn' s'.length), (0, .yl y), (1, .ptr b 0), (2, .ptr q 0)] →
        ∃ (j : {i : Nat × Nat × MM Dt Int × Nat × Nat // LI Fh s0 k b q l v i.1 i.2.1 i.2.2.1 i.2.2.2.1 i.2.2.2.2}) (ρ : Nat → Nat), l.length - j.1.1 < l.length - i ∧ Weak k ⟨env, hp, kz⟩ ⟨[(14, i64 j.1.1), (12, ops l), (13, i64 l.length), (4, .mp k), (5, .gs j.1.2.1 (lackL (l.take j.1.1) v).length), (0, .yl y), (1, .ptr b 0), (2, .ptr q 0)], LG j.1.2.1 k b q (lackL (l.take j.1.1) v) j.1.2.2.1 j.1.2.2.2.1 l v ++ Fh s0, j.1.2.2.2.2⟩ ρ := by
      intro rn' kk' s' env hp G1 kz hs' hG hhp q1 q2 q3 hz hkz hkz2 hE
      have hcut : Own (LG rn' k b q s' (MM.put M c x.dot 1) (MM.clk M c x.dot) l v) Fh s0 kz := hG.cut (by simp [LG, q1, q2, q3, f1, f2, f3]) hz
      refine ⟨⟨(i + 1, rn', MM.put M c x.dot 1, MM.clk M c x.dot, kz), ⟨by show i + 1 ≤ _; omega, hmet, by rw [hs']; exact hcut, by show kz ≤ k + 2 + 3 * (i + 1); omega, hkz2⟩⟩, id, by show l.length - (i + 1) < _; omega, ?_⟩
      dsimp only
      rw [hs', hhp]
      exact Weak.own hcut (hy.nd s0) (by omega) hE (hG.keep hz)
    have base2 : Own [(rn, .arr 48 29 s.length (opc s)), (k, .map (mapE nmc iv (MM.put M c x.dot 1)) (MM.clk M c x.dot)), (b, .box 22 [ops l]), (q, .box 25 v.cells)] Fh s0 kk := by
      refine p3.turn rfl ?_
      have := p3.ok
      simp only [LG, Hp.ok, List.all_cons, List.all_nil, Ob.ok, Bool.and_true, Bool.and_eq_true] at this ⊢
      exact ⟨this.1, ⟨this.2.1.1, nmap_ok _ _⟩, this.2.2⟩
    have base : Own [(k, .map (mapE nmc iv (MM.put M c x.dot 1)) (MM.clk M c x.dot)), (b, .box 22 [ops l]), (q, .box 25 v.cells)] Fh s0 kk := base2.less (List.sublist_cons_self _ _)
    rcases c2 : (findO (l.take i) x.dot).isSome with _ | _
    · rw [c2] at hM hsn
      simp only [Bool.not_false, Bool.and_true, Bool.false_eq_true, if_false] at hM hsn
      rw [hM] at u3
      have b1 : ((0 : Int) == 0) = true := by decide
      rcases c1 : v.covers x.dot with _ | _
      · rw [c1] at hcov hsn
        simp only [Bool.not_false, if_true] at hsn
        refine SW.seq (SW.seq ?_)
        (refine SW.regL [0, 1, 2, 4, 5, 7, 8, 10, 12, 13, 14, 15, 36, 46, 47, 48, 49, 59] mixed ?_; (repeat (first | refine RW.ro (And.intro (f1) (And.intro (f2) (And.intro (f3) (And.intro (e1) (And.intro (e2) (And.intro (e3) (And.intro (z0) (And.intro (z1) (And.intro (z2) (And.intro (z3) (And.intro (y0) (And.intro (y1) (And.intro (y2) (And.intro (y3) (And.intro (y4) (And.intro (m3) (And.intro (m4) (And.intro (m5) (And.intro (u1) (And.intro (u2) (And.intro (u3) (And.intro (b1) (nmc_eq x.dot x.dot))))))))))))))))))))))) (h := ?_) | refine RW.skip (h := ?_) | refine RW.op (And.intro (f1) (And.intro (f2) (And.intro (f3) (And.intro (e1) (And.intro (e2) (And.intro (e3) (And.intro (z0) (And.intro (z1) (And.intro (z2) (And.intro (z3) (And.intro (y0) (And.intro (y1) (And.intro (y2) (And.intro (y3) (And.intro (y4) (And.intro (m3) (And.intro (m4) (And.intro (m5) (And.intro (u1) (And.intro (u2) (And.intro (u3) (And.intro (b1) (nmc_eq x.dot x.dot))))))))))))))))))))))) (h := ?_) | refine RW.opN (And.intro (f1) (And.intro (f2) (And.intro (f3) (And.intro (e1) (And.intro (e2) (And.intro (e3) (And.intro (z0) (And.intro (z1) (And.intro (z2) (And.intro (z3) (And.intro (y0) (And.intro (y1) (And.intro (y2) (And.intro (y3) (And.intro (y4) (And.intro (m3) (And.intro (m4) (And.intro (m5) (And.intro (u1) (And.intro (u2) (And.intro (u3) (And.intro (b1) (nmc_eq x.dot x.dot))))))))))))))))))))))) (h := ?_) | refine RW.skip0 (h := ?_) | refine lit1 rfl rfl (h := ?_) | (refine RW.callC (h := ?_); (first | refine CallP.mk (And.intro (f1) (And.intro (f2) (And.intro (f3) (And.intro (e1) (And.intro (e2) (And.intro (e3) (And.intro (z0) (And.intro (z1) (And.intro (z2) (And.intro (z3) (And.intro (y0) (And.intro (y1) (And.intro (y2) (And.intro (y3) (And.intro (y4) (And.intro (m3) (And.intro (m4) (And.intro (m5) (And.intro (u1) (And.intro (u2) (And.intro (u3) (And.intro (b1) (nmc_eq x.dot x.dot))))))))))))))))))))))) (hc := hcov _) (h := ?_))))); refine RW.nil ⟨conf_of (by kernel_rfl), Pruned.mk (h := ?_)⟩)
        refine SW.condT rfl ?_
        have d1 : s.length + [x].length ≤ 9223372036854775807 := by simp; omega
        have hd : hdel (Fh s0) rn = Fh s0 := hdel_none (p3.no rn (by simp [LG]))
        (refine SW.regL [0, 1, 2, 4, 5, 7, 8, 10, 12, 13, 14, 15, 36, 46, 47, 48, 49, 59] mixed ?_; (repeat (first | refine RW.ro (And.intro (f1) (And.intro (f2) (And.intro (f3) (And.intro (e1) (And.intro (e2) (And.intro (e3) (And.intro (z0) (And.intro (z1) (And.intro (z2) (And.intro (z3) (And.intro (y0) (And.intro (y1) (And.intro (y2) (And.intro (y3) (And.intro (y4) (And.intro (w0) (And.intro (w1) (And.intro (w2) (And.intro (w3) (And.intro (w4) (And.intro (w5) (And.intro (g2) (And.intro (g3) (And.intro (g4) (hd))))))))))))))))))))))))) (h := ?_) | refine RW.skip (h := ?_) | refine RW.op (And.intro (f1) (And.intro (f2) (And.intro (f3) (And.intro (e1) (And.intro (e2) (And.intro (e3) (And.intro (z0) (And.intro (z1) (And.intro (z2) (And.intro (z3) (And.intro (y0) (And.intro (y1) (And.intro (y2) (And.intro (y3) (And.intro (y4) (And.intro (w0) (And.intro (w1) (And.intro (w2) (And.intro (w3) (And.intro (w4) (And.intro (w5) (And.intro (g2) (And.intro (g3) (And.intro (g4) (hd))))))))))))))))))))))))) (h := ?_) | refine RW.opN (And.intro (f1) (And.intro (f2) (And.intro (f3) (And.intro (e1) (And.intro (e2) (And.intro (e3) (And.intro (z0) (And.intro (z1) (And.intro (z2) (And.intro (z3) (And.intro (y0) (And.intro (y1) (And.intro (y2) (And.intro (y3) (And.intro (y4) (And.intro (w0) (And.intro (w1) (And.intro (w2) (And.intro (w3) (And.intro (w4) (And.intro (w5) (And.intro (g2) (And.intro (g3) (And.intro (g4) (hd))))))))))))))))))))))))) (h := ?_) | refine RW.skip0 (h := ?_) | refine lit1 rfl rfl (h := ?_) | (refine RW.callC (h := ?_); (first | refine CallP.mk (And.intro (f1) (And.intro (f2) (And.intro (f3) (And.intro (e1) (And.intro (e2) (And.intro (e3) (And.intro (z0) (And.intro (z1) (And.intro (z2) (And.intro (z3) (And.intro (y0) (And.intro (y1) (And.intro (y2) (And.intro (y3) (And.intro (y4) (And.intro (w0) (And.intro (w1) (And.intro (w2) (And.intro (w3) (And.intro (w4) (And.intro (w5) (And.intro (g2) (And.intro (g3) (And.intro (g4) (hd))))))))))))))))))))))))) (hc := hcov _) (h := ?_))))); refine RW.nil ⟨conf_of (by kernel_rfl), Pruned.mk (h := ?_)⟩)
        (refine SW.regL [0, 1, 2, 4, 5, 7, 8, 10, 12, 13, 14, 15, 36, 46, 47, 48, 49, 59] mixed ?_; (repeat (first | refine RW.ro (And.intro (f1) (And.intro (f2) (And.intro (f3) (And.intro (e1) (And.intro (e2) (And.intro (e3) (And.intro (z0) (And.intro (z1) (And.intro (z2) (And.intro (z3) (And.intro (y0) (And.intro (y1) (And.intro (y2) (And.intro (y3) (And.intro (y4) (And.intro (w0) (And.intro (w1) (And.intro (w2) (And.intro (w3) (And.intro (w4) (And.intro (w5) (And.intro (m3) (And.intro (m4) (And.intro (m5) (And.intro (u1) (And.intro (u2) (And.intro (u4) (nmc_eq x.dot x.dot)))))))))))))))))))))))))))) (h := ?_) | refine RW.skip (h := ?_) | refine RW.op (And.intro (f1) (And.intro (f2) (And.intro (f3) (And.intro (e1) (And.intro (e2) (And.intro (e3) (And.intro (z0) (And.intro (z1) (And.intro (z2) (And.intro (z3) (And.intro (y0) (And.intro (y1) (And.intro (y2) (And.intro (y3) (And.intro (y4) (And.intro (w0) (And.intro (w1) (And.intro (w2) (And.intro (w3) (And.intro (w4) (And.intro (w5) (And.intro (m3) (And.intro (m4) (And.intro (m5) (And.intro (u1) (And.intro (u2) (And.intro (u4) (nmc_eq x.dot x.dot)))))))))))))))))))))))))))) (h := ?_) | refine RW.opN (And.intro (f1) (And.intro (f2) (And.intro (f3) (And.intro (e1) (And.intro (e2) (And.intro (e3) (And.intro (z0) (And.intro (z1) (And.intro (z2) (And.intro (z3) (And.intro (y0) (And.intro (y1) (And.intro (y2) (And.intro (y3) (And.intro (y4) (And.intro (w0) (And.intro (w1) (And.intro (w2) (And.intro (w3) (And.intro (w4) (And.intro (w5) (And.intro (m3) (And.intro (m4) (And.intro (m5) (And.intro (u1) (And.intro (u2) (And.intro (u4) (nmc_eq x.dot x.dot)))))))))))))))))))))))))))) (h := ?_) | refine RW.skip0 (h := ?_) | refine lit1 rfl rfl (h := ?_) | (refine RW.callC (h := ?_); (first | refine CallP.mk (And.intro (f1) (And.intro (f2) (And.intro (f3) (And.intro (e1) (And.intro (e2) (And.intro (e3) (And.intro (z0) (And.intro (z1) (And.intro (z2) (And.intro (z3) (And.intro (y0) (And.intro (y1) (And.intro (y2) (And.intro (y3) (And.intro (y4) (And.intro (w0) (And.intro (w1) (And.intro (w2) (And.intro (w3) (And.intro (w4) (And.intro (w5) (And.intro (m3) (And.intro (m4) (And.intro (m5) (And.intro (u1) (And.intro (u2) (And.intro (u4) (nmc_eq x.dot x.dot)))))))))))))))))))))))))))) (hc := hcov _) (h := ?_))))); refine RW.nil ⟨conf_of (by kernel_rfl), Pruned.mk (h := ?_)⟩)
        (refine SW.regL [0, 1, 2, 4, 5, 7, 8, 10, 12, 13, 14, 15, 36, 46, 47, 48, 49, 59] mixed ?_; (repeat (first | refine RW.ro (t2) (h := ?_) | refine RW.skip (h := ?_) | refine RW.op (t2) (h := ?_) | refine RW.opN (t2) (h := ?_) | refine RW.skip0 (h := ?_) | refine lit1 rfl rfl (h := ?_) | (refine RW.callC (h := ?_); (first | refine CallP.mk (t2) (hc := hcov _) (h := ?_))))); refine RW.nil ⟨conf_of (by kernel_rfl), Pruned.mk (h := ?_)⟩)
        refine goOn (kk + 2) kk (s ++ [x]) _ _ [(kk + 2, .arr 48 29 (s ++ [x]).length (opc (s ++ [x]))), (kk + 1, .box 65 (nmc x.dot)), (kk, .box 48 x.cells), (k, .map (mapE nmc iv (MM.put M c x.dot 1)) (MM.clk M c x.dot)), (b, .box 22 [ops l]), (q, .box 25 v.cells)] (kk + 3) hsn (Own.new (Own.new (Own.new base (Nat.le_refl _) (Nat.lt_succ_self _) (OpD.cells_ok _ _)) (Nat.le_refl _) (Nat.lt_succ_self _) rfl) (Nat.le_refl _) (Nat.lt_succ_self _) (SV.oks_d _)) (by simp [opc]) (by omega) (by omega) (by omega) ?_ (by omega) (by omega) ?_
        · intro z hz
          simp only [LG, List.mem_cons, List.not_mem_nil, or_false] at hz ⊢
          rcases hz with rfl | rfl | rfl | rfl <;> simp
        · simp [EnvW, List.lookup, SV.ren, SV.rens, SV.ok, SV.oks]; omega
      · rw [c1] at hcov hsn
        simp only [Bool.not_true, Bool.false_eq_true, if_false] at hsn
        refine SW.seq (SW.seq ?_)
        (refine SW.regL [0, 1, 2, 4, 5, 7, 8, 10, 12, 13, 14, 15, 36, 46, 47, 48, 49, 59] mixed ?_; (repeat (first | refine RW.ro (And.intro (f1) (And.intro (f2) (And.intro (f3) (And.intro (e1) (And.intro (e2) (And.intro (e3) (And.intro (z0) (And.intro (z1) (And.intro (z2) (And.intro (z3) (And.intro (y0) (And.intro (y1) (And.intro (y2) (And.intro (y3) (And.intro (y4) (And.intro (m3) (And.intro (m4) (And.intro (m5) (And.intro (u1) (And.intro (u2) (And.intro (u3) (And.intro (b1) (nmc_eq x.dot x.dot))))))))))))))))))))))) (h := ?_) | refine RW.skip (h := ?_) | refine RW.op (And.intro (f1) (And.intro (f2) (And.intro (f3) (And.intro (e1) (And.intro (e2) (And.intro (e3) (And.intro (z0) (And.intro (z1) (And.intro (z2) (And.intro (z3) (And.intro (y0) (And.intro (y1) (And.intro (y2) (And.intro (y3) (And.intro (y4) (And.intro (m3) (And.intro (m4) (And.intro (m5) (And.intro (u1) (And.intro (u2) (And.intro (u3) (And.intro (b1) (nmc_eq x.dot x.dot))))))))))))))))))))))) (h := ?_) | refine RW.opN (And.intro (f1) (And.intro (f2) (And.intro (f3) (And.intro (e1) (And.intro (e2) (And.intro (e3) (And.intro (z0) (And.intro (z1) (And.intro (z2) (And.intro (z3) (And.intro (y0) (And.intro (y1) (And.intro (y2) (And.intro (y3) (And.intro (y4) (And.intro (m3) (And.intro (m4) (And.intro (m5) (And.intro (u1) (And.intro (u2) (And.intro (u3) (And.intro (b1) (nmc_eq x.dot x.dot))))))))))))))))))))))) (h := ?_) | refine RW.skip0 (h := ?_) | refine lit1 rfl rfl (h := ?_) | (refine RW.callC (h := ?_); (first | refine CallP.mk (And.intro (f1) (And.intro (f2) (And.intro (f3) (And.intro (e1) (And.intro (e2) (And.intro (e3) (And.intro (z0) (And.intro (z1) (And.intro (z2) (And.intro (z3) (And.intro (y0) (And.intro (y1) (And.intro (y2) (And.intro (y3) (And.intro (y4) (And.intro (m3) (And.intro (m4) (And.intro (m5) (And.intro (u1) (And.intro (u2) (And.intro (u3) (And.intro (b1) (nmc_eq x.dot x.dot))))))))))))))))))))))) (hc := hcov _) (h := ?_))))); refine RW.nil ⟨conf_of (by kernel_rfl), Pruned.mk (h := ?_)⟩)
        refine SW.condF rfl (SW.skip ?_)
        (refine SW.regL [0, 1, 2, 4, 5, 7, 8, 10, 12, 13, 14, 15, 36, 46, 47, 48, 49, 59] mixed ?_; (repeat (first | refine RW.ro (And.intro (f1) (And.intro (f2) (And.intro (f3) (And.intro (e1) (And.intro (e2) (And.intro (e3) (And.intro (z0) (And.intro (z1) (And.intro (z2) (And.intro (z3) (And.intro (y0) (And.intro (y1) (And.intro (y2) (And.intro (y3) (And.intro (y4) (And.intro (w0) (And.intro (w1) (And.intro (w2) (And.intro (w3) (And.intro (w4) (And.intro (w5) (And.intro (m3) (And.intro (m4) (And.intro (m5) (And.intro (u1) (And.intro (u2) (And.intro (u4) (nmc_eq x.dot x.dot)))))))))))))))))))))))))))) (h := ?_) | refine RW.skip (h := ?_) | refine RW.op (And.intro (f1) (And.intro (f2) (And.intro (f3) (And.intro (e1) (And.intro (e2) (And.intro (e3) (And.intro (z0) (And.intro (z1) (And.intro (z2) (And.intro (z3) (And.intro (y0) (And.intro (y1) (And.intro (y2) (And.intro (y3) (And.intro (y4) (And.intro (w0) (And.intro (w1) (And.intro (w2) (And.intro (w3) (And.intro (w4) (And.intro (w5) (And.intro (m3) (And.intro (m4) (And.intro (m5) (And.intro (u1) (And.intro (u2) (And.intro (u4) (nmc_eq x.dot x.dot)))))))))))))))))))))))))))) (h := ?_) | refine RW.opN (And.intro (f1) (And.intro (f2) (And.intro (f3) (And.intro (e1) (And.intro (e2) (And.intro (e3) (And.intro (z0) (And.intro (z1) (And.intro (z2) (And.intro (z3) (And.intro (y0) (And.intro (y1) (And.intro (y2) (And.intro (y3) (And.intro (y4) (And.intro (w0) (And.intro (w1) (And.intro (w2) (And.intro (w3) (And.intro (w4) (And.intro (w5) (And.intro (m3) (And.intro (m4) (And.intro (m5) (And.intro (u1) (And.intro (u2) (And.intro (u4) (nmc_eq x.dot x.dot)))))))))))))))))))))))))))) (h := ?_) | refine RW.skip0 (h := ?_) | refine lit1 rfl rfl (h := ?_) | (refine RW.callC (h := ?_); (first | refine CallP.mk (And.intro (f1) (And.intro (f2) (And.intro (f3) (And.intro (e1) (And.intro (e2) (And.intro (e3) (And.intro (z0) (And.intro (z1) (And.intro (z2) (And.intro (z3) (And.intro (y0) (And.intro (y1) (And.intro (y2) (And.intro (y3) (And.intro (y4) (And.intro (w0) (And.intro (w1) (And.intro (w2) (And.intro (w3) (And.intro (w4) (And.intro (w5) (And.intro (m3) (And.intro (m4) (And.intro (m5) (And.intro (u1) (And.intro (u2) (And.intro (u4) (nmc_eq x.dot x.dot)))))))))))))))))))))))))))) (hc := hcov _) (h := ?_))))); refine RW.nil ⟨conf_of (by kernel_rfl), Pruned.mk (h := ?_)⟩)
        (refine SW.regL [0, 1, 2, 4, 5, 7, 8, 10, 12, 13, 14, 15, 36, 46, 47, 48, 49, 59] mixed ?_; (repeat (first | refine RW.ro (t2) (h := ?_) | refine RW.skip (h := ?_) | refine RW.op (t2) (h := ?_) | refine RW.opN (t2) (h := ?_) | refine RW.skip0 (h := ?_) | refine lit1 rfl rfl (h := ?_) | (refine RW.callC (h := ?_); (first | refine CallP.mk (t2) (hc := hcov _) (h := ?_))))); refine RW.nil ⟨conf_of (by kernel_rfl), Pruned.mk (h := ?_)⟩)
        refine goOn rn kk s _ _ [(kk + 1, .box 65 (nmc x.dot)), (kk, .box 48 x.cells), (rn, .arr 48 29 s.length (opc s)), (k, .map (mapE nmc iv (MM.put M c x.dot 1)) (MM.clk M c x.dot)), (b, .box 22 [ops l]), (q, .box 25 v.cells)] (kk + 2) hsn (Own.new (Own.new base2 (Nat.le_refl _) (Nat.lt_succ_self _) (OpD.cells_ok _ _)) (Nat.le_refl _) (Nat.lt_succ_self _) rfl) rfl r1 r2 r3 ?_ (by omega) (by omega) ?_
        · intro z hz
          simp only [LG, List.mem_cons, List.not_mem_nil, or_false] at hz ⊢
          rcases hz with rfl | rfl | rfl | rfl <;> simp
        · simp [EnvW, List.lookup, SV.ren, SV.rens, SV.ok, SV.oks]; omega
    · rw [c2] at hM hsn
      simp only [Bool.not_true, Bool.and_false, Bool.false_eq_true, if_false, if_true] at hM hsn
      rw [hM] at u3
      have b1 : ((1 : Int) == 0) = false := by decide
      refine SW.seq (SW.seq ?_)
      (refine SW.regL [0, 1, 2, 4, 5, 7, 8, 10, 12, 13, 14, 15, 36, 46, 47, 48, 49, 59] mixed ?_; (repeat (first | refine RW.ro (And.intro (f1) (And.intro (f2) (And.intro (f3) (And.intro (e1) (And.intro (e2) (And.intro (e3) (And.intro (z0) (And.intro (z1) (And.intro (z2) (And.intro (z3) (And.intro (y0) (And.intro (y1) (And.intro (y2) (And.intro (y3) (And.intro (y4) (And.intro (m3) (And.intro (m4) (And.intro (m5) (And.intro (u1) (And.intro (u2) (And.intro (u3) (And.intro (b1) (nmc_eq x.dot x.dot))))))))))))))))))))))) (h := ?_) | refine RW.skip (h := ?_) | refine RW.op (And.intro (f1) (And.intro (f2) (And.intro (f3) (And.intro (e1) (And.intro (e2) (And.intro (e3) (And.intro (z0) (And.intro (z1) (And.intro (z2) (And.intro (z3) (And.intro (y0) (And.intro (y1) (And.intro (y2) (And.intro (y3) (And.intro (y4) (And.intro (m3) (And.intro (m4) (And.intro (m5) (And.intro (u1) (And.intro (u2) (And.intro (u3) (And.intro (b1) (nmc_eq x.dot x.dot))))))))))))))))))))))) (h := ?_) | refine RW.opN (And.intro (f1) (And.intro (f2) (And.intro (f3) (And.intro (e1) (And.intro (e2) (And.intro (e3) (And.intro (z0) (And.intro (z1) (And.intro (z2) (And.intro (z3) (And.intro (y0) (And.intro (y1) (And.intro (y2) (And.intro (y3) (And.intro (y4) (And.intro (m3) (And.intro (m4) (And.intro (m5) (And.intro (u1) (And.intro (u2) (And.intro (u3) (And.intro (b1) (nmc_eq x.dot x.dot))))))))))))))))))))))) (h := ?_) | refine RW.skip0 (h := ?_) | refine lit1 rfl rfl (h := ?_))); refine RW.nil ⟨conf_of (by kernel_rfl), Pruned.mk (h := ?_)⟩)
      refine SW.condF rfl (SW.skip ?_)
      (refine SW.regL [0, 1, 2, 4, 5, 7, 8, 10, 12, 13, 14, 15, 36, 46, 47, 48, 49, 59] mixed ?_; (repeat (first | refine RW.ro (And.intro (f1) (And.intro (f2) (And.intro (f3) (And.intro (e1) (And.intro (e2) (And.intro (e3) (And.intro (z0) (And.intro (z1) (And.intro (z2) (And.intro (z3) (And.intro (y0) (And.intro (y1) (And.intro (y2) (And.intro (y3) (And.intro (y4) (And.intro (w0) (And.intro (w1) (And.intro (w2) (And.intro (w3) (And.intro (w4) (And.intro (w5) (And.intro (m3) (And.intro (m4) (And.intro (m5) (And.intro (u1) (And.intro (u2) (And.intro (u4) (nmc_eq x.dot x.dot)))))))))))))))))))))))))))) (h := ?_) | refine RW.skip (h := ?_) | refine RW.op (And.intro (f1) (And.intro (f2) (And.intro (f3) (And.intro (e1) (And.intro (e2) (And.intro (e3) (And.intro (z0) (And.intro (z1) (And.intro (z2) (And.intro (z3) (And.intro (y0) (And.intro (y1) (And.intro (y2) (And.intro (y3) (And.intro (y4) (And.intro (w0) (And.intro (w1) (And.intro (w2) (And.intro (w3) (And.intro (w4) (And.intro (w5) (And.intro (m3) (And.intro (m4) (And.intro (m5) (And.intro (u1) (And.intro (u2) (And.intro (u4) (nmc_eq x.dot x.dot)))))))))))))))))))))))))))) (h := ?_) | refine RW.opN (And.intro (f1) (And.intro (f2) (And.intro (f3) (And.intro (e1) (And.intro (e2) (And.intro (e3) (And.intro (z0) (And.intro (z1) (And.intro (z2) (And.intro (z3) (And.intro (y0) (And.intro (y1) (And.intro (y2) (And.intro (y3) (And.intro (y4) (And.intro (w0) (And.intro (w1) (And.intro (w2) (And.intro (w3) (And.intro (w4) (And.intro (w5) (And.intro (m3) (And.intro (m4) (And.intro (m5) (And.intro (u1) (And.intro (u2) (And.intro (u4) (nmc_eq x.dot x.dot)))))))))))))))))))))))))))) (h := ?_) | refine RW.skip0 (h := ?_) | refine lit1 rfl rfl (h := ?_))); refine RW.nil ⟨conf_of (by kernel_rfl), Pruned.mk (h := ?_)⟩)
      (refine SW.regL [0, 1, 2, 4, 5, 7, 8, 10, 12, 13, 14, 15, 36, 46, 47, 48, 49, 59] mixed ?_; (repeat (first | refine RW.ro (t2) (h := ?_) | refine RW.skip (h := ?_) | refine RW.op (t2) (h := ?_) | refine RW.opN (t2) (h := ?_) | refine RW.skip0 (h := ?_) | refine lit1 rfl rfl (h := ?_))); refine RW.nil ⟨conf_of (by kernel_rfl), Pruned.mk (h := ?_)⟩)
      refine goOn rn kk s _ _ [(kk + 1, .box 65 (nmc x.dot)), (kk, .box 48 x.cells), (rn, .arr 48 29 s.length (opc s)), (k, .map (mapE nmc iv (MM.put M c x.dot 1)) (MM.clk M c x.dot)), (b, .box 22 [ops l]), (q, .box 25 v.cells)] (kk + 2) hsn (Own.new (Own.new base2 (Nat.le_refl _) (Nat.lt_succ_self _) (OpD.cells_ok _ _)) (Nat.le_refl _) (Nat.lt_succ_self _) rfl) rfl r1 r2 r3 ?_ (by omega) (by omega) ?_
      · intro z hz
        simp only [LG, List.mem_cons, List.not_mem_nil, or_false] at hz ⊢
        rcases hz with rfl | rfl | rfl | rfl <;> simp
      · simp [EnvW, List.lookup, SV.ren, SV.rens, SV.ok, SV.oks]; omega
  · have h1 : decide ((l.length : Int) < l.length) = false := by simp
    have hil : i = l.length := by omega
    rw [hil, List.take_length] at p3 ⊢
    have hsu := lackL_uniq l v
    have hsl := lackL_len l v
    have hsm : ∀ x, x ∈ lackL l v → x.lin ∧ x.cl.length ≤ 1048576 := fun x hx => ⟨(hlin x (lackL_mem hx)).1, (hlin x (lackL_mem hx)).2.1⟩
    generalize lackL l v = s at hsu hsl hsm p3 hy ⊢
    have hsort := opsort_at rn s hsu (by omega)
    have hLm : ∀ x, x ∈ osorted s → x.lin ∧ x.cl.length ≤ 1048576 := fun x hx => hsm x ((osorted_perm s).mem_iff.1 hx)
    have hLl : (osorted s).length = s.length := (osorted_perm s).length_eq
    rw [← hLl] at hsort
    generalize hL : osorted s = L at hsort hLm hLl hy ⊢
    have hlen2 : s.length = L.length := hLl.symm
    simp only [LG] at p3
    rw [hlen2] at p3 ⊢
    refine SW.seq ?_
    (refine SW.regL [0, 1, 2, 4, 5, 7, 8, 10, 12, 13, 14, 15, 36, 46, 47, 48, 49, 59] mixed ?_; (repeat (first | refine RW.ro (h1) (h := ?_) | refine RW.skip (h := ?_) | refine RW.op (h1) (h := ?_) | refine RW.opN (h1) (h := ?_) | refine RW.skip0 (h := ?_) | refine lit1 rfl rfl (h := ?_))); refine RW.nil ⟨conf_of (by kernel_rfl), Pruned.mk (h := ?_)⟩)
    refine SW.seq (SW.condF rfl (SW.exit ?_))
    refine SW.seq ?_
    (refine SW.regL [0, 1, 2, 4, 5, 7, 8, 10, 12, 13, 14, 15, 36, 46, 47, 48, 49, 59] mixed ?_; (repeat (first | refine RW.ro (And.intro (e1) (And.intro (e2) (e3))) (h := ?_) | refine RW.skip (h := ?_) | refine RW.op (And.intro (e1) (And.intro (e2) (e3))) (h := ?_) | refine RW.opN (And.intro (e1) (And.intro (e2) (e3))) (h := ?_) | refine RW.skip0 (h := ?_) | refine lit1 rfl rfl (h := ?_) | (refine RW.callC (h := ?_); (first | refine CallP.mk (And.intro (e1) (And.intro (e2) (e3))) (hs := HSub.cons (by simp [lk_cons]) (HSub.nil _)) (hc := hsort _) (h := ?_))))); refine RW.nil ⟨conf_of (by kernel_rfl), Pruned.mk (h := ?_)⟩)
    refine SW.freeze rn (L.flatMap OpD.ds) (by rw [lk_cons, if_pos rfl]) rfl ?_
    have hd : hdel (Fh s0) rn = Fh s0 := hdel_none (p3.no rn (by simp))
    simp only [frzE, SV.frz, List.map_cons, List.map_nil, if_true, if_false, reduceIte, hdel, Nat.reduceEqDiff, f1, f2, f3, e1, e2, e3, hd]
    refine SW.seq ?_
    (refine SW.regL [0, 1, 2, 4, 5, 7, 8, 10, 12, 13, 14, 15, 36, 46, 47, 48, 49, 59] mixed ?_; (repeat (first | refine RW.ro bq_tt (h := ?_) | refine RW.skip (h := ?_) | refine RW.op bq_tt (h := ?_) | refine RW.opN bq_tt (h := ?_) | refine RW.skip0 (h := ?_) | refine lit1 rfl rfl (h := ?_) | (refine RW.callC (h := ?_); (first | refine CallP.mk bq_tt (hs := HSub.cons (by simp [lk_cons]) (HSub.nil _)) (hc := hsort _) (h := ?_))))); refine RW.nil ⟨conf_of (by kernel_rfl), Pruned.mk (h := ?_)⟩)
    refine SW.block ?_
    have base : Own [(b, Ob.box 22 [ops l]), (q, .box 25 v.cells)] Fh s0 kk := p3.less ((List.sublist_cons_self _ _).trans (List.sublist_cons_self _ _))
    have fin : ∀ (s' : σ) (xs : List OpD), OnBy Step s0 xs s' → xs <+: L → (go s' = true → xs = L) → Own [(b, Ob.box 22 [ops l]), (q, .box 25 v.cells)] Fh s' (k + (2 + 3 * l.length + L.length * (1 + nky))) →
        Go.Sl.Fin k (2 + 3 * l.length + L.length * (1 + nky)) [] (fun r F => r = .tup [] ∧ ∃ (xs : List OpD) (s' : σ), OnBy Step s0 xs s' ∧ xs <+: L ∧ (go s' = true → xs = L) ∧ (lk (Fh s') b = none ∧ lk (Fh s') q = none) ∧ F = (b, .box 22 [ops l]) :: (q, .box 25 v.cells) :: Fh s') ⟨[], [(b, Ob.box 22 [ops l]), (q, .box 25 v.cells)] ++ Fh s', k + (2 + 3 * l.length + L.length * (1 + nky))⟩ := by
      intro s' xs a1 a2 a3 hc
      exact End.mk ([(b, Ob.box 22 [ops l]), (q, .box 25 v.cells)] ++ Fh s') (h3 := fun _ _ h => h) (h4 := ⟨rfl, xs, s', a1, a2, a3, ⟨hc.no b (by simp), hc.no q (by simp)⟩, rfl⟩) (h6 := hc.okk) (h7 := Nat.le_refl _)
    have wk : ∀ (s' : σ) (env : List (Nat × SV)) (G1 : Hp) (kz : Nat), Own G1 Fh s' kz → (∀ z, z ∈ [(b, Ob.box 22 [ops l]), (q, .box 25 v.cells)] → z ∈ G1) → kz ≤ k + (2 + 3 * l.length + L.length * (1 + nky)) →
        Own [(b, Ob.box 22 [ops l]), (q, .box 25 v.cells)] Fh s' (k + (2 + 3 * l.length + L.length * (1 + nky))) ∧ Weak k ⟨env, G1 ++ Fh s', kz⟩ ⟨[], [(b, Ob.box 22 [ops l]), (q, .box 25 v.cells)] ++ Fh s', k + (2 + 3 * l.length + L.length * (1 + nky))⟩ id := by
      intro s' env G1 kz a4 a5 a6
      have hc := (a4.cut (G := [(b, Ob.box 22 [ops l]), (q, .box 25 v.cells)]) (by simp [hbq]) a5).mono a6
      exact ⟨hc, Weak.own hc (hy.nd s') (Nat.le_add_right _ _) trivial (a4.keep a5)⟩
    refine SW.loop (α := {i : Nat × σ × Nat // YI Fh Step go s0 k b q nky l v L i.1 i.2.1 i.2.2})
      (fun i => ⟨[(48, i64 i.1.1), (46, ops L), (47, i64 L.length), (0, .yl y)], [(b, Ob.box 22 [ops l]), (q, .box 25 v.cells)] ++ Fh i.1.2.1, i.1.2.2⟩)
      (fun i => L.length - i.1.1) ⟨(0, s0, kk), ⟨Nat.zero_le _, .nil, hgo, base, by show kk ≤ _; omega, by show k ≤ kk; omega⟩⟩ id ?_ ?_
    · refine Weak.own base (hy.nd s0) (by show k ≤ kk; omega) (by simp [EnvW, List.lookup, SV.ren, SV.ok, SV.oks]; omega) (fun n ob hn => ?_)
      have hk0 : Own [(k, .map (mapE nmc iv M) c), (b, Ob.box 22 [ops l]), (q, .box 25 v.cells)] Fh s0 kk := p3.less (List.sublist_cons_self _ _)
      exact hk0.keep (by intro z hz; exact List.mem_cons_of_mem _ hz) n ob hn
    rintro ⟨⟨j, s', kz⟩, hi'⟩
    have hi' : YI Fh Step go s0 k b q nky l v L j s' kz := hi'
    obtain ⟨c1, c2, c3, c4, c5, c6⟩ := hi'
    dsimp only at *
    have hmul : ∀ n : Nat, n ≤ L.length → n * (1 + nky) ≤ L.length * (1 + nky) := fun n h => Nat.mul_le_mul_right _ h
    simp only [List.cons_append, List.nil_append]
    by_cases hj : j < L.length
    · have k1 : decide ((j : Int) < L.length) = true := by simp only [decide_eq_true_eq]; omega
      obtain ⟨x, hx⟩ := get_of_lt hj
      have hxl := hLm x (List.mem_of_getElem? hx)
      have k2 : IntKind.i64.wrap ((j : Int) + 1) = ((j + 1 : Nat) : Int) := wrap_i64 _ (by omega)
      have z2 := ne4 (show kz ≠ b by omega)
      have z3 := ne4 (show kz ≠ q by omega)
      have g2 : List.lookup kz (Fh s') = none := c4.out (Nat.le_refl _)
      have m1 : spl x.cells 28 [.d x.lines] = x.cells := rfl
      have hcl := cloneL_at x hxl.1 hxl.2
      have w2 := hmul (j + 1) (by omega)
      rw [Nat.add_mul, Nat.one_mul] at w2
      refine SW.seq ?_
      (refine SW.regL [0, 1, 2, 4, 5, 7, 8, 10, 12, 13, 14, 15, 36, 46, 47, 48, 49, 59] mixed ?_; (repeat (first | refine RW.ro (k1) (h := ?_) | refine RW.skip (h := ?_) | refine RW.op (k1) (h := ?_) | refine RW.opN (k1) (h := ?_) | refine RW.skip0 (h := ?_) | refine lit1 rfl rfl (h := ?_) | (refine RW.callC (h := ?_); (first | refine CallP.mk (k1) (hs := HSub.cons (by simp [lk_cons]) (HSub.nil _)) (hc := hsort _) (h := ?_))))); refine RW.nil ⟨conf_of (by kernel_rfl), Pruned.mk (h := ?_)⟩)
      refine SW.seq (SW.condT rfl (SW.skip ?_))
      refine SW.seq (SW.block (SW.seq ?_))
      (refine SW.regL [0, 1, 2, 4, 5, 7, 8, 10, 12, 13, 14, 15, 36, 46, 47, 48, 49, 59] mixed ?_; (repeat (first | refine RW.ro (And.intro (f1) (And.intro (z2) (And.intro (z3) (And.intro (g2) (And.intro (op_at hx) (op_room0 hx)))))) (h := ?_) | refine RW.skip (h := ?_) | refine RW.op (And.intro (f1) (And.intro (z2) (And.intro (z3) (And.intro (g2) (And.intro (op_at hx) (op_room0 hx)))))) (h := ?_) | refine RW.opN (And.intro (f1) (And.intro (z2) (And.intro (z3) (And.intro (g2) (And.intro (op_at hx) (op_room0 hx)))))) (h := ?_) | refine RW.skip0 (h := ?_) | refine lit1 rfl rfl (h := ?_) | (refine RW.callC (h := ?_); (first | refine CallP.mk (And.intro (f1) (And.intro (z2) (And.intro (z3) (And.intro (g2) (And.intro (op_at hx) (op_room0 hx)))))) (hs := HSub.cons (by simp [lk_cons]) (HSub.nil _)) (hc := hsort _) (h := ?_))))); refine RW.nil ⟨conf_of (by kernel_rfl), Pruned.mk (h := ?_)⟩)
      refine SW.seq ?_
      (refine SW.regL [0, 1, 2, 4, 5, 7, 8, 10, 12, 13, 14, 15, 36, 46, 47, 48, 49, 59] mixed ?_; (repeat (first | refine RW.ro (And.intro (f1) (And.intro (z2) (And.intro (z3) (And.intro (g2) (m1))))) (h := ?_) | refine RW.skip (h := ?_) | refine RW.op (And.intro (f1) (And.intro (z2) (And.intro (z3) (And.intro (g2) (m1))))) (h := ?_) | refine RW.opN (And.intro (f1) (And.intro (z2) (And.intro (z3) (And.intro (g2) (m1))))) (h := ?_) | refine RW.skip0 (h := ?_) | refine lit1 rfl rfl (h := ?_) | (refine RW.callC (h := ?_); (first | refine CallP.mk (And.intro (f1) (And.intro (z2) (And.intro (z3) (And.intro (g2) (m1))))) (hc := hcl _) (h := ?_))))); refine RW.nil ⟨conf_of (by kernel_rfl), Pruned.mk (h := ?_)⟩)
      have hbox : Own [(kz, .box 48 x.cells), (b, Ob.box 22 [ops l]), (q, .box 25 v.cells)] Fh s' (kz + 1) := Own.new c4 (Nat.le_refl _) (Nat.lt_succ_self _) (OpD.cells_ok _ _)
      have hin : ∀ z, z ∈ [(b, Ob.box 22 [ops l]), (q, .box 25 v.cells)] → z ∈ [(kz, .box 48 x.cells), (b, Ob.box 22 [ops l]), (q, .box 25 v.cells)] := fun z hz => List.mem_cons_of_mem _ hz
      have e1 : L.take (j + 1) = L.take j ++ [x] := take_snoc hx
      refine SW.seq (SW.ofN ?_)
      (repeat (first | refine SWn.op (And.intro (f1) (And.intro (z2) (z3))) (h := ?_) | refine SWn.opN (And.intro (f1) (And.intro (z2) (z3))) (h := ?_) | refine SWn.skip (h := ?_)))
      refine SWn.yieldO (G := [(kz, .box 48 x.cells), (b, Ob.box 22 [ops l]), (q, .box 25 v.cells)]) hy x [(10, .ptr kz 0), (48, i64 j), (46, ops L), (47, i64 L.length), (0, .yl y)] hbox c2 (by rw [List.length_take]; omega) c3 (by omega) rfl rfl (fun bb => by simp [EnvW, List.lookup, SV.ren, SV.ok, SV.oks]; omega) ?_
      intro s2 hstep hO2 hon
      rw [← e1] at hon
      (repeat (first | refine SWn.op bq_tt (h := ?_) | refine SWn.opN bq_tt (h := ?_) | refine SWn.skip (h := ?_)))
      refine SWn.nil ?_
      rcases hg : go s2 with _ | _
      · obtain ⟨w1, w3⟩ := wk s2 [(59, .d (.bool !false)), (58, bl false), (10, .ptr kz 0), (48, i64 j), (46, ops L), (47, i64 L.length), (0, .yl y)] _ (kz + 1 + nky) hO2 hin (by omega)
        refine SW.condT rfl (SW.weak id w3 (SW.ret ?_))
        exact fin s2 (L.take (j + 1)) hon (List.take_prefix _ _) (fun h => by rw [hg] at h; cases h) w1
      · refine SW.condF rfl (SW.skip ?_)
        (refine SW.regL [0, 1, 2, 4, 5, 7, 8, 10, 12, 13, 14, 15, 36, 46, 47, 48, 49, 59] mixed ?_; (repeat (first | refine RW.ro (k2) (h := ?_) | refine RW.skip (h := ?_) | refine RW.op (k2) (h := ?_) | refine RW.opN (k2) (h := ?_) | refine RW.skip0 (h := ?_) | refine lit1 rfl rfl (h := ?_) | (refine RW.callC (h := ?_); (first | refine CallP.mk (k2) (hc := hcl _) (h := ?_))))); refine RW.nil ⟨conf_of (by kernel_rfl), Pruned.mk (h := ?_)⟩)
        dsimp only
        have hc2 : Own [(b, Ob.box 22 [ops l]), (q, .box 25 v.cells)] Fh s2 (kz + 1 + nky) := hO2.less (List.sublist_cons_self _ _)
        refine ⟨⟨(j + 1, s2, kz + 1 + nky), ⟨by show j + 1 ≤ _; omega, hon, hg, hc2, by show kz + 1 + nky ≤ _; rw [Nat.add_mul j 1 (1 + nky), Nat.one_mul]; omega, by show k ≤ kz + 1 + nky; omega⟩⟩, id, by show L.length - (j + 1) < _; omega, ?_⟩
        exact Weak.own hc2 (hy.nd s2) (by omega) (by simp [EnvW, List.lookup, SV.ren, SV.ok, SV.oks]; omega) (hO2.keep hin)
    · have k1 : decide ((j : Int) < L.length) = false := by simp only [decide_eq_false_iff_not]; omega
      refine SW.seq ?_
      (refine SW.regL [0, 1, 2, 4, 5, 7, 8, 10, 12, 13, 14, 15, 36, 46, 47, 48, 49, 59] mixed ?_; (repeat (first | refine RW.ro (k1) (h := ?_) | refine RW.skip (h := ?_) | refine RW.op (k1) (h := ?_) | refine RW.opN (k1) (h := ?_) | refine RW.skip0 (h := ?_) | refine lit1 rfl rfl (h := ?_) | (refine RW.callC (h := ?_); (first | refine CallP.mk (k1) (hc := hcl _) (h := ?_))))); refine RW.nil ⟨conf_of (by kernel_rfl), Pruned.mk (h := ?_)⟩)
      have hjl : j = L.length := by omega
      rw [hjl, List.take_length] at c2
      obtain ⟨w1, w3⟩ := wk s' _ [(b, Ob.box 22 [ops l]), (q, .box 25 v.cells)] kz c4 (fun z hz => hz) (by have := hmul j c1; omega)
      refine SW.seq (SW.condF rfl (SW.weak id w3 (SW.exit ?_)))
      exact fin s' L c2 List.prefix_rfl (fun _ => rfl) w1
end Go.Proofs.Ytgjgfamgbhlmfaa

/-
  Gossip: a row that operations are appended to, one by one.
-/
set_option linter.unusedSectionVars false
set_option linter.unusedVariables false
set_option linter.unusedSimpArgs false
namespace Go.Proofs.Ytgjgfamgbhlmfaa
open Go.Sl Go.Proofs
attribute [local irreducible] SW RW SCd SC CallP Pruned

/-- A row that grows: its dots, its name. -/
structure RowO (y bx : Nat) where
  l : List OpD
  rn : Nat
  h1 : rn ≠ y
  h2 : rn ≠ bx
def rowO (y bx N : Nat) (ts ps : List Nat) (ca cb : Code) (s : RowO y bx) : Hp :=
  [(y, .rcd N ts [.ptr bx 0] ps ca cb .ready none), (bx, .box 22 [.gs s.rn s.l.length]), (s.rn, .arr 48 29 s.l.length ((s.l.flatMap OpD.ds).map .d))]

set_option maxHeartbeats 1000000 in
theorem appendBodyO {y bx B : Nat} (hyb : y ≠ bx) (s0 : RowO y bx) (hB : s0.l.length + B < 2097152) {ca cb : Code} (hca : cK Try.prog 13 ca = some (.reg [⟨some 5, .alloc 48 zOp, none⟩, ⟨none, .store 29 (.t 5) (.t 7), none⟩] (fullB 2) false))
    (hcb : cK Try.prog 13 cb = some (.block 1 (.reg [⟨some 8, .load none (.t 2), none⟩, ⟨some 9, .load (some 29) (.t 5), none⟩, ⟨some 10, .bsl 48 29 1 zOp [(0, 29, .t 9)], none⟩, ⟨some 11, .app 48 29 144 (.t 8) (.t 10), none⟩, ⟨none, .store 1 (.t 2) (.t 11), none⟩] (fullB 5) false))) :
    YieldOk Try.prog y (fun x : OpD => .agg x.cells) 2 (rowO y bx 13 [2] [7] ca cb) (fun s x s' => s'.l = s.l ++ [x]) (fun _ => true) s0 B := by
  refine ⟨fun s => by simp [rowO, lk_cons], fun s x hx => ?_, fun s xs x k hon hlt hok _ => ?_⟩
  · have f1 := ne4 hyb
    have f2 := ne4 s.h1
    have f3 := ne4 s.h2
    simp only [rowO, List.mem_cons, List.not_mem_nil, or_false] at hx
    rcases hx with rfl | rfl | rfl <;> simp [rowO, lk_cons, f1, f2, f3]
  · have hlen : s.l.length = s0.l.length + xs.length := by
      clear hlt hok
      induction hon with
      | nil => rfl
      | snoc _ h ih => rw [h]; simp [ih]; omega
    obtain ⟨l, rn, h1, h2⟩ := s
    simp only at hlen
    simp only [rowO, Hp.ok, List.all_cons, List.all_nil, Ob.ok, SV.oks, SV.ok, SV.oks_d, Bool.and_true, Bool.and_eq_true, decide_eq_true_eq] at hok
    obtain ⟨⟨k1, _⟩, ⟨k2, _⟩, k3⟩ := hok
    have f1 := ne4 hyb
    have f2 := ne4 h1
    have f3 := ne4 h2
    have g1 := ne4 (show k ≠ y by omega)
    have g2 := ne4 (show k ≠ bx by omega)
    have g3 := ne4 (show k ≠ rn by omega)
    have g4 := ne4 (show k + 1 ≠ k by omega)
    have g5 := ne4 (show k + 1 ≠ y by omega)
    have g6 := ne4 (show k + 1 ≠ bx by omega)
    have g7 := ne4 (show k + 1 ≠ rn by omega)
    have e1 : (List.flatMap OpD.ds l ++ x.ds).map SV.d = (List.flatMap OpD.ds l).map SV.d ++ x.cells := by simp [OpD.map_ds]
    refine SYB.here (fun n => n == y || n == bx || n == rn) (SYB.of_code (cs := [.ptr bx 0]) (H := [(bx, .box 22 [.gs rn l.length]), (rn, .arr 48 29 l.length ((l.flatMap OpD.ds).map .d))]) hca hcb rfl rfl rfl (by simp) k1 (by simp [lk_cons, lk_nil, f1, f2]) (by simp [SV.oks, SV.ok]) (by simp [Hp.ok, Ob.ok, SV.oks, SV.ok, SV.oks_d]; omega) (by simp [SV.oks, SV.ok]; omega) ?_) ?_ (by simp [SV.oks, SV.ok]) (by simp [rowO, Hp.ok, Ob.ok, SV.oks, SV.ok, SV.oks_d]) ?_
    · skip
      show Go.Sl.SW _ _ _ _ ⟨[(7, .agg x.cells), (2, .ptr bx 0)], _, _⟩ _
      (refine SW.regL [2, 5, 7] mixed ?_; (repeat (first | refine RW.ro (And.intro (f1) (And.intro (f2) (And.intro (f3) (And.intro (g1) (And.intro (g2) (g3)))))) (h := ?_) | refine RW.skip (h := ?_) | refine RW.op (And.intro (f1) (And.intro (f2) (And.intro (f3) (And.intro (g1) (And.intro (g2) (g3)))))) (h := ?_) | refine RW.opN (And.intro (f1) (And.intro (f2) (And.intro (f3) (And.intro (g1) (And.intro (g2) (g3)))))) (h := ?_) | refine RW.skip0 (h := ?_) | refine lit1 rfl rfl (h := ?_))); refine RW.nil ⟨by kernel_rfl, Pruned.mk (h := ?_)⟩)
      refine ⟨rfl, SW.block ?_⟩
      (refine SW.regL [2, 5, 7] mixed ?_; (repeat (first | refine RW.ro (And.intro (f1) (And.intro (f2) (And.intro (f3) (And.intro (g1) (And.intro (g2) (And.intro (g3) (And.intro (g4) (And.intro (g5) (And.intro (g6) (g7)))))))))) (h := ?_) | refine RW.skip (h := ?_) | refine RW.op (And.intro (f1) (And.intro (f2) (And.intro (f3) (And.intro (g1) (And.intro (g2) (And.intro (g3) (And.intro (g4) (And.intro (g5) (And.intro (g6) (g7)))))))))) (h := ?_) | refine RW.opN (And.intro (f1) (And.intro (f2) (And.intro (f3) (And.intro (g1) (And.intro (g2) (And.intro (g3) (And.intro (g4) (And.intro (g5) (And.intro (g6) (g7)))))))))) (h := ?_) | refine RW.skip0 (h := ?_) | refine lit1 rfl rfl (h := ?_))); refine RW.nil ⟨by kernel_rfl, Pruned.mk (h := ?_)⟩)
      have e2 : ((l ++ [x]).flatMap OpD.ds).map SV.d = (List.flatMap OpD.ds l).map SV.d ++ x.ds.map SV.d := by simp
      refine ⟨none, true, [(bx, .box 22 [.gs (k + 1) (l ++ [x]).length]), (k + 1, .arr 48 29 (l ++ [x]).length (((l ++ [x]).flatMap OpD.ds).map .d))], ⟨rfl, rfl⟩, ?_, ?_, by simp, ⟨⟨l ++ [x], k + 1, by omega, by omega⟩, rfl, rfl, rfl, ?_, ?_⟩⟩
      · refine HSub.cons ?_ (HSub.cons ?_ (HSub.nil _))
        · simp [lk_cons, f1, f2, f3, g1, g2, g3, g4, g5, g6, g7, spl]
        · rw [e2]; simp [lk_cons]
      · simp [Hp.ok, Ob.ok, SV.oks, SV.ok, SV.oks_d, -List.flatMap_append, -List.map_append]; omega
      · simp [rowO, Hp.ok, Ob.ok, SV.oks, SV.ok, SV.oks_d, -List.flatMap_append, -List.map_append]; omega
      · intro n hn
        by_cases hy' : n = y
        · exact .inl (by simp [rowO, lk_cons, hy'])
        · by_cases hbx : n = bx
          · exact .inl (by simp [rowO, lk_cons, hbx, f1])
          · refine .inr ?_
            have : n = k + 1 := Classical.byContradiction fun hne => hn (by simp [rowO, lk_cons, lk_nil, hy', hbx, hne])
            omega
    · intro n hn
      simp only [Bool.or_eq_true, beq_iff_eq] at hn
      rcases hn with (rfl | rfl) | rfl <;> simp [rowO, lk_cons, f1, f2, f3]
    · rintro r F' ⟨s', hs', rfl, rfl, hok', hnm⟩ _ _
      obtain ⟨l', rn', h1', h2'⟩ := s'
      refine ⟨rfl, ?_⟩
      simp [rowO, Hp.ok, Ob.ok, SV.oks, SV.ok, SV.oks_d]
      have hh := hnm rn' (by simp [rowO, lk_cons, h1', h2'])
      rcases hh with hh | ⟨hh1, hh2⟩
      · have : rn' = rn := by
          refine Classical.byContradiction fun hne => hh ?_
          simp [rowO, lk_cons, lk_nil, h1', h2', hne]
        simp [this]
      · simp [hh1]; omega
end Go.Proofs.Ytgjgfamgbhlmfaa

/-
  Gossip: what one lacks, in a row.
-/
set_option linter.unusedSectionVars false
set_option linter.unusedVariables false
set_option linter.unusedSimpArgs false
namespace Go.Proofs.Ytgjgfamgbhlmfaa
open Go.Sl Go.Proofs
attribute [local irreducible] SW RW SCd SC CallP Pruned

/-- What lacked holds: the set, the vector. -/
def lkH (l : List OpD) (v : Vec) : Hp := [(0, .box 22 [ops l]), (1, .box 25 v.cells)]
/-- What is lacked, in the order. -/
def lackS (l : List OpD) (v : Vec) : List OpD := osorted (lackL l v)
theorem lackS_len (l : List OpD) (v : Vec) : (lackS l v).length ≤ l.length := by unfold lackS; rw [(osorted_perm _).length_eq]; exact lackL_len l v
theorem onBy_rowO {y bx : Nat} {s0 s : RowO y bx} {xs : List OpD} (h : OnBy (fun (s : RowO y bx) x s' => s'.l = s.l ++ [x]) s0 xs s) : s.l = s0.l ++ xs := by
  induction h with
  | nil => simp
  | snoc _ h ih => rw [h, ih]; simp
/-- What is asked of operations that are handed on. -/
def OpsOk (l : List OpD) : Prop := l.length ≤ 1048576 ∧ ∀ x, x ∈ l → x.lin ∧ x.cl.length ≤ 1048576 ∧ x.dot.wf

set_option maxHeartbeats 1000000 in
theorem appendSeqO_ok {l : List OpD} {v : Vec} (hl : OpsOk l) :
    SB Try.prog slices_AppendSeq_Lapi_Op_api_Op.f [.d .nils, .fn (.func gossip_lacked_1.f) [] [.ptr 0 0, .ptr 1 0]] (lkH l v) 2 0
      fun r F => r = ops (lackS l v) ∧ F = lkH l v := by
  refine slices_AppendSeq_Lapi_Op_api_Op.enter (by simp [SV.ok, SV.oks]) (by simp [lkH, Hp.ok, Ob.ok, SV.oks, SV.ok, Vec.cells_ok]) (by simp) ?_
  dsimp only [slices_AppendSeq_Lapi_Op_api_Op.s, Co.M, Co.G, Co.J, Co.H, Co.N, Co.F, Co.C, Co.Z, Co.B, Co.b8, Co.b32, Co.b64, Co.i6, Co.z8, Co.z29]
  refine SW.nilrow 0 48 29 rfl ?_
  simp only [lkH]
  refine SW.seq ?_
  (refine SW.regL [0, 1, 2, 4, 5, 6, 7] mixed ?_; (repeat (first | refine RW.ro bq_tt (h := ?_) | refine RW.skip (h := ?_) | refine RW.op bq_tt (h := ?_) | refine RW.opN bq_tt (h := ?_) | refine RW.skip0 (h := ?_))); refine RW.nil ⟨by kernel_rfl, Pruned.mk (h := ?_)⟩)
  refine SW.seq (SW.seq ?_)
  (refine SW.regL [0, 1, 2, 4, 5, 6, 7] mixed ?_; (repeat (first | refine RW.ro bq_tt (h := ?_) | refine RW.skip (h := ?_) | refine RW.op bq_tt (h := ?_) | refine RW.opN bq_tt (h := ?_) | refine RW.skip0 (h := ?_))); refine RW.nil ⟨by kernel_rfl, Pruned.mk (h := ?_)⟩)
  refine SW.block (SW.rfun (nk := 2 + 3 * l.length + (lackS l v).length * (1 + 2)) [2] [.ptr 3 0] rfl ⟨rfl, trivial⟩ fun ca cb hca hcb => ?_)
  have hLl := lackS_len l v
  have hl1 := hl.1
  let s0 : RowO 4 3 := ⟨[], 2, by decide, by decide⟩
  have hy := appendBodyO (y := 4) (bx := 3) (B := (lackS l v).length) (by decide) s0 (by simp [s0]; omega) hca hcb
  have hO : Own [(0, Ob.box 22 [ops l]), (1, .box 25 v.cells)] (rowO 4 3 13 [2] [7] ca cb) s0 5 := by
    refine ⟨by simp, fun n hn => ?_, fun n hn => ?_, by simp [Hp.ok, Ob.ok, SV.oks, SV.ok, Vec.cells_ok], by simp [rowO, s0, Hp.ok, Ob.ok, SV.oks, SV.ok]⟩
    · simp only [List.map_cons, List.map_nil, List.mem_cons, List.not_mem_nil, or_false] at hn; omega
    · simp only [List.map_cons, List.map_nil, List.mem_cons, List.not_mem_nil, or_false] at hn
      rcases hn with rfl | rfl <;> simp [rowO, s0, lk_cons, lk_nil]
  have hsb := lacked1_sb (y := 4) (b := 0) (q := 1) (k := 5) hl.1 hl.2 s0 hy rfl hO
  have hsubF : HSub ((0, .box 22 [ops l]) :: (1, .box 25 v.cells) :: rowO 4 3 13 [2] [7] ca cb s0) ((4, .rcd 13 [2] [.ptr 3 0] [7] ca cb .ready none) :: [(3, .box 22 [.gs 2 0]), (2, .arr 48 29 0 []), (0, .box 22 [ops l]), (1, .box 25 v.cells)]) := by
    intro n ob hn
    match n with
    | 0 | 1 | 2 | 3 | 4 => simpa [rowO, s0, lk_cons] using hn
    | n + 5 => simp [rowO, s0, lk_cons, lk_nil] at hn
  have hsc := (hsb.here (fun n => decide (n < 5)) (fun n hn => ?_) (by simp [SV.oks, SV.ok]) (by simp [rowO, s0, Hp.ok, Ob.ok, SV.oks, SV.ok, Vec.cells_ok]) ?_).frame hsubF
  · refine hsc.mono ?_
    rintro r F' ⟨F1, ⟨rfl, xs, s', hon, hpre, hall, ⟨hn0, hn1⟩, rfl⟩, rfl⟩
    have hl' := onBy_rowO hon
    have hxs := hall rfl
    obtain ⟨L, rn, hr1, hr2⟩ := s'
    have hL : L = lackS l v := by rw [show lackS l v = xs from hxs.symm]; simpa [s0] using hl'
    have hn0 : rn ≠ 0 := fun e => by simp [rowO, e, lk_cons] at hn0
    have hn1 : rn ≠ 1 := fun e => by simp [rowO, e, lk_cons] at hn1
    rw [← hL]
    have hlk := lk_hmrg (ro := false) (h := (4, .rcd 13 [2] [.ptr 3 0] [7] ca cb .ready none) :: [(3, .box 22 [.gs 2 0]), (2, .arr 48 29 0 []), (0, .box 22 [ops l]), (1, .box 25 v.cells)]) (F := (0, .box 22 [ops l]) :: (1, .box 25 v.cells) :: rowO 4 3 13 [2] [7] ca cb s0) (F' := (0, .box 22 [ops l]) :: (1, .box 25 v.cells) :: rowO 4 3 13 [2] [7] ca cb ⟨L, rn, hr1, hr2⟩) hsubF (fun h => by cases h)
    generalize hmrg false _ _ _ = G at hlk
    have hG : ∀ n ob, lk ((0, Ob.box 22 [ops l]) :: (1, .box 25 v.cells) :: rowO 4 3 13 [2] [7] ca cb ⟨L, rn, hr1, hr2⟩) n = some ob → lk G n = some ob := fun n ob h => by
      rw [hlk, mrg_in (.inr (by rw [h]; simp)), h]
    refine ⟨none, hG 4 _ (by simp [rowO, lk_cons, recSt]), ?_⟩
    refine SW.weak (fun n => if n = 2 then rn else n) (st1 := ⟨[(2, .ptr 3 0)], [(3, .box 22 [.gs 2 L.length]), (2, .arr 48 29 L.length (opc L)), (0, .box 22 [ops l]), (1, .box 25 v.cells)], 6⟩) ?_ ?_
    · have q3 := hG 3 (.box 22 [.gs rn L.length]) (by simp [rowO, lk_cons])
      have q2 := hG rn (.arr 48 29 L.length ((L.flatMap OpD.ds).map .d)) (by simp [rowO, lk_cons, hn0, hn1, hr1, hr2])
      have q0 := hG 0 (.box 22 [ops l]) (by simp [lk_cons])
      have q1 := hG 1 (.box 25 v.cells) (by simp [lk_cons])
      refine ⟨by show 2 ≤ 6; omega, fun n hn => if_neg (by omega), ?_, ?_, ?_⟩
      · simp [EnvW, List.lookup, SV.ren, SV.ok]
      · simp [HpW, lk_hdel, Ob.ren, SV.rens, SV.ren, SV.rens_d, SV.oks_d, Ob.ok, SV.oks, SV.ok, q3, q2, q0, q1, hr1, Vec.cells_ren, Vec.cells_ok]
      · intro a ha b hb e
        simp only [List.map_cons, List.map_nil, List.mem_cons, List.not_mem_nil, or_false] at ha hb
        rcases ha with rfl | rfl | rfl | rfl <;> rcases hb with rfl | rfl | rfl | rfl <;> simp at e <;> first | rfl | omega
    · refine SW.seq ?_
      (refine SW.regL [0, 1, 2, 4, 5, 6, 7] mixed ?_; (repeat (first | refine RW.ro bq_tt (h := ?_) | refine RW.skip (h := ?_) | refine RW.op bq_tt (h := ?_) | refine RW.opN bq_tt (h := ?_) | refine RW.skip0 (h := ?_))); refine RW.nil ⟨by kernel_rfl, Pruned.mk (h := ?_)⟩)
      refine SW.freeze 2 (L.flatMap OpD.ds) rfl rfl ?_
      simp only [frzE, SV.frz, List.map_cons, List.map_nil, if_true, if_false, reduceIte, hdel, Nat.reduceEqDiff]
      refine SW.ret ?_
      exact End.mk (lkH l v) (h4 := ⟨rfl, rfl⟩) (h6 := by simp [lkH, Hp.ok, Ob.ok, SV.oks, SV.ok, SV.oks_d, Vec.cells_ok])
  · match n, hn with
    | 0, _ | 1, _ | 2, _ | 3, _ | 4, _ => simp [rowO, s0, lk_cons]
    | n + 5, h => have : n + 5 < 5 := by simpa using h
                  omega
  · rintro r F' _ h1 h2
    refine ⟨SV.ok_more (fun n hn => ?_) _ h1, Hp.ok_mono (fun n hn => ?_) h2⟩ <;> (simp at hn ⊢; omega)
end Go.Proofs.Ytgjgfamgbhlmfaa

/-
  Gossip: Lacks; which frames may be.
-/
set_option linter.unusedSectionVars false
set_option linter.unusedVariables false
set_option linter.unusedSimpArgs false
namespace Go.Proofs.Ytgjgfamgbhlmfaa
open Go.Sl Go.Proofs
attribute [local irreducible] SW RW SCd SC CallP Pruned

theorem lkH_ne (l : List OpD) (v : Vec) (i : Nat) (h : i < 2) : lk (lkH l v) i ≠ none := by
  match i, h with
  | 0, _ | 1, _ => simp [lkH, lk_cons]
abbrev lkAt (b q : Nat) (l : List OpD) (v : Vec) : Hp := [(b, .box 22 [ops l]), (q, .box 25 v.cells)]
theorem appendSeqO_at {l : List OpD} {v : Vec} (hl : OpsOk l) (b q : Nat) (hbq : b ≠ q) (k : Nat) :
    SCd Try.prog slices_AppendSeq_Lapi_Op_api_Op.f [.d .nils, .fn (.func gossip_lacked_1.f) [] [.ptr b 0, .ptr q 0]] (lkAt b q l v) k 0 (ops (lackS l v)) (lkAt b q l v) := by
  have h := SB.atL [b, q] (appendSeqO_ok (v := v) hl) (by simp [hbq]) (lkH_ne l v) k
  simp only [lkH, Hp.ren, Ob.ren, SV.ren, SV.rens, Vec.cells_ren, List.map_cons, List.map_nil] at h
  exact h
theorem collectO_ok {l : List OpD} {v : Vec} (hl : OpsOk l) :
    SB Try.prog slices_Collect_api_Op.f [.fn (.func gossip_lacked_1.f) [] [.ptr 0 0, .ptr 1 0]] (lkH l v) 2 0 fun r F => r = ops (lackS l v) ∧ F = lkH l v := by
  refine slices_Collect_api_Op.enter (by simp [SV.ok, SV.oks]) (by simp [lkH, Hp.ok, Ob.ok, SV.oks, SV.ok, Vec.cells_ok]) (by simp) ?_
  dsimp only [slices_Collect_api_Op.s, Co.M, Co.G, Co.J, Co.H, Co.N, Co.F, Co.C, Co.Z, Co.B, Co.b8, Co.b32, Co.b64, Co.i6, Co.z8, Co.z29]
  simp only [lkH]
  (repeat (first | refine SW.seq ?_ | refine SW.block ?_ | (refine SW.regL [0, 2] mixed ?_; (repeat (first | refine RW.ro bq_tt (h := ?_) | refine RW.skip (h := ?_) | refine RW.op bq_tt (h := ?_) | refine RW.opN bq_tt (h := ?_) | refine RW.skip0 (h := ?_) | (refine RW.callC (h := ?_); (first | refine CallP.mk bq_tt (hc := appendSeqO_at (by first | assumption | omega) 0 1 (by decide) _) (h := ?_))))); refine RW.nil ⟨by kernel_rfl, Pruned.mk (h := ?_)⟩) | refine SW.skip ?_ | refine SW.exit ?_ | refine SW.ret ?_ | refine SW.condT rfl ?_ | refine SW.condF rfl ?_))
  exact End.mk (lkH l v) (h4 := ⟨rfl, rfl⟩) (h6 := by simp [lkH, Hp.ok, Ob.ok, SV.oks, SV.ok, SV.oks_d, Vec.cells_ok])
theorem collectO_at {l : List OpD} {v : Vec} (hl : OpsOk l) (b q : Nat) (hbq : b ≠ q) (k : Nat) :
    SCd Try.prog slices_Collect_api_Op.f [.fn (.func gossip_lacked_1.f) [] [.ptr b 0, .ptr q 0]] (lkAt b q l v) k 0 (ops (lackS l v)) (lkAt b q l v) := by
  have h := SB.atL [b, q] (collectO_ok (v := v) hl) (by simp [hbq]) (lkH_ne l v) k
  simp only [lkH, Hp.ren, Ob.ren, SV.ren, SV.rens, Vec.cells_ren, List.map_cons, List.map_nil] at h
  exact h
theorem lacked_sb (l : List OpD) (v : Vec) : SB Try.prog gossip_lacked.f [ops l, .agg v.cells] [] 0 2 fun r F => r = .fn (.func gossip_lacked_1.f) [] [.ptr 0 0, .ptr 1 0] ∧ F = lkH l v := by
  refine gossip_lacked.enter (by simp [SV.ok, SV.oks, SV.oks_d, Vec.cells_ok]) (by simp [Hp.ok]) (by simp) ?_
  dsimp only [gossip_lacked.s, Co.M, Co.G, Co.J, Co.H, Co.N, Co.F, Co.C, Co.Z, Co.B, Co.b8, Co.b32, Co.b64, Co.i6, Co.z8, Co.z29]
  (repeat (first | refine SW.seq ?_ | refine SW.block ?_ | (refine SW.regL [0, 1, 2, 3, 4] mixed ?_; (repeat (first | refine RW.ro bq_tt (h := ?_) | refine RW.skip (h := ?_) | refine RW.op bq_tt (h := ?_) | refine RW.opN bq_tt (h := ?_) | refine RW.skip0 (h := ?_))); refine RW.nil ⟨by kernel_rfl, Pruned.mk (h := ?_)⟩) | refine SW.skip ?_ | refine SW.exit ?_ | refine SW.ret ?_ | refine SW.condT rfl ?_ | refine SW.condF rfl ?_))
  exact End.mk (lkH l v) (h4 := ⟨rfl, rfl⟩) (h5 := by simp [retV, SV.ok, SV.oks]) (h6 := by simp [lkH, Hp.ok, Ob.ok, SV.oks, SV.ok, SV.oks_d, Vec.cells_ok])
theorem lacked_at (l : List OpD) (v : Vec) (k : Nat) : SCd Try.prog gossip_lacked.f [ops l, .agg v.cells] [] k 2 (.fn (.func gossip_lacked_1.f) [] [.ptr k 0, .ptr (k + 1) 0]) (lkAt k (k + 1) l v) := by
  have h := SB.new (lacked_sb l v) k
  simp only [lkH, Hp.ren, Ob.ren, SV.ren, SV.rens, Vec.cells_ren, List.map_cons, List.map_nil] at h
  rw [show atN [] k 0 = k by simp [atN], show atN [] k 1 = k + 1 by simp [atN]; omega] at h
  exact h
theorem lacks_ok {l : List OpD} (v : Vec) (hl : OpsOk l) : Go.Sl.Pure Try.prog gossip_Lacks.f [ops l, .agg v.cells] (ops (lackS l v)) := by
  refine gossip_Lacks.enter (by first | rfl | simp [SV.ok, SV.oks]) (by first | rfl | simp [Hp.ok, Ob.ok, SV.ok, SV.oks, Vec.cells_ok]) (by simp) ?_
  dsimp only [gossip_Lacks.s, Co.M, Co.G, Co.J, Co.H, Co.N, Co.F, Co.C, Co.Z, Co.B, Co.b8, Co.b32, Co.b64, Co.i6, Co.z8, Co.z29]
  refine SW.seq ?_
  (refine SW.regL [0, 1, 3, 4] mixed ?_; (repeat (first | refine RW.ro bq_tt (h := ?_) | refine RW.skip (h := ?_) | refine RW.op bq_tt (h := ?_) | refine RW.opN bq_tt (h := ?_) | refine RW.skip0 (h := ?_) | (refine RW.callC (h := ?_); (first | refine CallP.mk bq_tt (hc := lacked_at _ _ 1) (h := ?_) | refine CallP.mk bq_tt (hc := collectO_at (by first | assumption | omega) 1 2 (by decide) _) (h := ?_))))); refine RW.nil ⟨by kernel_rfl, Pruned.mk (h := ?_)⟩)
  refine SW.seq ?_
  (refine SW.regL [0, 1, 3, 4] mixed ?_; (repeat (first | refine RW.ro bq_tt (h := ?_) | refine RW.skip (h := ?_) | refine RW.op bq_tt (h := ?_) | refine RW.opN bq_tt (h := ?_) | refine RW.skip0 (h := ?_) | (refine RW.callC (h := ?_); (first | refine CallP.mk bq_tt (hc := lacked_at _ _ 1) (h := ?_) | refine CallP.mk bq_tt (hc := collectO_at (by first | assumption | omega) 1 2 (by decide) _) (h := ?_))))); refine RW.nil ⟨by kernel_rfl, Pruned.mk (h := ?_)⟩)
  refine SW.ret ?_
  exact End.mk [] (h4 := ⟨rfl, rfl⟩)
theorem lacks_at {l : List OpD} (v : Vec) (hl : OpsOk l) (k : Nat) : SCd Try.prog gossip_Lacks.f [ops l, .agg v.cells] [] k 0 (ops (lackS l v)) [] := (lacks_ok v hl).sc rfl k
end Go.Proofs.Ytgjgfamgbhlmfaa
