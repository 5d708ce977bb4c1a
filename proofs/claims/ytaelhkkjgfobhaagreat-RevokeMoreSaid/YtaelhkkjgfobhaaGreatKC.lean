/-
 Trees of credentials: the credentials above one.
-/
import Derived.Test.YtaelhkkjgfobhaaGreatKB
import Derived.Test.YtaelhkkjgfobhaaGreatK5
import Derived.Test.YtaelhkkjgfobhaaGreatK6
set_option linter.unusedSectionVars false
set_option linter.unusedVariables false
set_option linter.unusedSimpArgs false
namespace Go.Proofs.YtaelhkkjgfobhaaGreat
open Go.Sl Go.Proofs
section
attribute [local irreducible] SW RW aM SC ak au
inductive rS (a:MM Dt Cr):Option Cr→List Cr→Prop where
 | none:rS a none []
 | root (c:Cr): ¬ 0<c.level→rS a (some c) [c]
 | more (c:Cr) (L:List Cr):0<c.level→rS a (MM.get a c.par) L→rS a (some c) (c::L)
def TF (T:Tr)(F:Hp):Hp:=T.hp++F
structure GI (T:Tr)(b q:Nat)(F:Hp):Prop where
 b:lk F b=none
 q:lk F q=none
 x:lk F T.bx=none
 a:lk F T.ma=none
 m:lk F T.mm=none
theorem TF.KS {T:Tr}{F:Hp}{n:Nat}{ob:Ob}(h:lk T.hp n=some ob):lk (TF T F) n=some ob:=by
 show List.lookup n (T.hp++F)=some ob
 rw [List.lookup_append,show List.lookup n T.hp=some ob from h];rfl
theorem TF.KT {T:Tr}{F:Hp}{n:Nat}(h:lk T.hp n=none):lk (TF T F) n=lk F n:=by
 show List.lookup n (T.hp++F)=_
 rw [List.lookup_append,show List.lookup n T.hp=none from h];rfl
theorem TF.ok {T:Tr}{F:Hp}{k:Nat}(h1:T.lt k)(h2:F.ok (fun n=>decide (n<k))=true):(TF T F).ok (fun n=>decide (n<k))=true:=by
 have h1:=Tr.rR h1
 unfold Hp.ok at*
 rw [TF,List.all_append,h1,h2];rfl
structure Js {σ:Type}(Fh:σ→Hp)(Step:σ→Cr→σ→Prop)(go:σ→Bool)(T:Tr)(aX b q k:Nat)(L:List Cr)(s0 s:σ)(xs:List Cr)(oc:Option Cr)(rest:List Cr)(cn kk:Nat):Prop where
 p1:gV Step s0 xs s
 p2:go s=true
 p3:xs++rest=L
 p4:rS T.at_ oc rest
 p5:k≤cn∧cn<kk
 p6:kk≤k+1+xs.length*(1+aX)
 p7:(Fh s).ok (fun n=>decide (n<kk))=true
 p8:GI T b q (Fh s)
 p9:lk (Fh s) cn=none
set_option maxHeartbeats 2000000 in
theorem CH {σ :Type}{Fh:σ→Hp}{Step:σ→Cr→σ→Prop}{go:σ→Bool}{aX y b q k:Nat}{T:Tr}{L:List Cr}{d:Dt}(hT:T.sep)(hL:rS T.at_ (MM.get T.at_ d) L)(s0:σ)(hy:nR Tryz.prog y (fun x:Cr=> .agg x.cells) aX Fh Step go s0 L.length)(h0:(Fh s0).ok (fun n=>decide (n<k))=true)
  (hb:b<k) (hq:q<k) (Le:b≠q) (BA:T.lt k) (Jt:lk T.hp b=none) (Ju:lk T.hp q=none) (hoff:GI T b q (Fh s0)) (wV:go s0=true):
  SB Tryz.prog tree_Tree_up_1.f [.yl y,.ptr b 0,.ptr q 0] ((b,.box 105 [.ptr T.bx 0])::(q,.box 37 d.cells)::TF T (Fh s0)) k (1+L.length*(1+aX))
   fun r F=>r= .dM []∧∃ (xs:List Cr) (s':σ),gV Step s0 xs s'∧xs <+: L∧(go s'=true→xs=L)∧GI T b q (Fh s')∧F=(b,.box 105 [.ptr T.bx 0])::(q,.box 37 d.cells)::TF T (Fh s'):=by
 have hyk:y<k:=by
  obtain ⟨ob,ho⟩:=Option.ne_none_iff_exists'.1 (hy.pK s0)
  simpa using (Hp.dH h0 ho).1
 have hokT:∀ (s:σ) (kx:Nat),k≤kx→(Fh s).ok (fun n=>decide (n<kx))=true→Hp.ok (fun n=>decide (n<kx)) ((b,.box 105 [.ptr T.bx 0])::(q,.box 37 d.cells)::TF T (Fh s))=true:=fun s kx hkx h=>by
  have h1:=TF.ok (T:=T) ⟨Nat.lt_of_lt_of_le BA.b hkx,Nat.lt_of_lt_of_le BA.a hkx,Nat.lt_of_lt_of_le BA.m hkx⟩ h
  have:=BA.b
  unfold Hp.ok at*
  simp only [List.all_cons,Ob.ok,SV.ay,SV.ok,Dt.ai,Bool.and_true,Bool.and_eq_true,decide_eq_true_eq]
  exact ⟨⟨by omega,by omega⟩,by omega,h1⟩
 refine tree_Tree_up_1.enter (by simp [SV.ok,SV.ay];omega) (hokT s0 k (Nat.le_refl _) h0) (by simp) ?_
 dsimp only [tree_Tree_up_1.s,Co.M,Co.G,Co.J,Co.H,Co.N,Co.F,Co.C,Co.Z,Co.B,Co.b8,Co.aB,Co.bL,Co.i6,Co.z8,Co.bU]
 have f1:=bA Le
 have tb:T.bx≠b:=fun e=>by rw [← e,Tr.GH] at Jt;cases Jt
 have tq:T.bx≠q:=fun e=>by rw [← e,Tr.GH] at Ju;cases Ju
 have ta:T.ma≠b:=fun e=>by rw [← e,Tr.IK hT] at Jt;cases Jt
 have taq:T.ma≠q:=fun e=>by rw [← e,Tr.IK hT] at Ju;cases Ju
 have f2:=bA tb
 have f3:=bA tq
 have f4:=bA ta
 have f5:=bA taq
 have u1:∀ F,List.lookup T.bx (TF T F)=some (.box 166 [.mp T.ma,.mp T.mm]):=fun F=>TF.KS T.GH
 have u2:∀ F,List.lookup T.ma (TF T F)=some T.oa:=fun F=>TF.KS (Tr.IK hT)
 have g0:List.lookup k (TF T (Fh s0))=none:=Hp.out (TF.ok BA h0) (Nat.le_refl _)
 have g1:=bA (show k≠b by omega)
 have g2:=bA (show k≠q by omega)
 have:=BA.b;have:=BA.a;have:=BA.m
 have g3:=bA (show k≠T.bx by omega)
 have g4:=bA (show k≠T.ma by omega)
 refine SW.seq ?_
 (have fx:=(And.intro (f1) (And.intro (f2) (And.intro (f3) (And.intro (f4) (And.intro (f5) (And.intro (u1) (And.intro (u2) (And.intro (g0) (And.intro (g1) (g2))))))))));refine SW.dL [0,1,2,4,5,25,36] mixed ?_;(repeat (first | refine RW.ro fx (h:= ?_) | refine RW.skip (h:= ?_) | refine RW.op fx (h:= ?_) | refine RW.eF fx (h:= ?_) | refine RW.bH (h:= ?_)));refine RW.nil ⟨dY (by simp [iZ,qu,eG,cg,List.range,List.range.loop,f1,f2,f3,f4,f5,g1,g2,g3,g4] <;> (first | decide | (repeat (first | assumption | refine ⟨?_,?_⟩ | refine .inr ?_)))),au.mk (h:= ?_)⟩)
 refine SW.block ?_
 have nq :∀ (s:σ) (xs:List Cr) (cn kk:Nat) (cs:List SV),k≤cn→cn<kk→(Fh s).ok (fun n=>decide (n<kk))=true→lk (Fh s) cn=none→GI T b q (Fh s)→∀ x,x∈((cn,Ob.box 158 cs)::(b,.box 105 [.ptr T.bx 0])::(q,.box 37 d.cells)::TF T (Fh s))→lk ((cn,Ob.box 158 cs)::(b,.box 105 [.ptr T.bx 0])::(q,.box 37 d.cells)::TF T (Fh s)) x.1=some x.2:=by
  intro s xs cn kk cs h1 h2 h3 h4 h5 x hx
  have:=BA.b;have:=BA.a;have:=BA.m
  have c1:=bA (show cn≠b by omega)
  have c2:=bA (show cn≠q by omega)
  have c3:=bA (show b≠q from Le)
  simp only [List.mem_cons] at hx
  rcases hx with rfl | rfl | rfl | hx
  ·simp [aa]
  ·simp [aa,c1]
  ·simp [aa,c2,c3]
  ·rcases List.mem_append.1 hx with hx | hx
   ·have hl:=aH (Tr.nd hT) x hx
    have c4:x.1≠b:=fun e=>by rw [e,Jt] at hl;cases hl
    have c5:x.1≠q:=fun e=>by rw [e,Ju] at hl;cases hl
    have c6:x.1≠cn:=fun e=>by
     have:=(Hp.dH (Tr.rR BA) hl).1
     simp at this;omega
    rw [aa,if_neg c6,aa,if_neg c4,aa,if_neg c5]
    exact TF.KS hl
   ·have hl:=hy.nd s x hx
    have c4:x.1≠b:=fun e=>by rw [e,h5.b] at hl;cases hl
    have c5:x.1≠q:=fun e=>by rw [e,h5.q] at hl;cases hl
    have c6:x.1≠cn:=fun e=>by rw [e,h4] at hl;cases hl
    have c7:lk T.hp x.1=none:=by
     have e1:x.1≠T.bx:=fun e=>by rw [e,h5.x] at hl;cases hl
     have e2:x.1≠T.ma:=fun e=>by rw [e,h5.a] at hl;cases hl
     have e3:x.1≠T.mm:=fun e=>by rw [e,h5.m] at hl;cases hl
     rw [Tr.hp,aa,if_neg e1,aa,if_neg e2,aa,if_neg e3];rfl
    rw [aa,if_neg c6,aa,if_neg c4,aa,if_neg c5,TF.KT c7]
    exact hl
 have g5:lk (Fh s0) k=none:=Hp.out h0 (Nat.le_refl _)
 have hokC:∀ (s:σ) (cn kk:Nat) (c:Cr),k≤cn→cn<kk→(Fh s).ok (fun n=>decide (n<kk))=true→Hp.ok (fun n=>decide (n<kk)) ((cn,Ob.box 158 c.cells)::(b,.box 105 [.ptr T.bx 0])::(q,.box 37 d.cells)::TF T (Fh s))=true:=fun s cn kk c h1 h2 h3=>by
  have h4:=hokT s kk (by omega) h3
  unfold Hp.ok at*
  rw [List.all_cons,h4]
  simp only [Ob.ok,Cr.ai,Bool.and_true,decide_eq_true_eq]
  exact h2
 refine SW.loop (α:={i:σ×List Cr×Option Cr×List Cr×Nat×Nat // Js Fh Step go T aX b q k L s0 i.1 i.2.1 i.2.2.1 i.2.2.2.1 i.2.2.2.2.1 i.2.2.2.2.2})
  (fun i=>⟨[(5,bl i.1.2.2.1.isSome),(4,.ptr i.1.2.2.2.2.1 0),(0,.yl y),(1,.ptr b 0),(2,.ptr q 0)],(i.1.2.2.2.2.1,.box 158 (i.1.2.2.1.getD Cr.zero).cells)::(b,.box 105 [.ptr T.bx 0])::(q,.box 37 d.cells)::TF T (Fh i.1.1),i.1.2.2.2.2.2⟩)
  (fun i=>i.1.2.2.2.1.length) ⟨(s0,[],MM.get T.at_ d,L,k,k+1),⟨.nil,wV,rfl,hL,⟨Nat.le_refl _,Nat.lt_succ_self _⟩,by simp,Hp.bE (by simp) h0,hoff,?_⟩⟩ id ?_ ?_
 ·exact g5
 ·refine aJ.same (by simp) (by simp [aY,kA,List.lookup,SV.aC,SV.ok,MM.has];omega) ?_ (nq s0 [] k (k+1) _ (Nat.le_refl _) (Nat.lt_succ_self _) (Hp.bE (by simp) h0) g5 hoff)
  exact hokC s0 k (k+1) _ (Nat.le_refl _) (Nat.lt_succ_self _) (Hp.bE (by simp) h0)
 ·rintro ⟨⟨s,xs,oc,rest,cn,kk⟩,hi⟩
  have hi:Js Fh Step go T aX b q k L s0 s xs oc rest cn kk:=hi
  obtain ⟨p1,p2,p3,p4,p5,p6,p7,p8,p9⟩:=hi
  dsimp only at*
  have hlen:xs.length+rest.length=L.length:=by rw [← p3,List.length_append]
  have hpos:∀ n:Nat,n≤L.length→n*(1+aX)≤L.length*(1+aX):=fun n h=>Nat.mul_le_mul_right _ h
  have c1:=bA (show cn≠b by omega)
  have c2:=bA (show cn≠q by omega)
  have c3:=bA (show cn≠T.bx by omega)
  have c4:=bA (show cn≠T.ma by omega)
  have hout:=nq s xs cn kk
  have w1:=hpos xs.length (by omega)
  have hcn:lk ((b,Ob.box 105 [.ptr T.bx 0])::(q,.box 37 d.cells)::TF T (Fh s)) cn=none:=by
   rw [aa,if_neg (by omega),aa,if_neg (by omega),TF.KT (by
    rw [Tr.hp,aa,if_neg (by omega),aa,if_neg (by omega),aa,if_neg (by omega)];rfl)]
   exact p9
  have hend:∀ (s':σ) (xs':List Cr) (env:List (Nat×SV)) (Gr IM:Nat) (cs:List SV) (Q:Exit→St→Prop),k≤IM→IM<Gr→Gr≤k+(1+L.length*(1+aX))→(Fh s').ok (fun n=>decide (n<Gr))=true→lk (Fh s') IM=none→GI T b q (Fh s')→
    (Q (.exit 0) ⟨[],(b,Ob.box 105 [.ptr T.bx 0])::(q,.box 37 d.cells)::TF T (Fh s'),k+(1+L.length*(1+aX))⟩)→Go.Sl.SW Tryz.prog 37 k (.exit 0) ⟨env,(IM,Ob.box 158 cs)::(b,.box 105 [.ptr T.bx 0])::(q,.box 37 d.cells)::TF T (Fh s'),Gr⟩ Q:=by
   intro s' xs' env Gr IM cs Q h1 h2 h3 h4 h5 h6 h7
   refine SW.weak id (st1:=⟨[],(b,Ob.box 105 [.ptr T.bx 0])::(q,.box 37 d.cells)::TF T (Fh s'),k+(1+L.length*(1+aX))⟩) (aJ.same (Nat.le_add_right _ _) trivial (hokT s' _ (Nat.le_add_right _ _) (Hp.bE h3 h4)) fun x hx=> ?_) (SW.exit h7)
   exact nq s' [] IM Gr cs h1 h2 h4 h5 h6 x (List.mem_cons_of_mem _ hx)
  have hfin:∀ (s':σ) (xs':List Cr),gV Step s0 xs' s'→xs' <+: L→(go s'=true→xs'=L)→GI T b q (Fh s')→(Fh s').ok (fun n=>decide (n<k+(1+L.length*(1+aX))))=true→
    Go.Sl.Fin k (1+L.length*(1+aX)) [] (fun r F=>r= .dM []∧∃ (xs:List Cr) (s':σ),gV Step s0 xs s'∧xs <+: L∧(go s'=true→xs=L)∧GI T b q (Fh s')∧F=(b,.box 105 [.ptr T.bx 0])::(q,.box 37 d.cells)::TF T (Fh s')) ⟨[],(b,Ob.box 105 [.ptr T.bx 0])::(q,.box 37 d.cells)::TF T (Fh s'),k+(1+L.length*(1+aX))⟩:=by
   intro s' xs' h1 h2 h3 h4 h5
   exact End.mk ((b,Ob.box 105 [.ptr T.bx 0])::(q,.box 37 d.cells)::TF T (Fh s')) (h3:=fun _ _ h=>h) (h4:=⟨rfl,xs',s',h1,h2,h3,h4,rfl⟩) (h6:=hokT s' _ (Nat.le_add_right _ _) h5) (h7:=Nat.le_refl _)
  have hc:(oc=none∧rest=[])∨∃ c R,oc=some c∧rest=c::R∧(0<c.level→rS T.at_ (MM.get T.at_ c.par) R)∧(¬ 0<c.level→R=[]):=by
   cases p4 with
   | none=>exact .inl ⟨rfl,rfl⟩
   | root c hc=>exact .inr ⟨c,[],rfl,rfl,fun h=>absurd h hc,fun _=>rfl⟩
   | more c R hc hR=>exact .inr ⟨c,R,rfl,rfl,fun _=>hR,fun h=>absurd hc h⟩
  rcases hc with ⟨rfl,rfl⟩ | ⟨c,R,rfl,rfl,hm,hr⟩
  ·refine SW.seq (SW.seq ?_)
   (refine SW.dL [0,1,2,4,5,25,36] mixed ?_;(repeat (first | refine RW.ro af (h:= ?_) | refine RW.skip (h:= ?_) | refine RW.op af (h:= ?_) | refine RW.eF af (h:= ?_) | refine RW.bH (h:= ?_)));refine RW.nil ⟨dY (by simp [iZ,qu,eG,cg,List.range,List.range.loop,f1,f2,f3,f4,f5,g1,g2,g3,g4] <;> (first | decide | (repeat (first | assumption | refine ⟨?_,?_⟩ | refine .inr ?_)))),au.mk (h:= ?_)⟩)
   refine SW.aj rfl (hend s xs _ kk cn _ _ p5.1 p5.2 (by omega) p7 p9 p8 ?_)
   dsimp only
   rw [if_pos rfl]
   exact hfin s xs p1 (by rw [← p3,List.append_nil];exact List.prefix_rfl) (fun _=>by rw [← p3,List.append_nil]) p8 (Hp.bE (by omega) p7)
  ·simp only [List.length_cons] at hlen
   have w2:=hpos (xs.length+1) (by omega)
   rw [Nat.add_mul,Nat.one_mul] at w2
   refine SW.seq (SW.seq (SW.yu ?_))
   (repeat (first | refine bw.op af (h:= ?_) | refine bw.eF af (h:= ?_) | refine bw.skip (h:= ?_)))
   have hsub:HSub (Fh s) ((cn,Ob.box 158 c.cells)::(b,.box 105 [.ptr T.bx 0])::(q,.box 37 d.cells)::TF T (Fh s)):=fun n ob hn=>by
    have h1:n≠cn:=fun e=>by rw [e,p9] at hn;cases hn
    have h2:n≠b:=fun e=>by rw [e,p8.b] at hn;cases hn
    have h3:n≠q:=fun e=>by rw [e,p8.q] at hn;cases hn
    have h4:n≠T.bx:=fun e=>by rw [e,p8.x] at hn;cases hn
    have h5:n≠T.ma:=fun e=>by rw [e,p8.a] at hn;cases hn
    have h6:n≠T.mm:=fun e=>by rw [e,p8.m] at hn;cases hn
    rw [aa,if_neg h1,aa,if_neg h2,aa,if_neg h3,TF.KT (by rw [Tr.hp,aa,if_neg h4,aa,if_neg h5,aa,if_neg h6];rfl)]
    exact hn
   refine bw.vW (by simp only [List.lookup,Nat.reduceBEq] <;> rfl) (by simp only [ev,List.lookup,Nat.reduceBEq] <;> rfl) (by simp only [ev,oG,List.lookup,Nat.reduceBEq] <;> rfl) (hy.pK s) (hy.call s xs c kk p1 (by omega) p7 p2) hsub ?_
   rintro v F' ⟨s',hstep,rfl,rfl,hok',hnm⟩
   rw [ig]
   have hno:∀ n,n<kk→lk (Fh s) n=none→lk (Fh s') n=none:=fun n h1 h2=>Classical.byContradiction fun hn=>(hnm n hn).elim (fun h=>h h2) (fun h=>by omega)
   have q8:GI T b q (Fh s'):=⟨hno _ (by omega) p8.b,hno _ (by omega) p8.q,hno _ (by omega) p8.x,hno _ (by omega) p8.a,hno _ (by omega) p8.m⟩
   have q9:=hno cn (by omega) p9
   have q1:=gV.snoc p1 hstep
   have hlk:=fA (ro:=false) hsub (F':=Fh s') (fun h=>by cases h)
   have hin:∀ z,z∈((cn,Ob.box 158 c.cells)::(b,.box 105 [.ptr T.bx 0])::(q,.box 37 d.cells)::TF T (Fh s'))→lk (bV false ((cn,Ob.box 158 c.cells)::(b,.box 105 [.ptr T.bx 0])::(q,.box 37 d.cells)::TF T (Fh s)) (Fh s) (Fh s')) z.1=some z.2:=by
    intro z hz
    rw [hlk]
    simp only [List.mem_cons] at hz
    rcases hz with rfl | rfl | rfl | hz
    ·rw [cM p9 q9];simp [aa]
    ·rw [cM p8.b q8.b];exact nq s xs cn kk c.cells p5.1 p5.2 p7 p9 p8 (b,Ob.box 105 [.ptr T.bx 0]) (by simp)
    ·rw [cM p8.q q8.q];exact nq s xs cn kk c.cells p5.1 p5.2 p7 p9 p8 (q,Ob.box 37 d.cells) (by simp)
    ·rcases List.mem_append.1 hz with hz | hz
     ·have hx:z.1=T.bx∨z.1=T.ma∨z.1=T.mm:=by
       simp only [Tr.hp,List.mem_cons,List.not_mem_nil,or_false] at hz
       rcases hz with rfl | rfl | rfl <;> simp
      have e1:lk (Fh s) z.1=none:=by rcases hx with e | e | e <;> rw [e] <;> first | exact p8.x | exact p8.a | exact p8.m
      have e2:lk (Fh s') z.1=none:=by rcases hx with e | e | e <;> rw [e] <;> first | exact q8.x | exact q8.a | exact q8.m
      rw [cM e1 e2]
      exact nq s xs cn kk c.cells p5.1 p5.2 p7 p9 p8 _ (by simp only [List.mem_cons];exact .inr (.inr (.inr (List.mem_append_left _ hz))))
     ·have:=hy.nd s' z hz
      rw [dN (.inr (by rw [this];simp)),this]
   refine SW.Ll (st1:=⟨[(19,bl (go s')),(16,bl true),(5,bl true),(4,.ptr cn 0),(0,.yl y),(1,.ptr b 0),(2,.ptr q 0)],(cn,Ob.box 158 c.cells)::(b,.box 105 [.ptr T.bx 0])::(q,.box 37 d.cells)::TF T (Fh s'),kk+aX⟩) (aJ.same (by show k≤kk+aX;omega) (by simp [aY,kA,s4,List.lookup,SV.aC,SV.ok];omega) (hokC s' cn (kk+aX) c p5.1 (by omega) hok') hin) ?_
   rcases hg:go s' with _ | _
   ·(repeat (first | refine bw.op af (h:= ?_) | refine bw.eF af (h:= ?_) | refine bw.skip (h:= ?_)))
    refine bw.nil ?_
    refine SW.aj rfl (hend s' (xs++[c]) _ (kk+aX) cn _ _ p5.1 (by omega) (by omega) hok' q9 q8 ?_)
    dsimp only
    rw [if_pos rfl]
    exact hfin s' (xs++[c]) q1 (by rw [← p3];exact ⟨R,by simp⟩) (fun h=>by rw [hg] at h;cases h) q8 (Hp.bE (by omega) hok')
   ·rcases hlv:decide (c.level>0) with _ | _
    ·(repeat (first | refine bw.op (hlv) (h:= ?_) | refine bw.eF (hlv) (h:= ?_) | refine bw.skip (h:= ?_)))
     refine bw.nil ?_
     refine SW.aj rfl (hend s' (xs++[c]) _ (kk+aX) cn _ _ p5.1 (by omega) (by omega) hok' q9 q8 ?_)
     dsimp only
     rw [if_pos rfl]
     have hR:=hr (by simpa using hlv)
     exact hfin s' (xs++[c]) q1 (by rw [← p3,hR];exact List.prefix_rfl) (fun _=>by rw [← p3,hR]) q8 (Hp.bE (by omega) hok')
    ·(repeat (first | refine bw.op (hlv) (h:= ?_) | refine bw.eF (hlv) (h:= ?_) | refine bw.skip (h:= ?_)))
     refine bw.nil ?_
     refine SW.ah rfl (SW.skip ?_)
     have z1:=bA (show kk+aX≠cn by omega)
     have z2:=bA (show kk+aX≠b by omega)
     have z3:=bA (show kk+aX≠q by omega)
     have z4:List.lookup (kk+aX) (TF T (Fh s'))=none:=Hp.out (TF.ok (T:=T) ⟨by omega,by omega,by omega⟩ hok') (Nat.le_refl _)
     refine SW.seq (SW.block ?_)
     (have fx:=(And.intro (c1) (And.intro (c2) (And.intro (c3) (And.intro (c4) (And.intro (f1) (And.intro (f2) (And.intro (f3) (And.intro (f4) (And.intro (f5) (And.intro (u1) (u2)))))))))));refine SW.dL [0,1,2,4,5,25,36] mixed ?_;(repeat (first | refine RW.ro fx (h:= ?_) | refine RW.skip (h:= ?_) | refine RW.op fx (h:= ?_) | refine RW.eF fx (h:= ?_) | refine RW.bH (h:= ?_)));refine RW.nil ⟨dY (by simp [iZ,qu,eG,cg,List.range,List.range.loop,c1,c2,c3,c4,f1,f2,f3,f4,f5] <;> (first | decide | (repeat (first | assumption | refine ⟨?_,?_⟩ | refine .inr ?_)))),au.mk (h:= ?_)⟩)
     refine SW.seq ?_
     (refine SW.dL [0,1,2,4,5,25,36] mixed ?_;(repeat (first | refine RW.ro af (h:= ?_) | refine RW.skip (h:= ?_) | refine RW.op af (h:= ?_) | refine RW.eF af (h:= ?_) | refine RW.bH (h:= ?_)));refine RW.nil ⟨dY (by simp [iZ,qu,eG,cg,List.range,List.range.loop,c1,c2,c3,c4,f1,f2,f3,f4,f5] <;> (first | decide | (repeat (first | assumption | refine ⟨?_,?_⟩ | refine .inr ?_)))),au.mk (h:= ?_)⟩)
     (have fx:=(And.intro (z1) (And.intro (z2) (And.intro (z3) (And.intro (z4) (f1)))));refine SW.dL [0,1,2,4,5,25,36] mixed ?_;(repeat (first | refine RW.ro fx (h:= ?_) | refine RW.skip (h:= ?_) | refine RW.op fx (h:= ?_) | refine RW.eF fx (h:= ?_) | refine RW.bH (h:= ?_)));refine RW.nil ⟨dY (by simp [iZ,qu,eG,cg,List.range,List.range.loop,c1,c2,c3,c4,f1,f2,f3,f4,f5] <;> (first | decide | (repeat (first | assumption | refine ⟨?_,?_⟩ | refine .inr ?_)))),au.mk (h:= ?_)⟩)
     refine ⟨⟨(s',xs++[c],MM.get T.at_ c.par,R,kk+aX,kk+aX+1),q1,hg,by rw [← p3];simp,hm (by simpa using hlv),⟨by show k≤kk+aX;omega,Nat.lt_succ_self _⟩,by
      show kk+aX+1≤k+1+(xs++[c]).length*(1+aX)
      rw [List.length_append,List.length_singleton,Nat.add_mul,Nat.one_mul];omega,Hp.bE (by simp) hok',q8,Hp.out hok' (Nat.le_refl _)⟩,id,Nat.lt_succ_self _,aJ.same (by show k≤kk+aX+1;omega) (by simp [aY,List.lookup,SV.aC,SV.ok,MM.has];omega) (hokC s' (kk+aX) (kk+aX+1) _ (by omega) (Nat.lt_succ_self _) (Hp.bE (by simp) hok')) (fun x hx=> ?_)⟩
     have hx:x∈((kk+aX,Ob.box 158 ((MM.get T.at_ c.par).getD Cr.zero).cells)::(b,.box 105 [.ptr T.bx 0])::(q,.box 37 d.cells)::TF T (Fh s')):=hx
     rcases List.mem_cons.1 hx with rfl | hx
     ·exact dA
     ·have h1:=nq s' [] cn (kk+aX) ((MM.get T.at_ c.par).getD Cr.zero).cells p5.1 (by omega) hok' q9 q8 x (List.mem_cons_of_mem _ hx)
      have h2:=(Hp.dH (hokC s' cn (kk+aX) ((MM.get T.at_ c.par).getD Cr.zero) p5.1 (by omega) hok') h1).1
      rw [aa,if_neg (by simp at h2;omega)]
      exact h1
end
section
attribute [local irreducible] SW RW aM SC ak au
structure CI (y bx:Nat) where
 l:List Dt
 rn:Nat
 h1:rn≠y
 h2:rn≠bx
def gJ (y bx N:Nat)(ts ps:List Nat)(ca cb:Code)(s:CI y bx):Hp:=
 [(y,.kJ N ts [.ptr bx 0] ps ca cb .ready none),(bx,.box 31 [.gs s.rn s.l.length]),(s.rn,.arr 37 2 s.l.length ((s.l.flatMap Dt.ds).map .d))]
set_option maxHeartbeats 1000000 in
theorem AW {y bx B:Nat}(Jv:y≠bx)(s0:CI y bx)(hB:s0.l.length+B<4611686018427){ca cb:Code}
    (hca:cK Tryz.prog 29 ca=some (.ey [⟨some 9,.alloc 158 [.d (.int .u8 0),.d (.int .u32 0),.d (.int .u8 0),.d (.int .u32 0),.d (.int .u8 0),.d (.int .u32 0),.d (.int .u32 0),.d (.int .u8 0),.d (.int .u8 0),.d (.int .u64 0),.d (.int .i64 0)],none⟩,⟨none,.store 11 (.t 9) (.t 22),none⟩] (jK 2) false))
    (hcb:cK Tryz.prog 29 cb=some (.block 1 (.ey [⟨some 23,.load none (.t 8),none⟩,⟨some 24,.aV 0 (.t 9),none⟩,⟨some 25,.load (some 2) (.t 24),none⟩,⟨some 26,.oU 37 2 1 [.d (.int .u8 0),.d (.int .u32 0)] [(0,2,.t 25)],none⟩,⟨some 27,.app 37 2 8 (.t 23) (.t 26),none⟩,⟨none,.store 1 (.t 8) (.t 27),none⟩] (jK 6) false))):
    nR Tryz.prog y (fun x:Cr=> .agg x.cells) 2 (gJ y bx 29 [8] [22] ca cb) (fun s x s'=>s'.l=s.l++[x.dot]) (fun _=>true) s0 B:=by
  refine ⟨fun s=>by simp [gJ,aa],fun s x hx=> ?_,fun s xs x k hon hlt hok _=> ?_⟩
  · have f1:=bA Jv
    have f2:=bA s.h1
    have f3:=bA s.h2
    simp only [gJ,List.mem_cons,List.not_mem_nil,or_false] at hx
    rcases hx with rfl | rfl | rfl <;> simp [gJ,aa,f1,f2,f3]
  · have hlen:s.l.length=s0.l.length+xs.length:=by
      clear hlt hok
      induction hon with
      | nil=>rfl
      | snoc _ h ih=>rw [h];simp [ih];omega
    obtain ⟨l,rn,h1,h2⟩:=s
    simp only at hlen
    simp only [gJ,Hp.ok,List.all_cons,List.all_nil,Ob.ok,SV.ay,SV.ok,SV.bh,Bool.and_true,Bool.and_eq_true,decide_eq_true_eq] at hok
    obtain ⟨⟨k1,_⟩,⟨k2,_⟩,k3⟩:=hok
    have f1:=bA Jv
    have f2:=bA h1
    have f3:=bA h2
    have g1:=bA (show k≠y by omega)
    have g2:=bA (show k≠bx by omega)
    have g3:=bA (show k≠rn by omega)
    have g4:=bA (show k+1≠k by omega)
    have g5:=bA (show k+1≠y by omega)
    have g6:=bA (show k+1≠bx by omega)
    have g7:=bA (show k+1≠rn by omega)
    refine wL.here (fun n=>n == y || n == bx || n == rn) (wL.lY (cs:=[.ptr bx 0]) (H:=[(bx,.box 31 [.gs rn l.length]),(rn,.arr 37 2 l.length ((l.flatMap Dt.ds).map .d))]) hca hcb rfl rfl rfl (by simp) k1 (by simp [aa,bt,f1,f2]) (by simp [SV.ay,SV.ok]) (by simp [Hp.ok,Ob.ok,SV.ay,SV.ok,SV.bh];omega) (by simp [SV.ay,SV.ok];omega) ?_) ?_ (by simp [SV.ay,SV.ok]) (by simp [gJ,Hp.ok,Ob.ok,SV.ay,SV.ok,SV.bh]) ?_
    · skip
      show Go.Sl.SW _ _ _ _ ⟨[(22,.agg x.cells),(8,.ptr bx 0)],_,_⟩ _
      refine SW.g0 [8,9,22] mixed (And.intro (f1) (And.intro (f2) (And.intro (f3) (And.intro (g1) (And.intro (g2) (g3)))))) ?_
      refine ⟨rfl,SW.block ?_⟩
      refine SW.g0 [8,9,22] mixed (And.intro (f1) (And.intro (f2) (And.intro (f3) (And.intro (g1) (And.intro (g2) (And.intro (g3) (And.intro (g4) (And.intro (g5) (And.intro (g6) (g7)))))))))) ?_
      have e2:((l++[x.dot]).flatMap Dt.ds).map SV.d=(List.flatMap Dt.ds l).map SV.d++x.dot.ds.map SV.d:=by simp
      refine ⟨none,true,[(bx,.box 31 [.gs (k+1) (l++[x.dot]).length]),(k+1,.arr 37 2 (l++[x.dot]).length (((l++[x.dot]).flatMap Dt.ds).map .d))],⟨rfl,rfl⟩,?_,?_,by simp,⟨⟨l++[x.dot],k+1,by omega,by omega⟩,rfl,rfl,rfl,?_,?_⟩⟩
      · refine HSub.cons ?_ (HSub.cons ?_ (HSub.nil _))
        · simp [aa,f1,f2,f3,g1,g2,g3,g4,g5,g6,g7,cU]
        · rw [e2];simp [aa]
      · simp [Hp.ok,Ob.ok,SV.ay,SV.ok,SV.bh,-List.flatMap_append,-List.map_append];omega
      · simp [gJ,Hp.ok,Ob.ok,SV.ay,SV.ok,SV.bh,-List.flatMap_append,-List.map_append];omega
      · intro n hn
        by_cases hy':n=y
        · exact .inl (by simp [gJ,aa,hy'])
        · by_cases hbx:n=bx
          · exact .inl (by simp [gJ,aa,hbx,f1])
          · refine .inr ?_
            have:n=k+1:=Classical.byContradiction fun hne=>hn (by simp [gJ,aa,bt,hy',hbx,hne])
            omega
    · intro n hn
      simp only [Bool.or_eq_true,beq_iff_eq] at hn
      rcases hn with (rfl | rfl) | rfl <;> simp [gJ,aa,f1,f2,f3]
    · rintro r F' ⟨s',hs',rfl,rfl,hok',hnm⟩ _ _
      obtain ⟨l',rn',h1',h2'⟩:=s'
      refine ⟨rfl,?_⟩
      simp [gJ,Hp.ok,Ob.ok,SV.ay,SV.ok,SV.bh]
      have hh:=hnm rn' (by simp [gJ,aa,h1',h2'])
      rcases hh with hh | ⟨hh1,hh2⟩
      · have:rn'=rn:=by
          refine Classical.byContradiction fun hne=>hh ?_
          simp [gJ,aa,bt,h1',h2',hne]
        simp [this]
      · simp [hh1];omega
end
section
attribute [local irreducible] SW RW aM SC ak au
theorem Jw (a:MM Dt Cr)(ca:Nat)(m:MM Dt ag)(cm:Nat)(d:Dt):SB Tryz.prog tree_Tree_up.f [.ptr 0 0,.agg d.cells] (fm a ca m cm) 3 2 (fun r F'=>r= .fn (.func tree_Tree_up_1.f) [] [.ptr 3 0,.ptr 4 0]∧F'=(4,.box 37 d.cells)::(3,.box 105 [.ptr 0 0])::fm a ca m cm):=by
 refine tree_Tree_up.enter (by simp [SV.ay,SV.ok]) (cW a ca m cm (Nat.le_refl 3)) (by simp) ?_
 dsimp only [tree_Tree_up.s,Co.M,Co.G,Co.J,Co.H,Co.N,Co.F,Co.C,Co.Z,Co.B,Co.b8,Co.aB,Co.bL,Co.i6,Co.z8,Co.bU]
 (repeat (first | refine SW.seq ?_ | refine SW.block ?_ | refine SW.g0 [0,1,2,3,4] mixed af ?_ | refine SW.skip ?_ | refine SW.exit ?_ | refine SW.ret ?_ | refine SW.ah rfl ?_ | refine SW.aj rfl ?_))
 refine End.mk ((4,.box 37 d.cells)::(3,.box 105 [.ptr 0 0])::fm a ca m cm) (h3:=fun _ _ h=>h) (h4:=⟨rfl,rfl⟩) (h6:= ?_)
 exact av (by simp) (by simp [Ob.ok,SV.bh,Dt.cells,SV.ay,SV.ok]) (av (by simp) (by simp [Ob.ok,SV.ay,SV.ok]) (cW a ca m cm (by omega)))
theorem GJ (a:MM Dt Cr)(ca:Nat)(m:MM Dt ag)(cm:Nat)(d:Dt)(k:Nat)(hk:3≤k):aM Tryz.prog tree_Tree_up.f [.ptr 0 0,.agg d.cells] (fm a ca m cm) k 2 (.fn (.func tree_Tree_up_1.f) [] [.ptr k 0,.ptr (k+1) 0]) ((k+1,.box 37 d.cells)::(k,.box 105 [.ptr 0 0])::fm a ca m cm):=by
 have h:=SB.qA [0,1,2] (Jw a ca m cm d) (by decide) (qK _ _ _ _) k
 have e:Hp.aC (gx [0,1,2] k) (fm a ca m cm)=fm a ca m cm:=l7 ⟨0,1,2,a,ca,m,cm⟩ k
 have e3:gx [0,1,2] k 3=k:=by simp [gx]
 have e4:gx [0,1,2] k 4=k+1:=by simp [gx];omega
 have e0:gx [0,1,2] k 0=0:=rfl
 have e5:∀ x y:Nat×Ob,Hp.aC (gx [0,1,2] k) (x::y::fm a ca m cm)=(gx [0,1,2] k x.1,x.2.aC (gx [0,1,2] k))::(gx [0,1,2] k y.1,y.2.aC (gx [0,1,2] k))::Hp.aC (gx [0,1,2] k) (fm a ca m cm):=fun _ _=>rfl
 rw [e5,e] at h
 simp only [SV.aW,SV.aC,Ob.aC,Dt.ax,e0,e3,e4,List.length_cons,List.length_nil] at h
 exact h
theorem AX {y bx:Nat}{s0 s:CI y bx}{xs:List Cr}(h:gV (fun (s:CI y bx) (x:Cr) s'=>s'.l=s.l++[x.dot]) s0 xs s):s.l=s0.l++xs.map (·.dot):=by
 induction h with
 | nil=>simp
 | snoc _ h ih=>rw [h,ih];simp
def mS (a:MM Dt Cr)(d:Dt)(L:List Cr):SV:=if MM.has a d then .dM [.d (.sl L.length ((L.map (·.dot)).flatMap Dt.ds)),.d (.int .i64 0)] else .dM [.d .aU,.d (.int .i64 7)]
set_option maxHeartbeats 4000000 in
theorem CJ (a:MM Dt Cr)(ca:Nat)(m:MM Dt ag)(cm:Nat)(d:Dt)(L:List Cr)(hL:rS a (MM.get a d) L)(hlen:L.length<1000000):
  SB Tryz.prog tree_Tree_Chain.f [.ptr 0 0,.agg d.cells] (fm a ca m cm) 3 (6+L.length*(1+2)) (fun r F'=>r=mS a d L∧F'=fm a ca m cm):=by
 refine tree_Tree_Chain.enter (by simp [SV.ay,SV.ok]) (cW a ca m cm (Nat.le_refl 3)) (by simp) ?_
 dsimp only [tree_Tree_Chain.s,Co.M,Co.G,Co.J,Co.H,Co.N,Co.F,Co.C,Co.Z,Co.B,Co.b8,Co.aB,Co.bL,Co.i6,Co.z8,Co.bU]
 have jL:∀ k,aM Tryz.prog tree_Tree_Get.f [.ptr 0 0,.agg d.cells] (fm a ca m cm) k 3 (.dM [.agg ((MM.get a d).getD Cr.zero).cells,i64 (if MM.has a d then 0 else 7)]) (fm a ca m cm):=fun k=>get_at (nV a ca m cm) d k
 have hup:aM Tryz.prog tree_Tree_up.f [.ptr 0 0,.agg d.cells] (fm a ca m cm) 9 2 (.fn (.func tree_Tree_up_1.f) [] [.ptr 9 0,.ptr 10 0]) ((10,.box 37 d.cells)::(9,.box 105 [.ptr 0 0])::fm a ca m cm):=GJ a ca m cm d 9 (by omega)
 unfold mS
 rcases hh:MM.has a d with _ | _
 ·rw [hh] at jL
  simp only [Bool.false_eq_true,if_false] at jL ⊢
  refine SW.seq ?_
  refine SW.g2 [0,1,3,4,5,7,8,9,17,21,22] mixed (hh) jL hup ?_
  refine SW.seq (SW.seq ?_)
  refine SW.g2 [0,1,3,4,5,7,8,9,17,21,22] mixed (hh) jL hup ?_
  refine SW.seq ?_
  refine SW.g2 [0,1,3,4,5,7,8,9,17,21,22] mixed (hh) jL hup ?_
  refine SW.ah rfl (SW.seq ?_)
  refine SW.g2 [0,1,3,4,5,7,8,9,17,21,22] mixed (hh) jL hup ?_
  refine SW.weak id (st1:=⟨[(4,.d .aU),(5,.d (.int .i64 7))],fm a ca m cm,3+(6+L.length*(1+2))⟩) (aJ.same (by show 3≤3+_;omega) (by simp [aY,List.lookup,SV.aC,SV.ok]) (cW a ca m cm (by show 3≤3+(6+L.length*(1+2));omega)) (fun x hx=> ?_)) (SW.ret ?_)
  ·simp only [List.mem_cons,List.not_mem_nil,or_false] at hx
   rcases hx with rfl | rfl | rfl <;> rfl
  ·exact End.mk (fm a ca m cm) (h3:=fun _ _ h=>h) (h4:=⟨rfl,rfl⟩) (h6:=cW a ca m cm (by omega)) (h7:=Nat.le_refl _)
 ·rw [hh] at jL
  simp only [if_true] at jL ⊢
  (repeat (first | refine SW.seq ?_ | refine SW.block ?_ | refine SW.g2 [0,1,3,4,5,7,8,9,17,21,22] mixed (hh) jL hup ?_ | refine SW.skip ?_ | refine SW.exit ?_ | refine SW.ret ?_ | refine SW.ah rfl ?_ | refine SW.aj rfl ?_))
  refine SW.th 8 31 37 2 (by rfl) ?_
  let s0:CI 7 3:=⟨[],6,by decide,by decide⟩
  refine SW.weak (fun n=>if n=3 then 8 else if n=4 then 9 else if n=5 then 10 else if n=6 then 11 else n) (st1:=⟨[(21,.fn (.func tree_Tree_up_1.f) [] [.ptr 4 0,.ptr 5 0]),(8,.ptr 3 0)],(3,.box 31 [.gs 6 0])::(6,.arr 37 2 0 [])::(4,.box 105 [.ptr 0 0])::(5,.box 37 d.cells)::fm a ca m cm,7⟩) ⟨by show (3:Nat)≤7;decide,fun n hn=> ?_,?_,?_,?_⟩ ?_
  ·show (if n=3 then 8 else if n=4 then 9 else if n=5 then 10 else if n=6 then 11 else n)=n
   rw [if_neg (by omega),if_neg (by omega),if_neg (by omega),if_neg (by omega)]
  ·simp [aY,List.lookup,SV.aC,SV.ok,SV.aW,SV.ay]
  ·simp [uk,aa,Ob.aC,SV.aW,SV.aC,SV.ia,SV.bh,Ob.ok,SV.ay,SV.ok,Dt.ax,Dt.ai,ic,iY,cF,bq]
  ·intro x hx y hy e
   simp only [List.map_cons,List.map_nil,List.mem_cons,List.not_mem_nil,or_false] at hx hy
   rcases hx with rfl | rfl | rfl | rfl | rfl | rfl | rfl <;> rcases hy with rfl | rfl | rfl | rfl | rfl | rfl | rfl <;> simp at e <;> rfl
  refine SW.mL (nk:=1+L.length*(1+2)) [8] [.ptr 3 0] rfl ⟨rfl,trivial⟩ fun ca' cb' hca hcb=> ?_
  have hy:=AW (y:=7) (bx:=3) (B:=L.length) (by decide) s0 (by simp [s0];omega) hca hcb
  have hsb:=CH (y:=7) (b:=4) (q:=5) (k:=8) (T:=iy a ca m cm) (d:=d) (nV a ca m cm) hL s0 hy (by simp [gJ,s0,Hp.ok,Ob.ok,SV.ay,SV.ok]) (by decide) (by decide) (by decide) (oR a ca m cm (by decide)) (by rfl) (by rfl) ⟨by rfl,by rfl,by rfl,by rfl,by rfl⟩ rfl
  have hsubF:HSub ((4,Ob.box 105 [.ptr 0 0])::(5,.box 37 d.cells)::TF (iy a ca m cm) (gJ 7 3 29 [8] [22] ca' cb' s0)) ((7,.kJ 29 [8] [.ptr 3 0] [22] ca' cb' .ready none)::(3,.box 31 [.gs 6 0])::(6,.arr 37 2 0 [])::(4,.box 105 [.ptr 0 0])::(5,.box 37 d.cells)::fm a ca m cm):=by
   intro n ob hn
   match n with
   | 0 | 1 | 2 | 3 | 4 | 5 | 6 | 7=>simpa [TF,Tr.hp,gJ,s0,aa] using hn
   | n+8=>simp [TF,Tr.hp,gJ,s0,aa,bt] at hn
  have hsc:=(hsb.here (fun n=>decide (n<8)) (fun n hn=> ?_) (by simp [SV.ay,SV.ok]) ?_ ?_).frame hsubF
  ·refine hsc.mono ?_
   rintro r F' ⟨F1,⟨rfl,xs,s',hon,hpre,hall,hoff,rfl⟩,rfl⟩
   have hl:=AX hon
   have hxs:xs=L:=hall rfl
   obtain ⟨l,rn,hr1,hr2⟩:=s'
   have hl:l=L.map (·.dot):=by rw [← hxs];simpa [s0] using hl
   obtain ⟨o1,o2,o3,o4,o5⟩:=hoff
   have hn4:rn≠4:=fun e=>by simp [gJ,e,aa] at o1
   have hn5:rn≠5:=fun e=>by simp [gJ,e,aa] at o2
   have hn0:rn≠0:=fun e=>by simp [gJ,e,aa] at o3
   have hn1:rn≠1:=fun e=>by simp [gJ,e,aa] at o4
   have hn2:rn≠2:=fun e=>by simp [gJ,e,aa] at o5
   have hll:l.length=L.length:=by rw [hl,List.length_map]
   have hlk:=fA (ro:=false) (F':=(4,Ob.box 105 [.ptr 0 0])::(5,.box 37 d.cells)::TF (iy a ca m cm) (gJ 7 3 29 [8] [22] ca' cb' ⟨l,rn,hr1,hr2⟩)) hsubF (fun h=>by cases h)
   generalize bV false _ _ _=G at hlk
   have hG:∀ n ob,lk ((4,Ob.box 105 [.ptr 0 0])::(5,.box 37 d.cells)::TF (iy a ca m cm) (gJ 7 3 29 [8] [22] ca' cb' ⟨l,rn,hr1,hr2⟩)) n=some ob→lk G n=some ob:=fun n ob h=>by
    rw [hlk,dN (.inr (by rw [h];simp)),h]
   refine ⟨none,hG 7 _ (by simp [TF,Tr.hp,gJ,aa,jQ]),?_⟩
   refine SW.weak (fun n=>if n=6 then rn else n) (st1:=⟨[(8,.ptr 3 0)],(3,.box 31 [.gs 6 L.length])::(6,.arr 37 2 L.length ((l.flatMap Dt.ds).map .d))::fm a ca m cm,7+1+(1+L.length*(1+2))⟩) ?_ ?_
   ·have q3:=hG 3 (.box 31 [.gs rn l.length]) (by simp [TF,Tr.hp,gJ,aa])
    have q6:=hG rn (.arr 37 2 l.length ((l.flatMap Dt.ds).map .d)) (by simp [TF,Tr.hp,gJ,aa,hn0,hn1,hn2,hn4,hn5,hr1,hr2])
    have q0:=hG 0 (.box 166 [.mp 1,.mp 2]) (by simp [TF,Tr.hp,aa])
    have q1:=hG 1 (.map (an Dt.cells cv a) ca) (by simp [TF,Tr.hp,aa])
    have q2:=hG 2 (.map (an Dt.cells ov m) cm) (by simp [TF,Tr.hp,aa])
    rw [hll] at q3 q6
    refine ⟨by show 3≤7+1+(1+L.length*(1+2));omega,fun n hn=>if_neg (by omega),?_,?_,?_⟩
    ·simp [aY,List.lookup,SV.aC,SV.ok];omega
    ·simp [uk,cR,Ob.aC,SV.aW,SV.aC,SV.ia,SV.bh,Ob.ok,SV.ay,SV.ok,q3,q6,q2,q0,q1,hr1,ic,iY,cF,bq];omega
    ·intro x hx y hy e
     simp only [List.map_cons,List.map_nil,List.mem_cons,List.not_mem_nil,or_false] at hx hy
     rcases hx with rfl | rfl | rfl | rfl | rfl <;> rcases hy with rfl | rfl | rfl | rfl | rfl <;> simp at e <;> first | rfl | omega
   ·refine SW.seq ?_
    refine SW.g0 [0,1,3,4,5,7,8,9,17,21,22] mixed af ?_
    refine SW.freeze 6 (l.flatMap Dt.ds) rfl rfl (SW.ret ?_)
    rw [← hl]
    exact End.mk (fm a ca m cm) (h4:=⟨by simp [eP,SV.iB],rfl⟩) (h5:=by simp [eP,SV.iB,SV.ok,SV.ay]) (h6:=cW a ca m cm (by omega)) (h7:=by show 3+(6+L.length*(1+2))≤7+1+(1+L.length*(1+2));omega)
  ·match n,hn with
   | 0,_ | 1,_ | 2,_ | 3,_ | 4,_ | 5,_ | 6,_ | 7,_=>simp [TF,Tr.hp,gJ,s0,aa]
   | n +8,h=>
     have:n+8<8:=by simpa using h
     omega
  ·refine av rfl (by simp [Ob.ok,SV.ay,SV.ok]) (av rfl (by simp [Ob.ok,Dt.ai]) ?_)
   have h1:(iy a ca m cm).hp.ok (fun n=>decide (n<8))=true:=Tr.rR (oR a ca m cm (by decide))
   have h2:(gJ 7 3 29 [8] [22] ca' cb' s0).ok (fun n=>decide (n<8))=true:=by simp [gJ,s0,Hp.ok,Ob.ok,SV.ay,SV.ok,SV.bh]
   unfold Hp.ok at*
   rw [TF,List.all_append,h1,h2];rfl
  ·rintro r F' _ h1 h2
   refine ⟨SV.eT (fun n hn=> ?_) _ h1,Hp.dy (fun n hn=> ?_) h2⟩ <;> (simp at hn ⊢;omega)
theorem yF (f:Nat→Nat)(a:MM Dt Cr)(d:Dt)(L:List Cr):(mS a d L).aC f=mS a d L:=by
 unfold mS;split <;> rfl
theorem CK {T:Tr}(hs:T.sep)(d:Dt)(L:List Cr)(hL:rS T.at_ (MM.get T.at_ d) L)(hlen:L.length<1000000)(k:Nat):aM Tryz.prog tree_Tree_Chain.f [.ptr T.bx 0,.agg d.cells] T.hp k (6+L.length*(1+2)) (mS T.at_ d L) T.hp:=by
 have h:=SB.qA [T.bx,T.ma,T.mm] (CJ T.at_ T.ca T.made T.cm d L hL hlen) (Tr.Jq hs) (qK _ _ _ _) k
 rw [l7,yF] at h
 simp only [SV.aW,SV.aC,Dt.ax] at h
 exact h
end
section
attribute [local irreducible] SW RW aM SC ak au
def Jx (s:Bool):Option Code:=if s then some .ret else none
def jX (N y b4 b6:Nat)(e:Dt)(ca cb:Code)(s:Bool):Hp:=
 [(y,.kJ N [4,6] [.ptr b4 0,.ptr b6 0] [18] ca cb (jQ (Jx s)) (Jx s)),(b4,.box 37 e.cells),(b6,.box 4 [bl s])]
theorem xI {N y b4 b6:Nat}{e:Dt}{ca cb:Code}{s s':Bool}{n:Nat}(h:lk (jX N y b4 b6 e ca cb s') n≠none):lk (jX N y b4 b6 e ca cb s) n≠none:=by
  simp only [jX,aa] at h ⊢
  by_cases h1:n=y
  · simp [h1]
  · by_cases h2:n=b4
    · rw [if_neg h1,if_pos h2];simp
    · by_cases h3:n=b6
      · rw [if_neg h1,if_neg h2,if_pos h3];simp
      · rw [if_neg h1,if_neg h2,if_neg h3] at h
        exact absurd rfl h
set_option maxHeartbeats 1000000 in
theorem AY {y b4 b6 B:Nat}(h1:y≠b4)(h2:y≠b6)(h3:b4≠b6)(e:Dt){ca cb:Code}
  (hca:cK Tryz.prog 23 ca=some (.ey [⟨some 7,.alloc 158 [.d (.int .u8 0),.d (.int .u32 0),.d (.int .u8 0),.d (.int .u32 0),.d (.int .u8 0),.d (.int .u32 0),.d (.int .u32 0),.d (.int .u8 0),.d (.int .u8 0),.d (.int .u64 0),.d (.int .i64 0)],none⟩,⟨none,.store 11 (.t 7) (.t 18),none⟩] (jK 2) false))
  (hcb:cK Tryz.prog 23 cb=some (.block 1 (.seq (.ey [⟨some 19,.aV 0 (.t 7),none⟩,⟨some 20,.load (some 2) (.t 19),none⟩,⟨some 21,.load (some 2) (.t 4),none⟩,⟨some 22,.eqv false [true,true] (.t 20) (.t 21),none⟩] (jK 4) false)
   (.cond (.t 22) (.seq (.ey [⟨none,.store 1 (.t 6) (.k (.d (.bool true))),none⟩] (jK 1) false) .ret) .skip)))):
  nR Tryz.prog y (fun x:Cr=> .agg x.cells) 1 (jX 23 y b4 b6 e ca cb) (fun s x s'=>s'=(s || decide (x.dot=e))) (fun s=> !s) false B:=by
 have f1:=bA h1
 have f2:=bA h2
 have f3:=bA h3
 refine ⟨fun s=>by simp [jX,aa],fun s x hx=> ?_,fun s xs x k hon hlt hok wV=> ?_⟩
 ·simp only [jX,List.mem_cons,List.not_mem_nil,or_false] at hx
  rcases hx with rfl | rfl | rfl <;> simp [jX,aa,f1,f2,f3]
 ·have hs:s=false:=by simpa using wV
  subst hs
  simp only [jX,Hp.ok,List.all_cons,List.all_nil,Ob.ok,SV.ay,SV.ok,SV.bh,Dt.ai,Bool.and_true,Bool.and_eq_true,decide_eq_true_eq] at hok
  obtain ⟨⟨k1,_⟩,k2,k3⟩:=hok
  have g1:=bA (show k≠y by omega)
  have g2:=bA (show k≠b4 by omega)
  have g3:=bA (show k≠b6 by omega)
  refine wL.here (fun n=>n == y || n == b4 || n == b6) (wL.lY (cs:=[.ptr b4 0,.ptr b6 0]) (H:=[(b4,.box 37 e.cells),(b6,.box 4 [bl false])]) hca hcb rfl rfl rfl (by simp) k1 (by simp [aa,bt,f1,f2]) (by simp [SV.ay,SV.ok,Cr.ai]) (by simp [Hp.ok,Ob.ok,SV.ay,SV.ok,SV.bh,Dt.ai];omega) (by simp [SV.ay,SV.ok];omega) ?_) ?_ (by simp [SV.ay,SV.ok,Cr.ai]) (by simp [jX,Hp.ok,Ob.ok,SV.ay,SV.ok,SV.bh,Dt.ai]) ?_
  ·skip
   show Go.Sl.SW _ _ _ _ ⟨[(18,.agg x.cells),(4,.ptr b4 0),(6,.ptr b6 0)],_,_⟩ _
   refine SW.g0 [4,6,7,18,22] mixed (And.intro (f1) (And.intro (f2) (And.intro (f3) (And.intro (g1) (And.intro (g2) (g3)))))) ?_
   refine ⟨rfl,SW.block ?_⟩
   refine SW.seq ?_
   refine SW.g0 [4,6,7,18,22] mixed (And.intro (f1) (And.intro (f2) (And.intro (f3) (And.intro (g1) (And.intro (g2) (g3)))))) ?_
   rcases hd:decide (x.dot=e) with _ | _
   ·refine SW.aj (by simp only [ev,List.lookup,Nat.reduceBEq,hd]) (SW.skip ?_)
    refine ⟨none,true,[(b4,.box 37 e.cells),(b6,.box 4 [bl false])],⟨rfl,rfl⟩,HSub.cons (by simp [aa,f1,f2,f3,g1,g2,g3]) (HSub.cons (by simp [aa,f1,f2,f3,g1,g2,g3]) (HSub.nil _)),by simp [Hp.ok,Ob.ok,SV.ay,SV.ok,SV.bh,Dt.ai];omega,by simp,⟨false,rfl,rfl,rfl,by simp [jX,Hp.ok,Ob.ok,SV.ay,SV.ok,SV.bh,Dt.ai];omega,fun n hn=> .inl (xI hn)⟩⟩
   ·refine SW.ah (by simp only [ev,List.lookup,Nat.reduceBEq,hd]) (SW.seq ?_)
    refine SW.g0 [4,6,7,18,22] mixed (And.intro (f1) (And.intro (f2) (And.intro (f3) (And.intro (g1) (And.intro (g2) (g3)))))) ?_
    refine SW.ret ?_
    refine ⟨some .ret,false,[(b4,.box 37 e.cells),(b6,.box 4 [bl true])],⟨rfl,rfl⟩,HSub.cons (by simp [aa,f1,f2,f3,g1,g2,g3]) (HSub.cons (by simp [aa,f1,f2,f3,g1,g2,g3,cU]) (HSub.nil _)),by simp [Hp.ok,Ob.ok,SV.ay,SV.ok,SV.bh,Dt.ai];omega,by simp,⟨true,rfl,rfl,rfl,by simp [jX,Hp.ok,Ob.ok,SV.ay,SV.ok,SV.bh,Dt.ai];omega,fun n hn=> .inl (xI hn)⟩⟩
  ·intro n hn
   simp only [Bool.or_eq_true,beq_iff_eq] at hn
   rcases hn with (rfl | rfl) | rfl <;> simp [jX,aa,f1,f2,f3]
  ·rintro r F' ⟨s',hs',rfl,rfl,hok',hnm⟩ _ _
   refine ⟨rfl,?_⟩
   simp [jX,Hp.ok,Ob.ok,SV.ay,SV.ok,SV.bh,Dt.ai]
theorem CL {e:Dt}{s0 s:Bool}{xs:List Cr}(h:gV (fun (s:Bool) (x:Cr) s'=>s'=(s || decide (x.dot=e))) s0 xs s):s=(s0 || xs.any fun x=>decide (x.dot=e)):=by
 induction h with
 | nil=>simp
 | snoc _ h ih=>rw [h,ih];simp [Bool.or_assoc]
def mT (a:MM Dt Cr)(e d:Dt)(L:List Cr):Bool:= !decide (e=d) && L.any fun x=>decide (x.dot=e)
set_option maxHeartbeats 4000000 in
theorem CM (a:MM Dt Cr)(ca:Nat)(m:MM Dt ag)(cm:Nat)(e d:Dt)(L:List Cr)(hL:rS a (MM.get a d) L)(hlen:L.length<1000000):
  SB Tryz.prog tree_Tree_Above.f [.ptr 0 0,.agg e.cells,.agg d.cells] (fm a ca m cm) 3 (6+L.length*(1+1)) (fun r F'=>r=bl (mT a e d L)∧F'=fm a ca m cm):=by
 refine tree_Tree_Above.enter (by simp [SV.ay,SV.ok]) (cW a ca m cm (Nat.le_refl 3)) (by simp) ?_
 dsimp only [tree_Tree_Above.s,Co.M,Co.G,Co.J,Co.H,Co.N,Co.F,Co.C,Co.Z,Co.B,Co.b8,Co.aB,Co.bL,Co.i6,Co.z8,Co.bU]
 have hup:aM Tryz.prog tree_Tree_up.f [.ptr 0 0,.agg d.cells] (fm a ca m cm) 6 2 (.fn (.func tree_Tree_up_1.f) [] [.ptr 6 0,.ptr 7 0]) ((7,.box 37 d.cells)::(6,.box 105 [.ptr 0 0])::fm a ca m cm):=GJ a ca m cm d 6 (by omega)
 have hnone:∀ k,3≤k→aM Tryz.prog tree_Tree_none.f [.ptr 0 0] (fm a ca m cm) k 0 (.d (.bool false)) (fm a ca m cm):=fun k hk=>jU a ca m cm hk
 unfold mT
 rcases hd:decide (e=d) with _ | _
 ·refine SW.seq ?_
  (refine SW.dL [0,1,2,4,5,6,7,14,17,18,22] mixed ?_;(repeat (first | refine RW.ro (hd) (h:= ?_) | refine RW.skip (h:= ?_) | refine RW.op (hd) (h:= ?_) | refine RW.eF (hd) (h:= ?_) | refine RW.bH (h:= ?_) | (refine RW.bJ (h:= ?_);(first | refine ak.mk (hd) (hc:=hnone _ (by omega)) (h:= ?_) | refine ak.mk (hd) (hc:=hup) (h:= ?_)))));refine RW.nil ⟨by kernel_rfl,au.mk (h:= ?_)⟩)
  refine SW.seq (SW.seq ?_)
  (refine SW.dL [0,1,2,4,5,6,7,14,17,18,22] mixed ?_;(repeat (first | refine RW.ro (hd) (h:= ?_) | refine RW.skip (h:= ?_) | refine RW.op (hd) (h:= ?_) | refine RW.eF (hd) (h:= ?_) | refine RW.bH (h:= ?_) | (refine RW.bJ (h:= ?_);(first | refine ak.mk (hd) (hc:=hnone _ (by omega)) (h:= ?_) | refine ak.mk (hd) (hc:=hup) (h:= ?_)))));refine RW.nil ⟨by kernel_rfl,au.mk (h:= ?_)⟩)
  refine SW.aj rfl (SW.skip ?_)
  refine SW.seq (SW.seq ?_)
  (refine SW.dL [0,1,2,4,5,6,7,14,17,18,22] mixed ?_;(repeat (first | refine RW.ro (hd) (h:= ?_) | refine RW.skip (h:= ?_) | refine RW.op (hd) (h:= ?_) | refine RW.eF (hd) (h:= ?_) | refine RW.bH (h:= ?_) | (refine RW.bJ (h:= ?_);(first | refine ak.mk (hd) (hc:=hnone _ (by omega)) (h:= ?_) | refine ak.mk (hd) (hc:=hup) (h:= ?_)))));refine RW.nil ⟨by kernel_rfl,au.mk (h:= ?_)⟩)
  refine SW.block ?_
  refine SW.weak (fun n=>if n=4 then 5 else if n=5 then 6 else if n=6 then 7 else n) (st1:=⟨[(17,.fn (.func tree_Tree_up_1.f) [] [.ptr 5 0,.ptr 6 0]),(6,.ptr 4 0),(4,.ptr 3 0)],(3,.box 37 e.cells)::(4,.box 4 [bl false])::(5,.box 105 [.ptr 0 0])::(6,.box 37 d.cells)::fm a ca m cm,7⟩) ⟨by show (3:Nat)≤7;decide,fun n hn=> ?_,?_,?_,?_⟩ ?_
  ·show (if n=4 then 5 else if n=5 then 6 else if n=6 then 7 else n)=n
   rw [if_neg (by omega),if_neg (by omega),if_neg (by omega)]
  ·simp [aY,List.lookup,SV.aC,SV.ok,SV.aW,SV.ay]
  ·simp [uk,aa,Ob.aC,SV.aW,SV.aC,SV.ia,SV.bh,Ob.ok,SV.ay,SV.ok,Dt.ax,Dt.ai,ic,iY,cF,bq]
  ·intro x hx y hy h
   simp only [List.map_cons,List.map_nil,List.mem_cons,List.not_mem_nil,or_false] at hx hy
   rcases hx with rfl | rfl | rfl | rfl | rfl | rfl | rfl <;> rcases hy with rfl | rfl | rfl | rfl | rfl | rfl | rfl <;> simp at h <;> rfl
  refine SW.mL (nk:=1+L.length*(1+1)) [4,6] [.ptr 3 0,.ptr 4 0] rfl ⟨rfl,rfl,trivial⟩ fun ca' cb' hca hcb=> ?_
  have hy:=AY (y:=7) (b4:=3) (b6:=4) (B:=L.length) (by decide) (by decide) (by decide) e hca hcb
  have hsb:=CH (y:=7) (b:=5) (q:=6) (k:=8) (T:=iy a ca m cm) (d:=d) (nV a ca m cm) hL false hy (by simp [jX,Hp.ok,Ob.ok,SV.ay,SV.ok,Dt.ai]) (by decide) (by decide) (by decide) (oR a ca m cm (by decide)) (by rfl) (by rfl) ⟨by rfl,by rfl,by rfl,by rfl,by rfl⟩ rfl
  have hsubF:HSub ((5,Ob.box 105 [.ptr 0 0])::(6,.box 37 d.cells)::TF (iy a ca m cm) (jX 23 7 3 4 e ca' cb' false)) ((7,.kJ 23 [4,6] [.ptr 3 0,.ptr 4 0] [18] ca' cb' .ready none)::(3,.box 37 e.cells)::(4,.box 4 [bl false])::(5,.box 105 [.ptr 0 0])::(6,.box 37 d.cells)::fm a ca m cm):=by
   intro n ob hn
   match n with
   | 0 | 1 | 2 | 3 | 4 | 5 | 6 | 7=>exact hn
   | n+8=>cases hn
  have hsc:=(hsb.here (fun n=>decide (n<8)) (fun n hn=> ?_) (by simp [SV.ay,SV.ok]) ?_ ?_).frame hsubF
  ·refine hsc.mono ?_
   intro r F' h
   obtain ⟨F1,h1,hF'⟩:=h
   obtain ⟨hr,xs,s',hon,hpre,hall,hoff,hF1⟩:=h1
   subst hF1
   have hs:=CL hon
   have hsL:s'=L.any fun x=>decide (x.dot=e):=by
    rw [hs,Bool.false_or]
    cases hs':s' with
    | false=>rw [hall (by rw [hs'];rfl)]
    | true=>
     rw [hs',Bool.false_or] at hs
     rw [← hs]
     obtain ⟨t,rfl⟩:=hpre
     rw [List.any_append,← hs];rfl
   have hlk:=fA (ro:=false) (F':=(5,Ob.box 105 [.ptr 0 0])::(6,.box 37 d.cells)::TF (iy a ca m cm) (jX 23 7 3 4 e ca' cb' s')) hsubF (fun h=>by cases h)
   rw [← hF'] at hlk
   clear hF'
   have hG:∀ n ob,lk ((5,Ob.box 105 [.ptr 0 0])::(6,.box 37 d.cells)::TF (iy a ca m cm) (jX 23 7 3 4 e ca' cb' s')) n=some ob→lk F' n=some ob:=fun n ob h=>by
    rw [hlk,dN (.inr (by rw [h];simp)),h]
   have q4:=hG 4 (.box 4 [bl s']) (by simp [TF,Tr.hp,jX,aa])
   have q0:=hG 0 (.box 166 [.mp 1,.mp 2]) (by simp [TF,Tr.hp,aa])
   have q1:=hG 1 (.map (an Dt.cells cv a) ca) (by simp [TF,Tr.hp,aa])
   have q2:=hG 2 (.map (an Dt.cells ov m) cm) (by simp [TF,Tr.hp,aa])
   refine ⟨Jx s',hG 7 _ (by simp [TF,Tr.hp,jX,aa]),?_⟩
   rw [← hsL]
   have hsub:HSub ((4,.box 4 [bl s'])::fm a ca m cm) (di F' 7):=by
    intro n ob hn
    rw [cR]
    match n,hn with
    | 0,hn=>rw [if_neg (by decide),q0];exact hn
    | 1,hn=>rw [if_neg (by decide),q1];exact hn
    | 2,hn=>rw [if_neg (by decide),q2];exact hn
    | 3,hn=>cases hn
    | 4,hn=>rw [if_neg (by decide),q4];exact hn
    | n+5,hn=>cases hn
   cases s' with
   | true=>
    rw [show Jx true=some .ret from rfl]
    simp only [RQ]
    have q4':=hsub 4 _ rfl
    exact End.mk (ss:=[bl true]) (ob:=wP [bl true] 0 none∧True) (fm a ca m cm) (h1:=by simp only [tree_Tree_Above.rv,Bz,List.lookup,Nat.reduceBEq,fU,q4'];rfl) (h2:=by simp [wP]) (h3:=fun n ob h=>hsub n ob (by rw [aa,if_neg (fun e=>by subst e;cases h)];exact h)) (h4:=⟨rfl,rfl⟩) (h5:=by simp [eP,SV.ok]) (h6:=cW a ca m cm (by omega)) (h7:=by show 3+(6+L.length*(1+1))≤7+1+(1+L.length*(1+1));omega)
   | false=>
    rw [show Jx false=none from rfl]
    simp only [RQ]
    refine SW.weak id (st1:=⟨[(6,.ptr 4 0)],(4,.box 4 [bl false])::fm a ca m cm,8+(1+L.length*(1+1))⟩) (aJ.same (by show 3≤8+(1+L.length*(1+1));omega) (by simp [aY,List.lookup,SV.aC,SV.ok];omega) (av (by simp;omega) (by simp [Ob.ok,SV.ay,SV.ok]) (cW a ca m cm (by show 3≤8+(1+L.length*(1+1));omega))) (fun x hx=> ?_)) ?_
    ·refine hsub _ _ ?_
     simp only [List.mem_cons,List.not_mem_nil,or_false] at hx
     rcases hx with rfl | rfl | rfl | rfl <;> rfl
    ·refine SW.seq ?_
     refine SW.g0 [0,1,2,4,5,6,7,14,17,18,22] mixed af ?_
     refine SW.ret ?_
     exact End.mk (fm a ca m cm) (h3:=HSub.cons rfl (HSub.cons rfl (HSub.cons rfl (HSub.nil _)))) (h4:=⟨rfl,rfl⟩) (h6:=cW a ca m cm (by omega)) (h7:=by show 3+(6+L.length*(1+1))≤8+(1+L.length*2);omega)
  ·match n,hn with
   | 0,_ | 1,_ | 2,_ | 3,_ | 4,_ | 5,_ | 6,_ | 7,_=>simp [TF,Tr.hp,jX,aa]
   | n +8,h=>
     have:n+8<8:=by simpa using h
     omega
  ·refine av rfl (by simp [Ob.ok,SV.ay,SV.ok]) (av rfl (by simp [Ob.ok,Dt.ai]) ?_)
   have h1:(iy a ca m cm).hp.ok (fun n=>decide (n<8))=true:=Tr.rR (oR a ca m cm (by decide))
   have h2:(jX 23 7 3 4 e ca' cb' false).ok (fun n=>decide (n<8))=true:=by simp [jX,Hp.ok,Ob.ok,SV.ay,SV.ok,SV.bh,Dt.ai]
   unfold Hp.ok at*
   rw [TF,List.all_append,h1,h2];rfl
  ·rintro r F' _ h1 h2
   refine ⟨SV.eT (fun n hn=> ?_) _ h1,Hp.dy (fun n hn=> ?_) h2⟩ <;> (simp at hn ⊢;omega)
 ·obtain rfl:e=d:=by simpa using hd
  refine SW.seq ?_
  (refine SW.dL [0,1,2,4,5,6,7,14,17,18,22] mixed ?_;(repeat (first | refine RW.ro af (h:= ?_) | refine RW.skip (h:= ?_) | refine RW.op af (h:= ?_) | refine RW.eF af (h:= ?_) | refine RW.bH (h:= ?_) | (refine RW.bJ (h:= ?_);(first | refine ak.mk af (hc:=hnone _ (by omega)) (h:= ?_)))));refine RW.nil ⟨by kernel_rfl,au.mk (h:= ?_)⟩)
  refine SW.seq (SW.seq ?_)
  (refine SW.dL [0,1,2,4,5,6,7,14,17,18,22] mixed ?_;(repeat (first | refine RW.ro af (h:= ?_) | refine RW.skip (h:= ?_) | refine RW.op af (h:= ?_) | refine RW.eF af (h:= ?_) | refine RW.bH (h:= ?_) | (refine RW.bJ (h:= ?_);(first | refine ak.mk af (hc:=hnone _ (by omega)) (h:= ?_)))));refine RW.nil ⟨by kernel_rfl,au.mk (h:= ?_)⟩)
  refine SW.ah rfl (SW.seq ?_)
  (refine SW.dL [0,1,2,4,5,6,7,14,17,18,22] mixed ?_;(repeat (first | refine RW.ro af (h:= ?_) | refine RW.skip (h:= ?_) | refine RW.op af (h:= ?_) | refine RW.eF af (h:= ?_) | refine RW.bH (h:= ?_) | (refine RW.bJ (h:= ?_);(first | refine ak.mk af (hc:=hnone _ (by omega)) (h:= ?_)))));refine RW.nil ⟨by kernel_rfl,au.mk (h:= ?_)⟩)
  refine SW.weak id (st1:=⟨[(6,.ptr 5 0)],(5,.box 4 [bl false])::fm a ca m cm,3+(6+L.length*(1+1))⟩) (aJ.same (by show 3≤3+(6+L.length*(1+1));omega) (by simp [aY,List.lookup,SV.aC,SV.ok];omega) (av (by simp;omega) (by simp [Ob.ok,SV.ay,SV.ok]) (cW a ca m cm (by show 3≤3+(6+L.length*(1+1));omega))) (fun x hx=> ?_)) (SW.ret ?_)
  ·simp only [List.mem_cons,List.not_mem_nil,or_false] at hx
   rcases hx with rfl | rfl | rfl | rfl <;> rfl
  ·exact End.mk (fm a ca m cm) (h3:=HSub.cons rfl (HSub.cons rfl (HSub.cons rfl (HSub.nil _)))) (h4:=⟨by simp only [Bool.not_true,Bool.false_and];rfl,rfl⟩) (h6:=cW a ca m cm (by omega)) (h7:=Nat.le_refl _)
theorem CN {T:Tr}(hs:T.sep)(e d:Dt)(L:List Cr)(hL:rS T.at_ (MM.get T.at_ d) L)(hlen:L.length<1000000)(k:Nat):aM Tryz.prog tree_Tree_Above.f [.ptr T.bx 0,.agg e.cells,.agg d.cells] T.hp k (6+L.length*(1+1)) (bl (mT T.at_ e d L)) T.hp:=by
 have h:=SB.qA [T.bx,T.ma,T.mm] (CM T.at_ T.ca T.made T.cm e d L hL hlen) (Tr.Jq hs) (qK _ _ _ _) k
 rw [l7] at h
 simp only [SV.aW,SV.aC,Dt.ax] at h
 exact h
end
section
def Jy (a:MM Dt Cr):Prop:=∀ d c p,MM.get a d=some c→0<c.level→MM.get a c.par=some p→p.level<c.level
end
end Go.Proofs.YtaelhkkjgfobhaaGreat
