/-
 Trees of credentials: the credentials above one.
-/
import Derived.Test.YtaelhkkjgfobhaaGreatP6
import Derived.Test.YtaelhkkjgfobhaaGreatPB
import Derived.Test.YtaelhkkjgfobhaaGreatP5
set_option linter.unusedSectionVars false
set_option linter.unusedVariables false
set_option linter.unusedSimpArgs false
namespace Go.Proofs.YtaelhkkjgfobhaaGreat
open Go.Sl Go.Proofs
section
attribute [local irreducible] SW RW aF SC ai aq
inductive mE (a:MM Dt Cr):Option Cr→List Cr→Prop where
 | none:mE a none []
 | root (c:Cr): ¬ 0<c.level→mE a (some c) [c]
 | more (c:Cr) (L:List Cr):0<c.level→mE a (MM.get a c.par) L→mE a (some c) (c::L)
def TF (T:Tr)(F:Hp):Hp:=T.hp++F
structure JH (T:Tr)(b q:Nat)(F:Hp):Prop where
 b:lk F b=none
 q:lk F q=none
 x:lk F T.bx=none
 a:lk F T.ma=none
 m:lk F T.mm=none
theorem TF.NU {T:Tr}{F:Hp}{n:Nat}{ob:Ob}(h:lk T.hp n=some ob):lk (TF T F) n=some ob:=by
 show List.lookup n (T.hp++F)=some ob;rw [List.lookup_append,show List.lookup n T.hp=some ob from h];rfl
theorem TF.NV {T:Tr}{F:Hp}{n:Nat}(h:lk T.hp n=none):lk (TF T F) n=lk F n:=by
 show List.lookup n (T.hp++F)=_;rw [List.lookup_append,show List.lookup n T.hp=none from h];rfl
theorem TF.ok {T:Tr}{F:Hp}{k:Nat}(h1:T.lt k)(h2:F.ok (fun n=>decide (n<k))=true):(TF T F).ok (fun n=>decide (n<k))=true:=by
 have h1:=Tr.xD h1;unfold Hp.ok at*;rw [TF,List.all_append,h1,h2];rfl
structure Mw {σ:Type}(Fh:σ→Hp)(Step:σ→Cr→σ→Prop)(go:σ→Bool)(T:Tr)(aQ b q k:Nat)(L:List Cr)(s0 s:σ)(xs:List Cr)(oc:Option Cr)(rest:List Cr)(cn kk:Nat):Prop where
 p1:lF Step s0 xs s
 p2:go s=true
 p3:xs++rest=L
 p4:mE T.at_ oc rest
 p5:k≤cn∧cn<kk
 p6:kk≤k+1+xs.length*(1+aQ)
 p7:(Fh s).ok (fun n=>decide (n<kk))=true
 p8:JH T b q (Fh s)
 p9:lk (Fh s) cn=none
set_option maxHeartbeats 2000000 in
theorem EU {σ :Type}{Fh:σ→Hp}{Step:σ→Cr→σ→Prop}{go:σ→Bool}{aQ y b q k:Nat}{T:Tr}{L:List Cr}{d:Dt}(hT:T.sep)(hL:mE T.at_ (MM.get T.at_ d) L)(s0:σ)(hy:pE Tryz.prog y (fun x:Cr=> .agg x.cells) aQ Fh Step go s0 L.length)(h0:(Fh s0).ok (fun n=>decide (n<k))=true)
  (hb:b<k) (hq:q<k) (OF:b≠q) (DO:T.lt k) (Mx:lk T.hp b=none) (My:lk T.hp q=none) (hoff:JH T b q (Fh s0)) (vz:go s0=true):
  SB Tryz.prog tree_Tree_up_1.f [.yl y,.ptr b 0,.ptr q 0] ((b,.box 105 [.ptr T.bx 0])::(q,.box 37 d.cells)::TF T (Fh s0)) k (1+L.length*(1+aQ))
   fun r F=>r= .dm []∧∃ (xs:List Cr) (s':σ),lF Step s0 xs s'∧xs <+: L∧(go s'=true→xs=L)∧JH T b q (Fh s')∧F=(b,.box 105 [.ptr T.bx 0])::(q,.box 37 d.cells)::TF T (Fh s'):=by
 have hyk:y<k:=by
  obtain ⟨ob,ho⟩:=Option.ne_none_iff_exists'.1 (hy.vD s0)
  simpa using (Hp.eW h0 ho).1
 have hokT:∀ (s:σ) (kx:Nat),k≤kx→(Fh s).ok (fun n=>decide (n<kx))=true→Hp.ok (fun n=>decide (n<kx)) ((b,.box 105 [.ptr T.bx 0])::(q,.box 37 d.cells)::TF T (Fh s))=true:=fun s kx hkx h=>by
  have h1:=TF.ok (T:=T) ⟨Nat.lt_of_lt_of_le DO.b hkx,Nat.lt_of_lt_of_le DO.a hkx,Nat.lt_of_lt_of_le DO.m hkx⟩ h;have:=DO.b;unfold Hp.ok at*;simp only [List.all_cons,Ob.ok,SV.ax,SV.ok,Dt.ak,Bool.and_true,Bool.and_eq_true,decide_eq_true_eq];exact ⟨⟨by omega,by omega⟩,by omega,h1⟩
 refine tree_Tree_up_1.enter (by simp [SV.ok,SV.ax];omega) (hokT s0 k (Nat.le_refl _) h0) (by simp) ?_;dsimp only [tree_Tree_up_1.s,Co.M,Co.G,Co.J,Co.H,Co.F,Co.Z,Co.b8,Co.av,Co.bC,Co.i6,Co.T,Co.K,Co.E,Co.W,Co.U,Co.D,Co.A,Co.S];have f1:=cQ OF;have tb:T.bx≠b:=fun e=>by rw [← e,Tr.JG] at Mx;cases Mx
 have tq:T.bx≠q:=fun e=>by rw [← e,Tr.JG] at My;cases My
 have ta:T.ma≠b:=fun e=>by rw [← e,Tr.LQ hT] at Mx;cases Mx
 have taq:T.ma≠q:=fun e=>by rw [← e,Tr.LQ hT] at My;cases My
 have f2:=cQ tb;have f3:=cQ tq;have f4:=cQ ta;have f5:=cQ taq;have u1:∀ F,List.lookup T.bx (TF T F)=some (.box 166 [.mp T.ma,.mp T.mm]):=fun F=>TF.NU T.JG
 have u2:∀ F,List.lookup T.ma (TF T F)=some T.oa:=fun F=>TF.NU (Tr.LQ hT)
 have g0:List.lookup k (TF T (Fh s0))=none:=Hp.out (TF.ok DO h0) (Nat.le_refl _);have g1:=cQ (show k≠b by omega);have g2:=cQ (show k≠q by omega);have:=DO.b;have:=DO.a;have:=DO.m;have g3:=cQ (show k≠T.bx by omega);have g4:=cQ (show k≠T.ma by omega);refine SW.seq ?_;refine SW.gK [0,1,2,4,5,25,36] mixed (And.intro (f1) (And.intro (f2) (And.intro (f3) (And.intro (f4) (And.intro (f5) (And.intro (u1) (And.intro (u2) (And.intro (g0) (And.intro (g1) (g2)))))))))) (And.intro f1 (And.intro f2 (And.intro f3 (And.intro f4 (And.intro f5 (And.intro g1 (And.intro g2 (And.intro g3 g4)))))))) True.intro ?_;refine SW.block ?_;have n9 :∀ (s:σ) (xs:List Cr) (cn kk:Nat) (cs:List SV),k≤cn→cn<kk→(Fh s).ok (fun n=>decide (n<kk))=true→lk (Fh s) cn=none→JH T b q (Fh s)→∀ x,x∈((cn,Ob.box 158 cs)::(b,.box 105 [.ptr T.bx 0])::(q,.box 37 d.cells)::TF T (Fh s))→lk ((cn,Ob.box 158 cs)::(b,.box 105 [.ptr T.bx 0])::(q,.box 37 d.cells)::TF T (Fh s)) x.1=some x.2:=by
  intro s xs cn kk cs h1 h2 h3 h4 h5 x hx;have:=DO.b;have:=DO.a;have:=DO.m;have c1:=cQ (show cn≠b by omega);have c2:=cQ (show cn≠q by omega);have c3:=cQ (show b≠q from OF);simp only [List.mem_cons] at hx;rcases hx with rfl | rfl | rfl | hx
  ·simp [aa]
  ·simp [aa,c1]
  ·simp [aa,c2,c3]
  ·rcases List.mem_append.1 hx with hx | hx
   ·have hl:=aG (Tr.nd hT) x hx
    have c4:x.1≠b:=fun e=>by rw [e,Mx] at hl;cases hl
    have c5:x.1≠q:=fun e=>by rw [e,My] at hl;cases hl
    have c6:x.1≠cn:=fun e=>by
     have:=(Hp.eW (Tr.xD DO) hl).1;simp at this;omega
    rw [aa,if_neg c6,aa,if_neg c4,aa,if_neg c5];exact TF.NU hl
   ·have hl:=hy.nd s x hx
    have c4:x.1≠b:=fun e=>by rw [e,h5.b] at hl;cases hl
    have c5:x.1≠q:=fun e=>by rw [e,h5.q] at hl;cases hl
    have c6:x.1≠cn:=fun e=>by rw [e,h4] at hl;cases hl
    have c7:lk T.hp x.1=none:=by
     have e1:x.1≠T.bx:=fun e=>by rw [e,h5.x] at hl;cases hl
     have e2:x.1≠T.ma:=fun e=>by rw [e,h5.a] at hl;cases hl
     have e3:x.1≠T.mm:=fun e=>by rw [e,h5.m] at hl;cases hl
     rw [Tr.hp,aa,if_neg e1,aa,if_neg e2,aa,if_neg e3];rfl
    rw [aa,if_neg c6,aa,if_neg c4,aa,if_neg c5,TF.NV c7];exact hl
 have g5:lk (Fh s0) k=none:=Hp.out h0 (Nat.le_refl _);have hokC:∀ (s:σ) (cn kk:Nat) (c:Cr),k≤cn→cn<kk→(Fh s).ok (fun n=>decide (n<kk))=true→Hp.ok (fun n=>decide (n<kk)) ((cn,Ob.box 158 c.cells)::(b,.box 105 [.ptr T.bx 0])::(q,.box 37 d.cells)::TF T (Fh s))=true:=fun s cn kk c h1 h2 h3=>by
  have h4:=hokT s kk (by omega) h3;unfold Hp.ok at*;rw [List.all_cons,h4];simp only [Ob.ok,Cr.ak,Bool.and_true,decide_eq_true_eq];exact h2
 refine SW.loop (α:={i:σ×List Cr×Option Cr×List Cr×Nat×Nat // Mw Fh Step go T aQ b q k L s0 i.1 i.2.1 i.2.2.1 i.2.2.2.1 i.2.2.2.2.1 i.2.2.2.2.2})
  (fun i=>⟨[(5,bl i.1.2.2.1.isSome),(4,.ptr i.1.2.2.2.2.1 0),(0,.yl y),(1,.ptr b 0),(2,.ptr q 0)],(i.1.2.2.2.2.1,.box 158 (i.1.2.2.1.getD Cr.zero).cells)::(b,.box 105 [.ptr T.bx 0])::(q,.box 37 d.cells)::TF T (Fh i.1.1),i.1.2.2.2.2.2⟩)
  (fun i=>i.1.2.2.2.1.length) ⟨(s0,[],MM.get T.at_ d,L,k,k+1),⟨.nil,vz,rfl,hL,⟨Nat.le_refl _,Nat.lt_succ_self _⟩,by simp,Hp.bB (by simp) h0,hoff,?_⟩⟩ id ?_ ?_
 ·exact g5
 ·refine aK.same (by simp) (by simp [bp,lE,List.lookup,SV.aC,SV.ok,MM.has];omega) ?_ (n9 s0 [] k (k+1) _ (Nat.le_refl _) (Nat.lt_succ_self _) (Hp.bB (by simp) h0) g5 hoff)
  exact hokC s0 k (k+1) _ (Nat.le_refl _) (Nat.lt_succ_self _) (Hp.bB (by simp) h0)
 ·rintro ⟨⟨s,xs,oc,rest,cn,kk⟩,hi⟩
  have hi:Mw Fh Step go T aQ b q k L s0 s xs oc rest cn kk:=hi;obtain ⟨p1,p2,p3,p4,p5,p6,p7,p8,p9⟩:=hi;dsimp only at*;have hlen:xs.length+rest.length=L.length:=by rw [← p3,List.length_append]
  have hpos:∀ n:Nat,n≤L.length→n*(1+aQ)≤L.length*(1+aQ):=fun n h=>Nat.mul_le_mul_right _ h
  have c1:=cQ (show cn≠b by omega);have c2:=cQ (show cn≠q by omega);have c3:=cQ (show cn≠T.bx by omega);have c4:=cQ (show cn≠T.ma by omega);have hout:=n9 s xs cn kk;have w1:=hpos xs.length (by omega);have hcn:lk ((b,Ob.box 105 [.ptr T.bx 0])::(q,.box 37 d.cells)::TF T (Fh s)) cn=none:=by
   rw [aa,if_neg (by omega),aa,if_neg (by omega),TF.NV (by
    rw [Tr.hp,aa,if_neg (by omega),aa,if_neg (by omega),aa,if_neg (by omega)];rfl)]
   exact p9
  have hend:∀ (s':σ) (xs':List Cr) (env:List (Nat×SV)) (Jt LS:Nat) (cs:List SV) (Q:Exit→St→Prop),k≤LS→LS<Jt→Jt≤k+(1+L.length*(1+aQ))→(Fh s').ok (fun n=>decide (n<Jt))=true→lk (Fh s') LS=none→JH T b q (Fh s')→
    (Q (.exit 0) ⟨[],(b,Ob.box 105 [.ptr T.bx 0])::(q,.box 37 d.cells)::TF T (Fh s'),k+(1+L.length*(1+aQ))⟩)→Go.Sl.SW Tryz.prog 37 k (.exit 0) ⟨env,(LS,Ob.box 158 cs)::(b,.box 105 [.ptr T.bx 0])::(q,.box 37 d.cells)::TF T (Fh s'),Jt⟩ Q:=by
   intro s' xs' env Jt LS cs Q h1 h2 h3 h4 h5 h6 h7;refine SW.weak id (st1:=⟨[],(b,Ob.box 105 [.ptr T.bx 0])::(q,.box 37 d.cells)::TF T (Fh s'),k+(1+L.length*(1+aQ))⟩) (aK.same (Nat.le_add_right _ _) trivial (hokT s' _ (Nat.le_add_right _ _) (Hp.bB h3 h4)) fun x hx=> ?_) (SW.exit h7);exact n9 s' [] LS Jt cs h1 h2 h4 h5 h6 x (List.mem_cons_of_mem _ hx)
  have hfin:∀ (s':σ) (xs':List Cr),lF Step s0 xs' s'→xs' <+: L→(go s'=true→xs'=L)→JH T b q (Fh s')→(Fh s').ok (fun n=>decide (n<k+(1+L.length*(1+aQ))))=true→
    Go.Sl.Fin k (1+L.length*(1+aQ)) [] (fun r F=>r= .dm []∧∃ (xs:List Cr) (s':σ),lF Step s0 xs s'∧xs <+: L∧(go s'=true→xs=L)∧JH T b q (Fh s')∧F=(b,.box 105 [.ptr T.bx 0])::(q,.box 37 d.cells)::TF T (Fh s')) ⟨[],(b,Ob.box 105 [.ptr T.bx 0])::(q,.box 37 d.cells)::TF T (Fh s'),k+(1+L.length*(1+aQ))⟩:=by
   intro s' xs' h1 h2 h3 h4 h5;exact End.mk ((b,Ob.box 105 [.ptr T.bx 0])::(q,.box 37 d.cells)::TF T (Fh s')) (h3:=fun _ _ h=>h) (h4:=⟨rfl,xs',s',h1,h2,h3,h4,rfl⟩) (h6:=hokT s' _ (Nat.le_add_right _ _) h5) (h7:=Nat.le_refl _)
  have hc:(oc=none∧rest=[])∨∃ c R,oc=some c∧rest=c::R∧(0<c.level→mE T.at_ (MM.get T.at_ c.par) R)∧(¬ 0<c.level→R=[]):=by
   cases p4 with
   | none=>exact .inl ⟨rfl,rfl⟩
   | root c hc=>exact .inr ⟨c,[],rfl,rfl,fun h=>absurd h hc,fun _=>rfl⟩
   | more c R hc hR=>exact .inr ⟨c,R,rfl,rfl,fun _=>hR,fun h=>absurd hc h⟩
  rcases hc with ⟨rfl,rfl⟩ | ⟨c,R,rfl,rfl,hm,hr⟩
  ·refine SW.seq (SW.seq ?_)
   refine SW.gK [0,1,2,4,5,25,36] mixed af (And.intro f1 (And.intro f2 (And.intro f3 (And.intro f4 (And.intro f5 (And.intro g1 (And.intro g2 (And.intro g3 g4)))))))) True.intro ?_;refine SW.ah rfl (hend s xs _ kk cn _ _ p5.1 p5.2 (by omega) p7 p9 p8 ?_);dsimp only;rw [if_pos rfl];exact hfin s xs p1 (by rw [← p3,List.append_nil];exact List.prefix_rfl) (fun _=>by rw [← p3,List.append_nil]) p8 (Hp.bB (by omega) p7)
  ·simp only [List.length_cons] at hlen
   have w2:=hpos (xs.length+1) (by omega);rw [Nat.add_mul,Nat.one_mul] at w2;refine SW.seq (SW.seq (SW.vC ?_));(repeat (first | refine bu.op af (h:= ?_) | refine bu.dD af (h:= ?_) | refine bu.skip (h:= ?_)));have hsub:HSub (Fh s) ((cn,Ob.box 158 c.cells)::(b,.box 105 [.ptr T.bx 0])::(q,.box 37 d.cells)::TF T (Fh s)):=fun n ob hn=>by
    have h1:n≠cn:=fun e=>by rw [e,p9] at hn;cases hn
    have h2:n≠b:=fun e=>by rw [e,p8.b] at hn;cases hn
    have h3:n≠q:=fun e=>by rw [e,p8.q] at hn;cases hn
    have h4:n≠T.bx:=fun e=>by rw [e,p8.x] at hn;cases hn
    have h5:n≠T.ma:=fun e=>by rw [e,p8.a] at hn;cases hn
    have h6:n≠T.mm:=fun e=>by rw [e,p8.m] at hn;cases hn
    rw [aa,if_neg h1,aa,if_neg h2,aa,if_neg h3,TF.NV (by rw [Tr.hp,aa,if_neg h4,aa,if_neg h5,aa,if_neg h6];rfl)];exact hn
   refine bu.AD (by simp only [List.lookup,Nat.reduceBEq] <;> rfl) (by simp only [ev,List.lookup,Nat.reduceBEq] <;> rfl) (by simp only [ev,pY,List.lookup,Nat.reduceBEq] <;> rfl) (hy.vD s) (hy.call s xs c kk p1 (by omega) p7 p2) hsub ?_;rintro v F' ⟨s',hstep,rfl,rfl,hok',hnm⟩;rw [g_];have hno:∀ n,n<kk→lk (Fh s) n=none→lk (Fh s') n=none:=fun n h1 h2=>Classical.byContradiction fun hn=>(hnm n hn).elim (fun h=>h h2) (fun h=>by omega)
   have q8:JH T b q (Fh s'):=⟨hno _ (by omega) p8.b,hno _ (by omega) p8.q,hno _ (by omega) p8.x,hno _ (by omega) p8.a,hno _ (by omega) p8.m⟩;have q9:=hno cn (by omega) p9;have q1:=lF.snoc p1 hstep;have hlk:=iy (ro:=false) hsub (F':=Fh s') (fun h=>by cases h);have hin:∀ z,z∈((cn,Ob.box 158 c.cells)::(b,.box 105 [.ptr T.bx 0])::(q,.box 37 d.cells)::TF T (Fh s'))→lk (bS false ((cn,Ob.box 158 c.cells)::(b,.box 105 [.ptr T.bx 0])::(q,.box 37 d.cells)::TF T (Fh s)) (Fh s) (Fh s')) z.1=some z.2:=by
    intro z hz;rw [hlk];simp only [List.mem_cons] at hz;rcases hz with rfl | rfl | rfl | hz
    ·rw [dF p9 q9];simp [aa]
    ·rw [dF p8.b q8.b];exact n9 s xs cn kk c.cells p5.1 p5.2 p7 p9 p8 (b,Ob.box 105 [.ptr T.bx 0]) (by simp)
    ·rw [dF p8.q q8.q];exact n9 s xs cn kk c.cells p5.1 p5.2 p7 p9 p8 (q,Ob.box 37 d.cells) (by simp)
    ·rcases List.mem_append.1 hz with hz | hz
     ·have hx:z.1=T.bx∨z.1=T.ma∨z.1=T.mm:=by
       simp only [Tr.hp,List.mem_cons,List.not_mem_nil,or_false] at hz;rcases hz with rfl | rfl | rfl <;> simp
      have e1:lk (Fh s) z.1=none:=by rcases hx with e | e | e <;> rw [e] <;> first | exact p8.x | exact p8.a | exact p8.m
      have e2:lk (Fh s') z.1=none:=by rcases hx with e | e | e <;> rw [e] <;> first | exact q8.x | exact q8.a | exact q8.m
      rw [dF e1 e2];exact n9 s xs cn kk c.cells p5.1 p5.2 p7 p9 p8 _ (by simp only [List.mem_cons];exact .inr (.inr (.inr (List.mem_append_left _ hz))))
     ·have:=hy.nd s' z hz
      rw [fq (.inr (by rw [this];simp)),this]
   refine SW.O3 (st1:=⟨[(19,bl (go s')),(16,bl true),(5,bl true),(4,.ptr cn 0),(0,.yl y),(1,.ptr b 0),(2,.ptr q 0)],(cn,Ob.box 158 c.cells)::(b,.box 105 [.ptr T.bx 0])::(q,.box 37 d.cells)::TF T (Fh s'),kk+aQ⟩) (aK.same (by show k≤kk+aQ;omega) (by simp [bp,lE,qZ,List.lookup,SV.aC,SV.ok];omega) (hokC s' cn (kk+aQ) c p5.1 (by omega) hok') hin) ?_;rcases hg:go s' with _ | _
   ·(repeat (first | refine bu.op af (h:= ?_) | refine bu.dD af (h:= ?_) | refine bu.skip (h:= ?_)))
    refine bu.nil ?_;refine SW.ah rfl (hend s' (xs++[c]) _ (kk+aQ) cn _ _ p5.1 (by omega) (by omega) hok' q9 q8 ?_);dsimp only;rw [if_pos rfl];exact hfin s' (xs++[c]) q1 (by rw [← p3];exact ⟨R,by simp⟩) (fun h=>by rw [hg] at h;cases h) q8 (Hp.bB (by omega) hok')
   ·rcases hlv:decide (c.level>0) with _ | _
    ·(repeat (first | refine bu.op (hlv) (h:= ?_) | refine bu.dD (hlv) (h:= ?_) | refine bu.skip (h:= ?_)))
     refine bu.nil ?_;refine SW.ah rfl (hend s' (xs++[c]) _ (kk+aQ) cn _ _ p5.1 (by omega) (by omega) hok' q9 q8 ?_);dsimp only;rw [if_pos rfl];have hR:=hr (by simpa using hlv);exact hfin s' (xs++[c]) q1 (by rw [← p3,hR];exact List.prefix_rfl) (fun _=>by rw [← p3,hR]) q8 (Hp.bB (by omega) hok')
    ·(repeat (first | refine bu.op (hlv) (h:= ?_) | refine bu.dD (hlv) (h:= ?_) | refine bu.skip (h:= ?_)))
     refine bu.nil ?_;refine SW.aj rfl (SW.skip ?_);have z1:=cQ (show kk+aQ≠cn by omega);have z2:=cQ (show kk+aQ≠b by omega);have z3:=cQ (show kk+aQ≠q by omega);have z4:List.lookup (kk+aQ) (TF T (Fh s'))=none:=Hp.out (TF.ok (T:=T) ⟨by omega,by omega,by omega⟩ hok') (Nat.le_refl _);refine SW.seq (SW.block ?_);refine SW.gK [0,1,2,4,5,25,36] mixed (And.intro (c1) (And.intro (c2) (And.intro (c3) (And.intro (c4) (And.intro (f1) (And.intro (f2) (And.intro (f3) (And.intro (f4) (And.intro (f5) (And.intro (u1) (u2))))))))))) (And.intro c1 (And.intro c2 (And.intro c3 (And.intro c4 (And.intro f1 (And.intro f2 (And.intro f3 (And.intro f4 f5)))))))) True.intro ?_;refine SW.seq ?_;refine SW.gK [0,1,2,4,5,25,36] mixed af (And.intro c1 (And.intro c2 (And.intro c3 (And.intro c4 (And.intro f1 (And.intro f2 (And.intro f3 (And.intro f4 f5)))))))) True.intro ?_;refine SW.gK [0,1,2,4,5,25,36] mixed (And.intro (z1) (And.intro (z2) (And.intro (z3) (And.intro (z4) (f1))))) (And.intro c1 (And.intro c2 (And.intro c3 (And.intro c4 (And.intro f1 (And.intro f2 (And.intro f3 (And.intro f4 f5)))))))) True.intro ?_;refine ⟨⟨(s',xs++[c],MM.get T.at_ c.par,R,kk+aQ,kk+aQ+1),q1,hg,by rw [← p3];simp,hm (by simpa using hlv),⟨by show k≤kk+aQ;omega,Nat.lt_succ_self _⟩,by
      show kk+aQ+1≤k+1+(xs++[c]).length*(1+aQ);rw [List.length_append,List.length_singleton,Nat.add_mul,Nat.one_mul];omega,Hp.bB (by simp) hok',q8,Hp.out hok' (Nat.le_refl _)⟩,id,Nat.lt_succ_self _,aK.same (by show k≤kk+aQ+1;omega) (by simp [bp,List.lookup,SV.aC,SV.ok,MM.has];omega) (hokC s' (kk+aQ) (kk+aQ+1) _ (by omega) (Nat.lt_succ_self _) (Hp.bB (by simp) hok')) (fun x hx=> ?_)⟩
     have hx:x∈((kk+aQ,Ob.box 158 ((MM.get T.at_ c.par).getD Cr.zero).cells)::(b,.box 105 [.ptr T.bx 0])::(q,.box 37 d.cells)::TF T (Fh s')):=hx;rcases List.mem_cons.1 hx with rfl | hx
     ·exact ew
     ·have h1:=n9 s' [] cn (kk+aQ) ((MM.get T.at_ c.par).getD Cr.zero).cells p5.1 (by omega) hok' q9 q8 x (List.mem_cons_of_mem _ hx)
      have h2:=(Hp.eW (hokC s' cn (kk+aQ) ((MM.get T.at_ c.par).getD Cr.zero) p5.1 (by omega) hok') h1).1;rw [aa,if_neg (by simp at h2;omega)];exact h1
end
section
attribute [local irreducible] SW RW aF SC ai aq
structure EV (y bx:Nat) where
 l:List Dt
 rn:Nat
 h1:rn≠y
 h2:rn≠bx
def iO (y bx N:Nat)(ts ps:List Nat)(ca cb:Code)(s:EV y bx):Hp:=
 [(y,.pT N ts [.ptr bx 0] ps ca cb .ready none),(bx,.box 31 [.gs s.rn s.l.length]),(s.rn,.arr 37 2 s.l.length ((s.l.flatMap Dt.ds).map .d))]
set_option maxHeartbeats 1000000 in
theorem Cy {y bx B:Nat}(Mz:y≠bx)(s0:EV y bx)(hB:s0.l.length+B<4611686018427){ca cb:Code}
    (hca:cK Tryz.prog 29 ca=some (.fm [⟨some 9,.alloc 158 [.d (.int .u8 0),.d (.int .u32 0),.d (.int .u8 0),.d (.int .u32 0),.d (.int .u8 0),.d (.int .u32 0),.d (.int .u32 0),.d (.int .u8 0),.d (.int .u8 0),.d (.int .u64 0),.d (.int .i64 0)],none⟩,⟨none,.store 11 (.t 9) (.t 22),none⟩] (nV 2) false))
    (hcb:cK Tryz.prog 29 cb=some (.block 1 (.fm [⟨some 23,.load none (.t 8),none⟩,⟨some 24,.aX 0 (.t 9),none⟩,⟨some 25,.load (some 2) (.t 24),none⟩,⟨some 26,.lB 37 2 1 [.d (.int .u8 0),.d (.int .u32 0)] [(0,2,.t 25)],none⟩,⟨some 27,.app 37 2 8 (.t 23) (.t 26),none⟩,⟨none,.store 1 (.t 8) (.t 27),none⟩] (nV 6) false))):
    pE Tryz.prog y (fun x:Cr=> .agg x.cells) 2 (iO y bx 29 [8] [22] ca cb) (fun s x s'=>s'.l=s.l++[x.dot]) (fun _=>true) s0 B:=by
  refine ⟨fun s=>by simp [iO,aa],fun s x hx=> ?_,fun s xs x k hon hlt hok _=> ?_⟩
  · have f1:=cQ Mz
    have f2:=cQ s.h1;have f3:=cQ s.h2;simp only [iO,List.mem_cons,List.not_mem_nil,or_false] at hx;rcases hx with rfl | rfl | rfl <;> simp [iO,aa,f1,f2,f3]
  · have hlen:s.l.length=s0.l.length+xs.length:=by
      clear hlt hok
      induction hon with
      | nil=>rfl
      | snoc _ h ih=>rw [h];simp [ih];omega
    obtain ⟨l,rn,h1,h2⟩:=s;simp only at hlen;simp only [iO,Hp.ok,List.all_cons,List.all_nil,Ob.ok,SV.ax,SV.ok,SV.br,Bool.and_true,Bool.and_eq_true,decide_eq_true_eq] at hok;obtain ⟨⟨k1,_⟩,⟨k2,_⟩,k3⟩:=hok;have f1:=cQ Mz;have f2:=cQ h1;have f3:=cQ h2;have g1:=cQ (show k≠y by omega);have g2:=cQ (show k≠bx by omega);have g3:=cQ (show k≠rn by omega);have g4:=cQ (show k+1≠k by omega);have g5:=cQ (show k+1≠y by omega);have g6:=cQ (show k+1≠bx by omega);have g7:=cQ (show k+1≠rn by omega);refine DN.here (fun n=>n == y || n == bx || n == rn) (DN.tF (cs:=[.ptr bx 0]) (H:=[(bx,.box 31 [.gs rn l.length]),(rn,.arr 37 2 l.length ((l.flatMap Dt.ds).map .d))]) hca hcb rfl rfl rfl (by simp) k1 (by simp [aa,bE,f1,f2]) (by simp [SV.ax,SV.ok]) (by simp [Hp.ok,Ob.ok,SV.ax,SV.ok,SV.br];omega) (by simp [SV.ax,SV.ok];omega) ?_) ?_ (by simp [SV.ax,SV.ok]) (by simp [iO,Hp.ok,Ob.ok,SV.ax,SV.ok,SV.br]) ?_
    · skip
      show Go.Sl.SW _ _ _ _ ⟨[(22,.agg x.cells),(8,.ptr bx 0)],_,_⟩ _;refine SW.g0 [8,9,22] mixed (And.intro (f1) (And.intro (f2) (And.intro (f3) (And.intro (g1) (And.intro (g2) (g3)))))) ?_;refine ⟨rfl,SW.block ?_⟩;refine SW.g0 [8,9,22] mixed (And.intro (f1) (And.intro (f2) (And.intro (f3) (And.intro (g1) (And.intro (g2) (And.intro (g3) (And.intro (g4) (And.intro (g5) (And.intro (g6) (g7)))))))))) ?_;have e2:((l++[x.dot]).flatMap Dt.ds).map SV.d=(List.flatMap Dt.ds l).map SV.d++x.dot.ds.map SV.d:=by simp
      refine ⟨none,true,[(bx,.box 31 [.gs (k+1) (l++[x.dot]).length]),(k+1,.arr 37 2 (l++[x.dot]).length (((l++[x.dot]).flatMap Dt.ds).map .d))],⟨rfl,rfl⟩,?_,?_,by simp,⟨⟨l++[x.dot],k+1,by omega,by omega⟩,rfl,rfl,rfl,?_,?_⟩⟩
      · refine HSub.cons ?_ (HSub.cons ?_ (HSub.nil _))
        · simp [aa,f1,f2,f3,g1,g2,g3,g4,g5,g6,g7,cN]
        · rw [e2];simp [aa]
      · simp [Hp.ok,Ob.ok,SV.ax,SV.ok,SV.br,-List.flatMap_append,-List.map_append];omega
      · simp [iO,Hp.ok,Ob.ok,SV.ax,SV.ok,SV.br,-List.flatMap_append,-List.map_append];omega
      · intro n hn
        by_cases hy':n=y
        · exact .inl (by simp [iO,aa,hy'])
        · by_cases AL:n=bx
          · exact .inl (by simp [iO,aa,AL,f1])
          · refine .inr ?_
            have:n=k+1:=Classical.byContradiction fun hne=>hn (by simp [iO,aa,bE,hy',AL,hne])
            omega
    · intro n hn
      simp only [Bool.or_eq_true,beq_iff_eq] at hn;rcases hn with (rfl | rfl) | rfl <;> simp [iO,aa,f1,f2,f3]
    · rintro r F' ⟨s',hs',rfl,rfl,hok',hnm⟩ _ _
      obtain ⟨l',rn',h1',h2'⟩:=s';refine ⟨rfl,?_⟩;simp [iO,Hp.ok,Ob.ok,SV.ax,SV.ok,SV.br];have hh:=hnm rn' (by simp [iO,aa,h1',h2']);rcases hh with hh | ⟨hh1,hh2⟩
      · have:rn'=rn:=by
          refine Classical.byContradiction fun hne=>hh ?_
          simp [iO,aa,bE,h1',h2',hne]
        simp [this]
      · simp [hh1];omega
end
section
attribute [local irreducible] SW RW aF SC ai aq
theorem MA (a:MM Dt Cr)(ca:Nat)(m:MM Dt ag)(cm:Nat)(d:Dt):SB Tryz.prog tree_Tree_up.f [.ptr 0 0,.agg d.cells] (gl a ca m cm) 3 2 (fun r F'=>r= .fn (.func tree_Tree_up_1.f) [] [.ptr 3 0,.ptr 4 0]∧F'=(4,.box 37 d.cells)::(3,.box 105 [.ptr 0 0])::gl a ca m cm):=by
 refine tree_Tree_up.enter (by simp [SV.ax,SV.ok]) (dI a ca m cm (Nat.le_refl 3)) (by simp) ?_;dsimp only [tree_Tree_up.s,Co.M,Co.J,Co.F,Co.x,Co.S];(repeat (first | refine SW.seq ?_ | refine SW.block ?_ | refine SW.g0 [0,1,2,3,4] mixed af ?_ | refine SW.skip ?_ | refine SW.exit ?_ | refine SW.ret ?_ | refine SW.aj rfl ?_ | refine SW.ah rfl ?_));refine End.mk ((4,.box 37 d.cells)::(3,.box 105 [.ptr 0 0])::gl a ca m cm) (h3:=fun _ _ h=>h) (h4:=⟨rfl,rfl⟩) (h6:= ?_);exact an (by simp) (by simp [Ob.ok,SV.br,Dt.cells,SV.ax,SV.ok]) (an (by simp) (by simp [Ob.ok,SV.ax,SV.ok]) (dI a ca m cm (by omega)))
theorem JI (a:MM Dt Cr)(ca:Nat)(m:MM Dt ag)(cm:Nat)(d:Dt)(k:Nat)(hk:3≤k):aF Tryz.prog tree_Tree_up.f [.ptr 0 0,.agg d.cells] (gl a ca m cm) k 2 (.fn (.func tree_Tree_up_1.f) [] [.ptr k 0,.ptr (k+1) 0]) ((k+1,.box 37 d.cells)::(k,.box 105 [.ptr 0 0])::gl a ca m cm):=by
 have h:=SB.pz [0,1,2] (MA a ca m cm d) (by decide) (sF _ _ _ _) k;have e:Hp.aC (fF [0,1,2] k) (gl a ca m cm)=gl a ca m cm:=nP ⟨0,1,2,a,ca,m,cm⟩ k;have e3:fF [0,1,2] k 3=k:=by simp [fF]
 have e4:fF [0,1,2] k 4=k+1:=by simp [fF];omega
 have e0:fF [0,1,2] k 0=0:=rfl;have e5:∀ x y:Nat×Ob,Hp.aC (fF [0,1,2] k) (x::y::gl a ca m cm)=(fF [0,1,2] k x.1,x.2.aC (fF [0,1,2] k))::(fF [0,1,2] k y.1,y.2.aC (fF [0,1,2] k))::Hp.aC (fF [0,1,2] k) (gl a ca m cm):=fun _ _=>rfl
 rw [e5,e] at h;simp only [SV.aT,SV.aC,Ob.aC,Dt.ay,e0,e3,e4,List.length_cons,List.length_nil] at h;exact h
theorem Cz {y bx:Nat}{s0 s:EV y bx}{xs:List Cr}(h:lF (fun (s:EV y bx) (x:Cr) s'=>s'.l=s.l++[x.dot]) s0 xs s):s.l=s0.l++xs.map (·.dot):=by
 induction h with
 | nil=>simp
 | snoc _ h ih=>rw [h,ih];simp
def gH (a:MM Dt Cr)(d:Dt)(L:List Cr):SV:=if MM.has a d then .dm [.d (.sl L.length ((L.map (·.dot)).flatMap Dt.ds)),.d (.int .i64 0)] else .dm [.d .aJ,.d (.int .i64 7)]
set_option maxHeartbeats 4000000 in
theorem EW (a:MM Dt Cr)(ca:Nat)(m:MM Dt ag)(cm:Nat)(d:Dt)(L:List Cr)(hL:mE a (MM.get a d) L)(hlen:L.length<1000000):
  SB Tryz.prog tree_Tree_Chain.f [.ptr 0 0,.agg d.cells] (gl a ca m cm) 3 (6+L.length*(1+2)) (fun r F'=>r=gH a d L∧F'=gl a ca m cm):=by
 refine tree_Tree_Chain.enter (by simp [SV.ax,SV.ok]) (dI a ca m cm (Nat.le_refl 3)) (by simp) ?_;dsimp only [tree_Tree_Chain.s,Co.M,Co.J,Co.F,Co.Z,Co.b8,Co.av,Co.bC,Co.i6,Co.T,Co.K,Co.E,Co.Q,Co.x,Co.W,Co.Y,Co.D,Co.S];have kK:∀ k,aF Tryz.prog tree_Tree_Get.f [.ptr 0 0,.agg d.cells] (gl a ca m cm) k 3 (.dm [.agg ((MM.get a d).getD Cr.zero).cells,i64 (if MM.has a d then 0 else 7)]) (gl a ca m cm):=fun k=>get_at (pK a ca m cm) d k
 have hup:aF Tryz.prog tree_Tree_up.f [.ptr 0 0,.agg d.cells] (gl a ca m cm) 9 2 (.fn (.func tree_Tree_up_1.f) [] [.ptr 9 0,.ptr 10 0]) ((10,.box 37 d.cells)::(9,.box 105 [.ptr 0 0])::gl a ca m cm):=JI a ca m cm d 9 (by omega);unfold gH;rcases hh:MM.has a d with _ | _
 ·rw [hh] at kK
  simp only [Bool.false_eq_true,if_false] at kK ⊢;refine SW.seq ?_;refine SW.g2 [0,1,3,4,5,7,8,9,17,21,22] mixed (hh) kK hup ?_;refine SW.seq (SW.seq ?_);refine SW.g2 [0,1,3,4,5,7,8,9,17,21,22] mixed (hh) kK hup ?_;refine SW.seq ?_;refine SW.g2 [0,1,3,4,5,7,8,9,17,21,22] mixed (hh) kK hup ?_;refine SW.aj rfl (SW.seq ?_);refine SW.g2 [0,1,3,4,5,7,8,9,17,21,22] mixed (hh) kK hup ?_;refine SW.weak id (st1:=⟨[(4,.d .aJ),(5,.d (.int .i64 7))],gl a ca m cm,3+(6+L.length*(1+2))⟩) (aK.same (by show 3≤3+_;omega) (by simp [bp,List.lookup,SV.aC,SV.ok]) (dI a ca m cm (by show 3≤3+(6+L.length*(1+2));omega)) (fun x hx=> ?_)) (SW.ret ?_)
  ·simp only [List.mem_cons,List.not_mem_nil,or_false] at hx
   rcases hx with rfl | rfl | rfl <;> rfl
  ·exact End.mk (gl a ca m cm) (h3:=fun _ _ h=>h) (h4:=⟨rfl,rfl⟩) (h6:=dI a ca m cm (by omega)) (h7:=Nat.le_refl _)
 ·rw [hh] at kK
  simp only [if_true] at kK ⊢;(repeat (first | refine SW.seq ?_ | refine SW.block ?_ | refine SW.g2 [0,1,3,4,5,7,8,9,17,21,22] mixed (hh) kK hup ?_ | refine SW.skip ?_ | refine SW.exit ?_ | refine SW.ret ?_ | refine SW.aj rfl ?_ | refine SW.ah rfl ?_));refine SW.xC 8 31 37 2 (by rfl) ?_
  let s0:EV 7 3:=⟨[],6,by decide,by decide⟩
  refine SW.weak (fun n=>if n=3 then 8 else if n=4 then 9 else if n=5 then 10 else if n=6 then 11 else n) (st1:=⟨[(21,.fn (.func tree_Tree_up_1.f) [] [.ptr 4 0,.ptr 5 0]),(8,.ptr 3 0)],(3,.box 31 [.gs 6 0])::(6,.arr 37 2 0 [])::(4,.box 105 [.ptr 0 0])::(5,.box 37 d.cells)::gl a ca m cm,7⟩) ⟨by show (3:Nat)≤7;decide,fun n hn=> ?_,?_,?_,?_⟩ ?_
  ·show (if n=3 then 8 else if n=4 then 9 else if n=5 then 10 else if n=6 then 11 else n)=n
   rw [if_neg (by omega),if_neg (by omega),if_neg (by omega),if_neg (by omega)]
  ·simp [bp,List.lookup,SV.aC,SV.ok,SV.aT,SV.ax]
  ·simp [vZ,aa,Ob.aC,SV.aT,SV.aC,SV.gD,SV.br,Ob.ok,SV.ax,SV.ok,Dt.ay,Dt.ak,dG,gT,bK,bq]
  ·intro x hx y hy e
   simp only [List.map_cons,List.map_nil,List.mem_cons,List.not_mem_nil,or_false] at hx hy;rcases hx with rfl | rfl | rfl | rfl | rfl | rfl | rfl <;> rcases hy with rfl | rfl | rfl | rfl | rfl | rfl | rfl <;> simp at e <;> rfl
  refine SW.sn (nk:=1+L.length*(1+2)) [8] [.ptr 3 0] rfl ⟨rfl,trivial⟩ fun ca' cb' hca hcb=> ?_
  have hy:=Cy (y:=7) (bx:=3) (B:=L.length) (by decide) s0 (by simp [s0];omega) hca hcb;have hsb:=EU (y:=7) (b:=4) (q:=5) (k:=8) (T:=js a ca m cm) (d:=d) (pK a ca m cm) hL s0 hy (by simp [iO,s0,Hp.ok,Ob.ok,SV.ax,SV.ok]) (by decide) (by decide) (by decide) (qu a ca m cm (by decide)) (by rfl) (by rfl) ⟨by rfl,by rfl,by rfl,by rfl,by rfl⟩ rfl;have hsubF:HSub ((4,Ob.box 105 [.ptr 0 0])::(5,.box 37 d.cells)::TF (js a ca m cm) (iO 7 3 29 [8] [22] ca' cb' s0)) ((7,.pT 29 [8] [.ptr 3 0] [22] ca' cb' .ready none)::(3,.box 31 [.gs 6 0])::(6,.arr 37 2 0 [])::(4,.box 105 [.ptr 0 0])::(5,.box 37 d.cells)::gl a ca m cm):=by
   intro n ob hn
   match n with
   | 0 | 1 | 2 | 3 | 4 | 5 | 6 | 7=>simpa [TF,Tr.hp,iO,s0,aa] using hn
   | n+8=>simp [TF,Tr.hp,iO,s0,aa,bE] at hn
  have hsc:=(hsb.here (fun n=>decide (n<8)) (fun n hn=> ?_) (by simp [SV.ax,SV.ok]) ?_ ?_).frame hsubF
  ·refine hsc.mono ?_
   rintro r F' ⟨F1,⟨rfl,xs,s',hon,hpre,hall,hoff,rfl⟩,rfl⟩;have hl:=Cz hon;have hxs:xs=L:=hall rfl;obtain ⟨l,rn,hr1,hr2⟩:=s';have hl:l=L.map (·.dot):=by rw [← hxs];simpa [s0] using hl
   obtain ⟨o1,o2,o3,o4,o5⟩:=hoff;have hn4:rn≠4:=fun e=>by simp [iO,e,aa] at o1
   have hn5:rn≠5:=fun e=>by simp [iO,e,aa] at o2
   have hn0:rn≠0:=fun e=>by simp [iO,e,aa] at o3
   have hn1:rn≠1:=fun e=>by simp [iO,e,aa] at o4
   have hn2:rn≠2:=fun e=>by simp [iO,e,aa] at o5
   have hll:l.length=L.length:=by rw [hl,List.length_map]
   have hlk:=iy (ro:=false) (F':=(4,Ob.box 105 [.ptr 0 0])::(5,.box 37 d.cells)::TF (js a ca m cm) (iO 7 3 29 [8] [22] ca' cb' ⟨l,rn,hr1,hr2⟩)) hsubF (fun h=>by cases h);generalize bS false _ _ _=G at hlk;have hG:∀ n ob,lk ((4,Ob.box 105 [.ptr 0 0])::(5,.box 37 d.cells)::TF (js a ca m cm) (iO 7 3 29 [8] [22] ca' cb' ⟨l,rn,hr1,hr2⟩)) n=some ob→lk G n=some ob:=fun n ob h=>by
    rw [hlk,fq (.inr (by rw [h];simp)),h]
   refine ⟨none,hG 7 _ (by simp [TF,Tr.hp,iO,aa,mA]),?_⟩;refine SW.weak (fun n=>if n=6 then rn else n) (st1:=⟨[(8,.ptr 3 0)],(3,.box 31 [.gs 6 L.length])::(6,.arr 37 2 L.length ((l.flatMap Dt.ds).map .d))::gl a ca m cm,7+1+(1+L.length*(1+2))⟩) ?_ ?_
   ·have q3:=hG 3 (.box 31 [.gs rn l.length]) (by simp [TF,Tr.hp,iO,aa])
    have q6:=hG rn (.arr 37 2 l.length ((l.flatMap Dt.ds).map .d)) (by simp [TF,Tr.hp,iO,aa,hn0,hn1,hn2,hn4,hn5,hr1,hr2]);have q0:=hG 0 (.box 166 [.mp 1,.mp 2]) (by simp [TF,Tr.hp,aa]);have q1:=hG 1 (.map (au Dt.cells cv a) ca) (by simp [TF,Tr.hp,aa]);have q2:=hG 2 (.map (au Dt.cells ov m) cm) (by simp [TF,Tr.hp,aa]);rw [hll] at q3 q6;refine ⟨by show 3≤7+1+(1+L.length*(1+2));omega,fun n hn=>if_neg (by omega),?_,?_,?_⟩
    ·simp [bp,List.lookup,SV.aC,SV.ok];omega
    ·simp [vZ,dY,Ob.aC,SV.aT,SV.aC,SV.gD,SV.br,Ob.ok,SV.ax,SV.ok,q3,q6,q2,q0,q1,hr1,dG,gT,bK,bq];omega
    ·intro x hx y hy e
     simp only [List.map_cons,List.map_nil,List.mem_cons,List.not_mem_nil,or_false] at hx hy;rcases hx with rfl | rfl | rfl | rfl | rfl <;> rcases hy with rfl | rfl | rfl | rfl | rfl <;> simp at e <;> first | rfl | omega
   ·refine SW.seq ?_
    refine SW.g0 [0,1,3,4,5,7,8,9,17,21,22] mixed af ?_;refine SW.freeze 6 (l.flatMap Dt.ds) rfl rfl (SW.ret ?_);rw [← hl];exact End.mk (gl a ca m cm) (h4:=⟨by simp [eH,SV.iw],rfl⟩) (h5:=by simp [eH,SV.iw,SV.ok,SV.ax]) (h6:=dI a ca m cm (by omega)) (h7:=by show 3+(6+L.length*(1+2))≤7+1+(1+L.length*(1+2));omega)
  ·match n,hn with
   | 0,_ | 1,_ | 2,_ | 3,_ | 4,_ | 5,_ | 6,_ | 7,_=>simp [TF,Tr.hp,iO,s0,aa]
   | n +8,h=>
     have:n+8<8:=by simpa using h
     omega
  ·refine an rfl (by simp [Ob.ok,SV.ax,SV.ok]) (an rfl (by simp [Ob.ok,Dt.ak]) ?_)
   have h1:(js a ca m cm).hp.ok (fun n=>decide (n<8))=true:=Tr.xD (qu a ca m cm (by decide));have h2:(iO 7 3 29 [8] [22] ca' cb' s0).ok (fun n=>decide (n<8))=true:=by simp [iO,s0,Hp.ok,Ob.ok,SV.ax,SV.ok,SV.br]
   unfold Hp.ok at*;rw [TF,List.all_append,h1,h2];rfl
  ·rintro r F' _ h1 h2
   refine ⟨SV.gu (fun n hn=> ?_) _ h1,Hp.ez (fun n hn=> ?_) h2⟩ <;> (simp at hn ⊢;omega)
theorem AM (f:Nat→Nat)(a:MM Dt Cr)(d:Dt)(L:List Cr):(gH a d L).aC f=gH a d L:=by
 unfold gH;split <;> rfl
theorem EX {T:Tr}(hs:T.sep)(d:Dt)(L:List Cr)(hL:mE T.at_ (MM.get T.at_ d) L)(hlen:L.length<1000000)(k:Nat):aF Tryz.prog tree_Tree_Chain.f [.ptr T.bx 0,.agg d.cells] T.hp k (6+L.length*(1+2)) (gH T.at_ d L) T.hp:=by
 have h:=SB.pz [T.bx,T.ma,T.mm] (EW T.at_ T.ca T.made T.cm d L hL hlen) (Tr.Mu hs) (sF _ _ _ _) k;rw [nP,AM] at h;simp only [SV.aT,SV.aC,Dt.ay] at h;exact h
end
section
attribute [local irreducible] SW RW aF SC ai aq
def MB (s:Bool):Option Code:=if s then some .ret else none
def lG (N y b4 b6:Nat)(e:Dt)(ca cb:Code)(s:Bool):Hp:=
 [(y,.pT N [4,6] [.ptr b4 0,.ptr b6 0] [18] ca cb (mA (MB s)) (MB s)),(b4,.box 37 e.cells),(b6,.box 4 [bl s])]
theorem y5 {N y b4 b6:Nat}{e:Dt}{ca cb:Code}{s s':Bool}{n:Nat}(h:lk (lG N y b4 b6 e ca cb s') n≠none):lk (lG N y b4 b6 e ca cb s) n≠none:=by
  simp only [lG,aa] at h ⊢
  by_cases h1:n=y
  · simp [h1]
  · by_cases h2:n=b4
    · rw [if_neg h1,if_pos h2];simp
    · by_cases h3:n=b6
      · rw [if_neg h1,if_neg h2,if_pos h3];simp
      · rw [if_neg h1,if_neg h2,if_neg h3] at h
        exact absurd rfl h
set_option maxHeartbeats 1000000 in
theorem CA {y b4 b6 B:Nat}(h1:y≠b4)(h2:y≠b6)(h3:b4≠b6)(e:Dt){ca cb:Code}
  (hca:cK Tryz.prog 23 ca=some (.fm [⟨some 7,.alloc 158 [.d (.int .u8 0),.d (.int .u32 0),.d (.int .u8 0),.d (.int .u32 0),.d (.int .u8 0),.d (.int .u32 0),.d (.int .u32 0),.d (.int .u8 0),.d (.int .u8 0),.d (.int .u64 0),.d (.int .i64 0)],none⟩,⟨none,.store 11 (.t 7) (.t 18),none⟩] (nV 2) false))
  (hcb:cK Tryz.prog 23 cb=some (.block 1 (.seq (.fm [⟨some 19,.aX 0 (.t 7),none⟩,⟨some 20,.load (some 2) (.t 19),none⟩,⟨some 21,.load (some 2) (.t 4),none⟩,⟨some 22,.eqv false [true,true] (.t 20) (.t 21),none⟩] (nV 4) false)
   (.cond (.t 22) (.seq (.fm [⟨none,.store 1 (.t 6) (.k (.d (.bool true))),none⟩] (nV 1) false) .ret) .skip)))):
  pE Tryz.prog y (fun x:Cr=> .agg x.cells) 1 (lG 23 y b4 b6 e ca cb) (fun s x s'=>s'=(s || decide (x.dot=e))) (fun s=> !s) false B:=by
 have f1:=cQ h1;have f2:=cQ h2;have f3:=cQ h3;refine ⟨fun s=>by simp [lG,aa],fun s x hx=> ?_,fun s xs x k hon hlt hok vz=> ?_⟩
 ·simp only [lG,List.mem_cons,List.not_mem_nil,or_false] at hx
  rcases hx with rfl | rfl | rfl <;> simp [lG,aa,f1,f2,f3]
 ·have hs:s=false:=by simpa using vz
  subst hs;simp only [lG,Hp.ok,List.all_cons,List.all_nil,Ob.ok,SV.ax,SV.ok,SV.br,Dt.ak,Bool.and_true,Bool.and_eq_true,decide_eq_true_eq] at hok;obtain ⟨⟨k1,_⟩,k2,k3⟩:=hok;have g1:=cQ (show k≠y by omega);have g2:=cQ (show k≠b4 by omega);have g3:=cQ (show k≠b6 by omega);refine DN.here (fun n=>n == y || n == b4 || n == b6) (DN.tF (cs:=[.ptr b4 0,.ptr b6 0]) (H:=[(b4,.box 37 e.cells),(b6,.box 4 [bl false])]) hca hcb rfl rfl rfl (by simp) k1 (by simp [aa,bE,f1,f2]) (by simp [SV.ax,SV.ok,Cr.ak]) (by simp [Hp.ok,Ob.ok,SV.ax,SV.ok,SV.br,Dt.ak];omega) (by simp [SV.ax,SV.ok];omega) ?_) ?_ (by simp [SV.ax,SV.ok,Cr.ak]) (by simp [lG,Hp.ok,Ob.ok,SV.ax,SV.ok,SV.br,Dt.ak]) ?_
  ·skip
   show Go.Sl.SW _ _ _ _ ⟨[(18,.agg x.cells),(4,.ptr b4 0),(6,.ptr b6 0)],_,_⟩ _;refine SW.g0 [4,6,7,18,22] mixed (And.intro (f1) (And.intro (f2) (And.intro (f3) (And.intro (g1) (And.intro (g2) (g3)))))) ?_;refine ⟨rfl,SW.block ?_⟩;refine SW.seq ?_;refine SW.g0 [4,6,7,18,22] mixed (And.intro (f1) (And.intro (f2) (And.intro (f3) (And.intro (g1) (And.intro (g2) (g3)))))) ?_;rcases hd:decide (x.dot=e) with _ | _
   ·refine SW.ah (by simp only [ev,List.lookup,Nat.reduceBEq,hd]) (SW.skip ?_)
    refine ⟨none,true,[(b4,.box 37 e.cells),(b6,.box 4 [bl false])],⟨rfl,rfl⟩,HSub.cons (by simp [aa,f1,f2,f3,g1,g2,g3]) (HSub.cons (by simp [aa,f1,f2,f3,g1,g2,g3]) (HSub.nil _)),by simp [Hp.ok,Ob.ok,SV.ax,SV.ok,SV.br,Dt.ak];omega,by simp,⟨false,rfl,rfl,rfl,by simp [lG,Hp.ok,Ob.ok,SV.ax,SV.ok,SV.br,Dt.ak];omega,fun n hn=> .inl (y5 hn)⟩⟩
   ·refine SW.aj (by simp only [ev,List.lookup,Nat.reduceBEq,hd]) (SW.seq ?_)
    refine SW.g0 [4,6,7,18,22] mixed (And.intro (f1) (And.intro (f2) (And.intro (f3) (And.intro (g1) (And.intro (g2) (g3)))))) ?_;refine SW.ret ?_;refine ⟨some .ret,false,[(b4,.box 37 e.cells),(b6,.box 4 [bl true])],⟨rfl,rfl⟩,HSub.cons (by simp [aa,f1,f2,f3,g1,g2,g3]) (HSub.cons (by simp [aa,f1,f2,f3,g1,g2,g3,cN]) (HSub.nil _)),by simp [Hp.ok,Ob.ok,SV.ax,SV.ok,SV.br,Dt.ak];omega,by simp,⟨true,rfl,rfl,rfl,by simp [lG,Hp.ok,Ob.ok,SV.ax,SV.ok,SV.br,Dt.ak];omega,fun n hn=> .inl (y5 hn)⟩⟩
  ·intro n hn
   simp only [Bool.or_eq_true,beq_iff_eq] at hn;rcases hn with (rfl | rfl) | rfl <;> simp [lG,aa,f1,f2,f3]
  ·rintro r F' ⟨s',hs',rfl,rfl,hok',hnm⟩ _ _
   refine ⟨rfl,?_⟩;simp [lG,Hp.ok,Ob.ok,SV.ax,SV.ok,SV.br,Dt.ak]
theorem EY {e:Dt}{s0 s:Bool}{xs:List Cr}(h:lF (fun (s:Bool) (x:Cr) s'=>s'=(s || decide (x.dot=e))) s0 xs s):s=(s0 || xs.any fun x=>decide (x.dot=e)):=by
 induction h with
 | nil=>simp
 | snoc _ h ih=>rw [h,ih];simp [Bool.or_assoc]
def fG (a:MM Dt Cr)(e d:Dt)(L:List Cr):Bool:= !decide (e=d) && L.any fun x=>decide (x.dot=e)
set_option maxHeartbeats 4000000 in
theorem EZ (a:MM Dt Cr)(ca:Nat)(m:MM Dt ag)(cm:Nat)(e d:Dt)(L:List Cr)(hL:mE a (MM.get a d) L)(hlen:L.length<1000000):
  SB Tryz.prog tree_Tree_Above.f [.ptr 0 0,.agg e.cells,.agg d.cells] (gl a ca m cm) 3 (6+L.length*(1+1)) (fun r F'=>r=bl (fG a e d L)∧F'=gl a ca m cm):=by
 refine tree_Tree_Above.enter (by simp [SV.ax,SV.ok]) (dI a ca m cm (Nat.le_refl 3)) (by simp) ?_;dsimp only [tree_Tree_Above.s,Co.M,Co.J,Co.H,Co.N,Co.F,Co.B,Co.b8,Co.av,Co.bC,Co.i6,Co.K,Co.P,Co.Q,Co.x,Co.W,Co.D,Co.S];have hup:aF Tryz.prog tree_Tree_up.f [.ptr 0 0,.agg d.cells] (gl a ca m cm) 6 2 (.fn (.func tree_Tree_up_1.f) [] [.ptr 6 0,.ptr 7 0]) ((7,.box 37 d.cells)::(6,.box 105 [.ptr 0 0])::gl a ca m cm):=JI a ca m cm d 6 (by omega);have hnone:∀ k,3≤k→aF Tryz.prog tree_Tree_none.f [.ptr 0 0] (gl a ca m cm) k 0 (.d (.bool false)) (gl a ca m cm):=fun k hk=>lp a ca m cm hk
 unfold fG;rcases hd:decide (e=d) with _ | _
 ·refine SW.seq ?_
  (refine SW.bT [0,1,2,4,5,6,7,14,17,18,22] mixed ?_;(repeat (first | refine RW.ro (hd) (h:= ?_) | refine RW.skip (h:= ?_) | refine RW.op (hd) (h:= ?_) | refine RW.dD (hd) (h:= ?_) | refine RW.aY (h:= ?_) | (refine RW.aM (h:= ?_);(first | refine ai.mk (hd) (hc:=hnone _ (by omega)) (h:= ?_) | refine ai.mk (hd) (hc:=hup) (h:= ?_)))));refine RW.nil ⟨by kernel_rfl,aq.mk (h:= ?_)⟩)
  refine SW.seq (SW.seq ?_)
  (refine SW.bT [0,1,2,4,5,6,7,14,17,18,22] mixed ?_;(repeat (first | refine RW.ro (hd) (h:= ?_) | refine RW.skip (h:= ?_) | refine RW.op (hd) (h:= ?_) | refine RW.dD (hd) (h:= ?_) | refine RW.aY (h:= ?_) | (refine RW.aM (h:= ?_);(first | refine ai.mk (hd) (hc:=hnone _ (by omega)) (h:= ?_) | refine ai.mk (hd) (hc:=hup) (h:= ?_)))));refine RW.nil ⟨by kernel_rfl,aq.mk (h:= ?_)⟩)
  refine SW.ah rfl (SW.skip ?_);refine SW.seq (SW.seq ?_)
  (refine SW.bT [0,1,2,4,5,6,7,14,17,18,22] mixed ?_;(repeat (first | refine RW.ro (hd) (h:= ?_) | refine RW.skip (h:= ?_) | refine RW.op (hd) (h:= ?_) | refine RW.dD (hd) (h:= ?_) | refine RW.aY (h:= ?_) | (refine RW.aM (h:= ?_);(first | refine ai.mk (hd) (hc:=hnone _ (by omega)) (h:= ?_) | refine ai.mk (hd) (hc:=hup) (h:= ?_)))));refine RW.nil ⟨by kernel_rfl,aq.mk (h:= ?_)⟩)
  refine SW.block ?_;refine SW.weak (fun n=>if n=4 then 5 else if n=5 then 6 else if n=6 then 7 else n) (st1:=⟨[(17,.fn (.func tree_Tree_up_1.f) [] [.ptr 5 0,.ptr 6 0]),(6,.ptr 4 0),(4,.ptr 3 0)],(3,.box 37 e.cells)::(4,.box 4 [bl false])::(5,.box 105 [.ptr 0 0])::(6,.box 37 d.cells)::gl a ca m cm,7⟩) ⟨by show (3:Nat)≤7;decide,fun n hn=> ?_,?_,?_,?_⟩ ?_
  ·show (if n=4 then 5 else if n=5 then 6 else if n=6 then 7 else n)=n
   rw [if_neg (by omega),if_neg (by omega),if_neg (by omega)]
  ·simp [bp,List.lookup,SV.aC,SV.ok,SV.aT,SV.ax]
  ·simp [vZ,aa,Ob.aC,SV.aT,SV.aC,SV.gD,SV.br,Ob.ok,SV.ax,SV.ok,Dt.ay,Dt.ak,dG,gT,bK,bq]
  ·intro x hx y hy h
   simp only [List.map_cons,List.map_nil,List.mem_cons,List.not_mem_nil,or_false] at hx hy;rcases hx with rfl | rfl | rfl | rfl | rfl | rfl | rfl <;> rcases hy with rfl | rfl | rfl | rfl | rfl | rfl | rfl <;> simp at h <;> rfl
  refine SW.sn (nk:=1+L.length*(1+1)) [4,6] [.ptr 3 0,.ptr 4 0] rfl ⟨rfl,rfl,trivial⟩ fun ca' cb' hca hcb=> ?_
  have hy:=CA (y:=7) (b4:=3) (b6:=4) (B:=L.length) (by decide) (by decide) (by decide) e hca hcb;have hsb:=EU (y:=7) (b:=5) (q:=6) (k:=8) (T:=js a ca m cm) (d:=d) (pK a ca m cm) hL false hy (by simp [lG,Hp.ok,Ob.ok,SV.ax,SV.ok,Dt.ak]) (by decide) (by decide) (by decide) (qu a ca m cm (by decide)) (by rfl) (by rfl) ⟨by rfl,by rfl,by rfl,by rfl,by rfl⟩ rfl;have hsubF:HSub ((5,Ob.box 105 [.ptr 0 0])::(6,.box 37 d.cells)::TF (js a ca m cm) (lG 23 7 3 4 e ca' cb' false)) ((7,.pT 23 [4,6] [.ptr 3 0,.ptr 4 0] [18] ca' cb' .ready none)::(3,.box 37 e.cells)::(4,.box 4 [bl false])::(5,.box 105 [.ptr 0 0])::(6,.box 37 d.cells)::gl a ca m cm):=by
   intro n ob hn
   match n with
   | 0 | 1 | 2 | 3 | 4 | 5 | 6 | 7=>exact hn
   | n+8=>cases hn
  have hsc:=(hsb.here (fun n=>decide (n<8)) (fun n hn=> ?_) (by simp [SV.ax,SV.ok]) ?_ ?_).frame hsubF
  ·refine hsc.mono ?_
   intro r F' h;obtain ⟨F1,h1,hF'⟩:=h;obtain ⟨hr,xs,s',hon,hpre,hall,hoff,hF1⟩:=h1;subst hF1;have hs:=EY hon;have hsL:s'=L.any fun x=>decide (x.dot=e):=by
    rw [hs,Bool.false_or];cases hs':s' with
    | false=>rw [hall (by rw [hs'];rfl)]
    | true=>
     rw [hs',Bool.false_or] at hs;rw [← hs];obtain ⟨t,rfl⟩:=hpre;rw [List.any_append,← hs];rfl
   have hlk:=iy (ro:=false) (F':=(5,Ob.box 105 [.ptr 0 0])::(6,.box 37 d.cells)::TF (js a ca m cm) (lG 23 7 3 4 e ca' cb' s')) hsubF (fun h=>by cases h);rw [← hF'] at hlk;clear hF';have hG:∀ n ob,lk ((5,Ob.box 105 [.ptr 0 0])::(6,.box 37 d.cells)::TF (js a ca m cm) (lG 23 7 3 4 e ca' cb' s')) n=some ob→lk F' n=some ob:=fun n ob h=>by
    rw [hlk,fq (.inr (by rw [h];simp)),h]
   have q4:=hG 4 (.box 4 [bl s']) (by simp [TF,Tr.hp,lG,aa]);have q0:=hG 0 (.box 166 [.mp 1,.mp 2]) (by simp [TF,Tr.hp,aa]);have q1:=hG 1 (.map (au Dt.cells cv a) ca) (by simp [TF,Tr.hp,aa]);have q2:=hG 2 (.map (au Dt.cells ov m) cm) (by simp [TF,Tr.hp,aa]);refine ⟨MB s',hG 7 _ (by simp [TF,Tr.hp,lG,aa]),?_⟩;rw [← hsL];have hsub:HSub ((4,.box 4 [bl s'])::gl a ca m cm) (cM F' 7):=by
    intro n ob hn;rw [dY]
    match n,hn with
    | 0,hn=>rw [if_neg (by decide),q0];exact hn
    | 1,hn=>rw [if_neg (by decide),q1];exact hn
    | 2,hn=>rw [if_neg (by decide),q2];exact hn
    | 3,hn=>cases hn
    | 4,hn=>rw [if_neg (by decide),q4];exact hn
    | n+5,hn=>cases hn
   cases s' with
   | true=>
    rw [show MB true=some .ret from rfl];simp only [RQ];have q4':=hsub 4 _ rfl;exact End.mk (ss:=[bl true]) (ob:=yh [bl true] 0 none∧True) (gl a ca m cm) (h1:=by simp only [tree_Tree_Above.rv,Cg,List.lookup,Nat.reduceBEq,gq,q4'];rfl) (h2:=by simp [yh]) (h3:=fun n ob h=>hsub n ob (by rw [aa,if_neg (fun e=>by subst e;cases h)];exact h)) (h4:=⟨rfl,rfl⟩) (h5:=by simp [eH,SV.ok]) (h6:=dI a ca m cm (by omega)) (h7:=by show 3+(6+L.length*(1+1))≤7+1+(1+L.length*(1+1));omega)
   | false=>
    rw [show MB false=none from rfl];simp only [RQ];refine SW.weak id (st1:=⟨[(6,.ptr 4 0)],(4,.box 4 [bl false])::gl a ca m cm,8+(1+L.length*(1+1))⟩) (aK.same (by show 3≤8+(1+L.length*(1+1));omega) (by simp [bp,List.lookup,SV.aC,SV.ok];omega) (an (by simp;omega) (by simp [Ob.ok,SV.ax,SV.ok]) (dI a ca m cm (by show 3≤8+(1+L.length*(1+1));omega))) (fun x hx=> ?_)) ?_
    ·refine hsub _ _ ?_
     simp only [List.mem_cons,List.not_mem_nil,or_false] at hx;rcases hx with rfl | rfl | rfl | rfl <;> rfl
    ·refine SW.seq ?_
     refine SW.g0 [0,1,2,4,5,6,7,14,17,18,22] mixed af ?_;refine SW.ret ?_;exact End.mk (gl a ca m cm) (h3:=HSub.cons rfl (HSub.cons rfl (HSub.cons rfl (HSub.nil _)))) (h4:=⟨rfl,rfl⟩) (h6:=dI a ca m cm (by omega)) (h7:=by show 3+(6+L.length*(1+1))≤8+(1+L.length*2);omega)
  ·match n,hn with
   | 0,_ | 1,_ | 2,_ | 3,_ | 4,_ | 5,_ | 6,_ | 7,_=>simp [TF,Tr.hp,lG,aa]
   | n +8,h=>
     have:n+8<8:=by simpa using h
     omega
  ·refine an rfl (by simp [Ob.ok,SV.ax,SV.ok]) (an rfl (by simp [Ob.ok,Dt.ak]) ?_)
   have h1:(js a ca m cm).hp.ok (fun n=>decide (n<8))=true:=Tr.xD (qu a ca m cm (by decide));have h2:(lG 23 7 3 4 e ca' cb' false).ok (fun n=>decide (n<8))=true:=by simp [lG,Hp.ok,Ob.ok,SV.ax,SV.ok,SV.br,Dt.ak]
   unfold Hp.ok at*;rw [TF,List.all_append,h1,h2];rfl
  ·rintro r F' _ h1 h2
   refine ⟨SV.gu (fun n hn=> ?_) _ h1,Hp.ez (fun n hn=> ?_) h2⟩ <;> (simp at hn ⊢;omega)
 ·obtain rfl:e=d:=by simpa using hd
  refine SW.seq ?_
  (refine SW.bT [0,1,2,4,5,6,7,14,17,18,22] mixed ?_;(repeat (first | refine RW.ro af (h:= ?_) | refine RW.skip (h:= ?_) | refine RW.op af (h:= ?_) | refine RW.dD af (h:= ?_) | refine RW.aY (h:= ?_) | (refine RW.aM (h:= ?_);(first | refine ai.mk af (hc:=hnone _ (by omega)) (h:= ?_)))));refine RW.nil ⟨by kernel_rfl,aq.mk (h:= ?_)⟩)
  refine SW.seq (SW.seq ?_)
  (refine SW.bT [0,1,2,4,5,6,7,14,17,18,22] mixed ?_;(repeat (first | refine RW.ro af (h:= ?_) | refine RW.skip (h:= ?_) | refine RW.op af (h:= ?_) | refine RW.dD af (h:= ?_) | refine RW.aY (h:= ?_) | (refine RW.aM (h:= ?_);(first | refine ai.mk af (hc:=hnone _ (by omega)) (h:= ?_)))));refine RW.nil ⟨by kernel_rfl,aq.mk (h:= ?_)⟩)
  refine SW.aj rfl (SW.seq ?_)
  (refine SW.bT [0,1,2,4,5,6,7,14,17,18,22] mixed ?_;(repeat (first | refine RW.ro af (h:= ?_) | refine RW.skip (h:= ?_) | refine RW.op af (h:= ?_) | refine RW.dD af (h:= ?_) | refine RW.aY (h:= ?_) | (refine RW.aM (h:= ?_);(first | refine ai.mk af (hc:=hnone _ (by omega)) (h:= ?_)))));refine RW.nil ⟨by kernel_rfl,aq.mk (h:= ?_)⟩)
  refine SW.weak id (st1:=⟨[(6,.ptr 5 0)],(5,.box 4 [bl false])::gl a ca m cm,3+(6+L.length*(1+1))⟩) (aK.same (by show 3≤3+(6+L.length*(1+1));omega) (by simp [bp,List.lookup,SV.aC,SV.ok];omega) (an (by simp;omega) (by simp [Ob.ok,SV.ax,SV.ok]) (dI a ca m cm (by show 3≤3+(6+L.length*(1+1));omega))) (fun x hx=> ?_)) (SW.ret ?_)
  ·simp only [List.mem_cons,List.not_mem_nil,or_false] at hx
   rcases hx with rfl | rfl | rfl | rfl <;> rfl
  ·exact End.mk (gl a ca m cm) (h3:=HSub.cons rfl (HSub.cons rfl (HSub.cons rfl (HSub.nil _)))) (h4:=⟨by simp only [Bool.not_true,Bool.false_and];rfl,rfl⟩) (h6:=dI a ca m cm (by omega)) (h7:=Nat.le_refl _)
theorem E1 {T:Tr}(hs:T.sep)(e d:Dt)(L:List Cr)(hL:mE T.at_ (MM.get T.at_ d) L)(hlen:L.length<1000000)(k:Nat):aF Tryz.prog tree_Tree_Above.f [.ptr T.bx 0,.agg e.cells,.agg d.cells] T.hp k (6+L.length*(1+1)) (bl (fG T.at_ e d L)) T.hp:=by
 have h:=SB.pz [T.bx,T.ma,T.mm] (EZ T.at_ T.ca T.made T.cm e d L hL hlen) (Tr.Mu hs) (sF _ _ _ _) k;rw [nP] at h;simp only [SV.aT,SV.aC,Dt.ay] at h;exact h
end
section
def MC (a:MM Dt Cr):Prop:=∀ d c p,MM.get a d=some c→0<c.level→MM.get a c.par=some p→p.level<c.level
end
end Go.Proofs.YtaelhkkjgfobhaaGreat
