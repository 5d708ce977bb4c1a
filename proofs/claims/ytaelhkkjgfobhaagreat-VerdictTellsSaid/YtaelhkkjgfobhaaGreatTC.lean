/-
 Trees of credentials: the credentials above one.
-/
import Derived.Test.YtaelhkkjgfobhaaGreatTA
set_option linter.unusedSectionVars false
set_option linter.unusedVariables false
set_option linter.unusedSimpArgs false
namespace Go.Proofs.YtaelhkkjgfobhaaGreat
open Go.Sl Go.Proofs
section
attribute [local irreducible] SW RW aF SC ai ak
inductive mC (a:MM Dt Cr):Option Cr->List Cr->Prop where
 | none:mC a none []
 | root (c:Cr): ¬ 0<c.level->mC a (some c) [c]
 | more (c:Cr) (L:List Cr):0<c.level->mC a (MM.get a c.par) L->mC a (some c) (c::L)
def TF (T:Tr)(F:Hp):Hp:=T.hp++F
structure KE (T:Tr)(b q:Nat)(F:Hp):Prop where
 b:lk F b=none
 q:lk F q=none
 x:lk F T.bx=none
 a:lk F T.ma=none
 m:lk F T.mm=none
theorem TF.O2 {T:Tr}{F:Hp}{n:Nat}{ob:Ob}(h:lk T.hp n=some ob):lk (TF T F) n=some ob:=by
 show List.lookup n (T.hp++F)=some ob;rw[List.lookup_append,show List.lookup n T.hp=some ob from h];rfl
theorem TF.O3 {T:Tr}{F:Hp}{n:Nat}(h:lk T.hp n=none):lk (TF T F) n=lk F n:=by
 show List.lookup n (T.hp++F)=_;rw[List.lookup_append,show List.lookup n T.hp=none from h];rfl
theorem TF.ok {T:Tr}{F:Hp}{k:Nat}(h1:T.lt k)(h2:F.ok (λ n=>decide (n<k))=true):(TF T F).ok (λ n=>decide (n<k))=true:=by
 have h1:=Tr.qK h1;unfold Hp.ok at*;rw[TF,List.all_append,h1,h2];rfl
structure NL {σ:Type}(Fh:σ->Hp)(Step:σ->Cr->σ->Prop)(go:σ->Bool)(T:Tr)(aX b q k:Nat)(L:List Cr)(s0 s:σ)(xs:List Cr)(oc:Option Cr)(rest:List Cr)(cn kk:Nat):Prop where
 p1:lY Step s0 xs s
 p2:go s=true
 p3:xs++rest=L
 p4:mC T.at_ oc rest
 p5:k<=cn/\cn<kk
 p6:kk<=k+1+xs.length*(1+aX)
 p7:(Fh s).ok (λ n=>decide (n<kk))=true
 p8:KE T b q (Fh s)
 p9:lk (Fh s) cn=none
set_option maxHeartbeats 2000000 in
theorem Ft {σ :Type}{Fh:σ->Hp}{Step:σ->Cr->σ->Prop}{go:σ->Bool}{aX y b q k:Nat}{T:Tr}{L:List Cr}{d:Dt}(hT:T.sep)(hL:mC T.at_ (MM.get T.at_ d) L)(s0:σ)(hy:pJ Tryz.prog y (λ x:Cr=> .agg x.cells) aX Fh Step go s0 L.length)(h0:(Fh s0).ok (λ n=>decide (n<k))=true)
  (hb:b<k) (hq:q<k) (PE:b≠q) (Eh:T.lt k) (NM:lk T.hp b=none) (NN:lk T.hp q=none) (hoff:KE T b q (Fh s0)) (sx:go s0=true):
  SB Tryz.prog tree_Tree_up_1.f [.yl y,.ptr b 0,.ptr q 0] ((b,.box 105 [.ptr T.bx 0])::(q,.box 37 d.cells)::TF T (Fh s0)) k (1+L.length*(1+aX))
   λ r F=>r= .de []/\∃ (xs:List Cr) (s':σ),lY Step s0 xs s'/\xs <+: L/\(go s'=true->xs=L)/\KE T b q (Fh s')/\F=(b,.box 105 [.ptr T.bx 0])::(q,.box 37 d.cells)::TF T (Fh s'):=by
 have hyk:y<k:=by
  obtain⟨ob,ho⟩:=Option.ne_none_iff_exists'.1 (hy.u5 s0)
  simpa using(Hp.fC h0 ho).1
 have hokT:∀ (s:σ) (kx:Nat),k<=kx->(Fh s).ok (λ n=>decide (n<kx))=true->Hp.ok (λ n=>decide (n<kx)) ((b,.box 105 [.ptr T.bx 0])::(q,.box 37 d.cells)::TF T (Fh s))=true:=λ s kx hkx h=>by
  have h1:=TF.ok (T:=T) ⟨Nat.lt_of_lt_of_le Eh.b hkx,Nat.lt_of_lt_of_le Eh.a hkx,Nat.lt_of_lt_of_le Eh.m hkx⟩ h;have:=Eh.b;unfold Hp.ok at*;simp only[List.all_cons,Ob.ok,SV.au,SV.ok,Dt.aj,Bool.and_true,Bool.and_eq_true,decide_eq_true_eq];exact⟨⟨by omega,by omega⟩,by omega,h1⟩
 refine tree_Tree_up_1.enter (by simp[SV.ok,SV.au];omega) (hokT s0 k (Nat.le_refl _) h0) (by simp) ?_;dsimp only[tree_Tree_up_1.s,Co.M,Co.G,Co.J,Co.H,Co.F,Co.Z,Co.b8,Co.ay,Co.bu,Co.i6,Co.T,Co.K,Co.E,Co.W,Co.U,Co.D,Co.A,Co.S];have f1:=bX PE;have tb:T.bx≠b:=λ e=>by rw[<- e,Tr.KD] at NM;cases NM
 have tq:T.bx≠q:=λ e=>by rw[<- e,Tr.KD] at NN;cases NN
 have ta:T.ma≠b:=λ e=>by rw[<- e,Tr.M3 hT] at NM;cases NM
 have taq:T.ma≠q:=λ e=>by rw[<- e,Tr.M3 hT] at NN;cases NN
 have f2:=bX tb;have f3:=bX tq;have f4:=bX ta;have f5:=bX taq;have u1:∀ F,List.lookup T.bx (TF T F)=some (.box 166 [.mp T.ma,.mp T.mm]):=λ F=>TF.O2 T.KD
 have u2:∀ F,List.lookup T.ma (TF T F)=some T.oa:=λ F=>TF.O2 (Tr.M3 hT)
 have g0:List.lookup k (TF T (Fh s0))=none:=Hp.out (TF.ok Eh h0) (Nat.le_refl _);have g1:=bX (show k≠b by omega);have g2:=bX (show k≠q by omega);have:=Eh.b;have:=Eh.a;have:=Eh.m;have g3:=bX (show k≠T.bx by omega);have g4:=bX (show k≠T.ma by omega);refine SW.seq (SW.gK ik Zm (Zq f1 (Zq f2 (Zq f3 (Zq f4 (Zq f5 (Zq u1 (Zq u2 (Zq g0 (Zq g1 g2))))))))) (Zq f1 (Zq f2 (Zq f3 (Zq f4 (Zq f5 (Zq g1 (Zq g2 (Zq g3 g4)))))))) True.intro ?_);refine SW.block ?_;have oH :∀ (s:σ) (xs:List Cr) (cn kk:Nat) (cs:List SV),k<=cn->cn<kk->(Fh s).ok (λ n=>decide (n<kk))=true->lk (Fh s) cn=none->KE T b q (Fh s)->∀ x,x∈((cn,Ob.box 158 cs)::(b,.box 105 [.ptr T.bx 0])::(q,.box 37 d.cells)::TF T (Fh s))->lk ((cn,Ob.box 158 cs)::(b,.box 105 [.ptr T.bx 0])::(q,.box 37 d.cells)::TF T (Fh s)) x.1=some x.2:=by
  intro s xs cn kk cs h1 h2 h3 h4 h5 x hx;have:=Eh.b;have:=Eh.a;have:=Eh.m;have c1:=bX (show cn≠b by omega);have c2:=bX (show cn≠q by omega);have c3:=bX (show b≠q from PE);simp only[List.mem_cons] at hx;rcases hx with rfl|rfl|rfl|hx
  .simp[aa]
  .simp[aa,c1]
  .simp[aa,c2,c3]
  .rcases List.mem_append.1 hx with hx|hx
   .have hl:=aK (Tr.nd hT) x hx
    have c4:x.1≠b:=λ e=>by rw[e,NM] at hl;cases hl
    have c5:x.1≠q:=λ e=>by rw[e,NN] at hl;cases hl
    have c6:x.1≠cn:=λ e=>by
     have:=(Hp.fC (Tr.qK Eh) hl).1;simp at this;omega
    rw[aa,if_neg c6,aa,if_neg c4,aa,if_neg c5];exact TF.O2 hl
   .have hl:=hy.nd s x hx
    have c4:x.1≠b:=λ e=>by rw[e,h5.b] at hl;cases hl
    have c5:x.1≠q:=λ e=>by rw[e,h5.q] at hl;cases hl
    have c6:x.1≠cn:=λ e=>by rw[e,h4] at hl;cases hl
    have c7:lk T.hp x.1=none:=by
     have e1:x.1≠T.bx:=λ e=>by rw[e,h5.x] at hl;cases hl
     have e2:x.1≠T.ma:=λ e=>by rw[e,h5.a] at hl;cases hl
     have e3:x.1≠T.mm:=λ e=>by rw[e,h5.m] at hl;cases hl
     rw[Tr.hp,aa,if_neg e1,aa,if_neg e2,aa,if_neg e3];rfl
    rw[aa,if_neg c6,aa,if_neg c4,aa,if_neg c5,TF.O3 c7];exact hl
 have g5:lk (Fh s0) k=none:=Hp.out h0 (Nat.le_refl _);have hokC:∀ (s:σ) (cn kk:Nat) (c:Cr),k<=cn->cn<kk->(Fh s).ok (λ n=>decide (n<kk))=true->Hp.ok (λ n=>decide (n<kk)) ((cn,Ob.box 158 c.cells)::(b,.box 105 [.ptr T.bx 0])::(q,.box 37 d.cells)::TF T (Fh s))=true:=λ s cn kk c h1 h2 h3=>by
  have h4:=hokT s kk (by omega) h3;unfold Hp.ok at*;rw[List.all_cons,h4];simp only[Ob.ok,Cr.aj,Bool.and_true,decide_eq_true_eq];exact h2
 refine SW.loop (α:={i:σ×List Cr×Option Cr×List Cr×Nat×Nat // NL Fh Step go T aX b q k L s0 i.1 i.2.1 i.2.2.1 i.2.2.2.1 i.2.2.2.2.1 i.2.2.2.2.2})
  (λ i=>⟨[(5,bl i.1.2.2.1.isSome),(4,.ptr i.1.2.2.2.2.1 0),(0,.yl y),(1,.ptr b 0),(2,.ptr q 0)],(i.1.2.2.2.2.1,.box 158 (i.1.2.2.1.getD Cr.zero).cells)::(b,.box 105 [.ptr T.bx 0])::(q,.box 37 d.cells)::TF T (Fh i.1.1),i.1.2.2.2.2.2⟩)
  (λ i=>i.1.2.2.2.1.length) ⟨(s0,[],MM.get T.at_ d,L,k,k+1),⟨.nil,sx,rfl,hL,⟨Nat.le_refl _,Nat.lt_succ_self _⟩,by simp,Hp.bM (by simp) h0,hoff,?_⟩⟩ id ?_ ?_
 .exact g5
 .refine aH.same (by simp) (by simp[aL,lX,List.lookup,SV.aC,SV.ok,MM.has];omega) ?_ (oH s0 [] k (k+1) _ (Nat.le_refl _) (Nat.lt_succ_self _) (Hp.bM (by simp) h0) g5 hoff)
  exact hokC s0 k (k+1) _ (Nat.le_refl _) (Nat.lt_succ_self _) (Hp.bM (by simp) h0)
 .rintro⟨⟨s,xs,oc,rest,cn,kk⟩,hi⟩
  have hi:NL Fh Step go T aX b q k L s0 s xs oc rest cn kk:=hi;obtain⟨p1,p2,p3,p4,p5,p6,p7,p8,p9⟩:=hi;dsimp only at*;have hlen:xs.length+rest.length=L.length:=by rw[<- p3,List.length_append]
  have hpos:∀ n:Nat,n<=L.length->n*(1+aX)<=L.length*(1+aX):=λ n h=>Nat.mul_le_mul_right _ h
  have c1:=bX (show cn≠b by omega);have c2:=bX (show cn≠q by omega);have c3:=bX (show cn≠T.bx by omega);have c4:=bX (show cn≠T.ma by omega);have hout:=oH s xs cn kk;have w1:=hpos xs.length (by omega);have hcn:lk ((b,Ob.box 105 [.ptr T.bx 0])::(q,.box 37 d.cells)::TF T (Fh s)) cn=none:=by
   rw[aa,if_neg (by omega),aa,if_neg (by omega),TF.O3 (by
    rw[Tr.hp,aa,if_neg (by omega),aa,if_neg (by omega),aa,if_neg (by omega)];rfl)]
   exact p9
  have hend:∀ (s':σ) (xs':List Cr) (env:List (Nat×SV)) (Kr M5:Nat) (cs:List SV) (Q:Exit->St->Prop),k<=M5->M5<Kr->Kr<=k+(1+L.length*(1+aX))->(Fh s').ok (λ n=>decide (n<Kr))=true->lk (Fh s') M5=none->KE T b q (Fh s')->
    (Q (.exit 0) ⟨[],(b,Ob.box 105 [.ptr T.bx 0])::(q,.box 37 d.cells)::TF T (Fh s'),k+(1+L.length*(1+aX))⟩)->Go.Sl.SW Tryz.prog 37 k (.exit 0) ⟨env,(M5,Ob.box 158 cs)::(b,.box 105 [.ptr T.bx 0])::(q,.box 37 d.cells)::TF T (Fh s'),Kr⟩ Q:=by
   intro s' xs' env Kr M5 cs Q h1 h2 h3 h4 h5 h6 h7;refine SW.weak id (st1:=⟨[],(b,Ob.box 105 [.ptr T.bx 0])::(q,.box 37 d.cells)::TF T (Fh s'),k+(1+L.length*(1+aX))⟩) (aH.same (Nat.le_add_right _ _) trivial (hokT s' _ (Nat.le_add_right _ _) (Hp.bM h3 h4)) λ x hx=> ?_) (SW.exit h7);exact oH s' [] M5 Kr cs h1 h2 h4 h5 h6 x (List.mem_cons_of_mem _ hx)
  have hfin:∀ (s':σ) (xs':List Cr),lY Step s0 xs' s'->xs' <+: L->(go s'=true->xs'=L)->KE T b q (Fh s')->(Fh s').ok (λ n=>decide (n<k+(1+L.length*(1+aX))))=true->
    Go.Sl.Fin k (1+L.length*(1+aX)) [] (λ r F=>r= .de []/\∃ (xs:List Cr) (s':σ),lY Step s0 xs s'/\xs <+: L/\(go s'=true->xs=L)/\KE T b q (Fh s')/\F=(b,.box 105 [.ptr T.bx 0])::(q,.box 37 d.cells)::TF T (Fh s')) ⟨[],(b,Ob.box 105 [.ptr T.bx 0])::(q,.box 37 d.cells)::TF T (Fh s'),k+(1+L.length*(1+aX))⟩:=by
   intro s' xs' h1 h2 h3 h4 h5;exact End.mk ((b,Ob.box 105 [.ptr T.bx 0])::(q,.box 37 d.cells)::TF T (Fh s')) (h3:=λ _ _ h=>h) (h4:=⟨rfl,xs',s',h1,h2,h3,h4,rfl⟩) (h6:=hokT s' _ (Nat.le_add_right _ _) h5) (h7:=Nat.le_refl _)
  have hc:(oc=none/\rest=[])\/∃ c R,oc=some c/\rest=c::R/\(0<c.level->mC T.at_ (MM.get T.at_ c.par) R)/\(¬ 0<c.level->R=[]):=by
   cases p4 with
   | none=>exact .inl ⟨rfl,rfl⟩
   | root c hc=>exact .inr ⟨c,[],rfl,rfl,λ h=>absurd h hc,λ _=>rfl⟩
   | more c R hc hR=>exact .inr ⟨c,R,rfl,rfl,λ _=>hR,λ h=>absurd hc h⟩
  rcases hc with⟨rfl,rfl⟩|⟨c,R,rfl,rfl,hm,hr⟩
  .refine SW.seq (SW.seq ?_)
   refine SW.gK ik Zm af (Zq f1 (Zq f2 (Zq f3 (Zq f4 (Zq f5 (Zq g1 (Zq g2 (Zq g3 g4)))))))) True.intro ?_;refine SW.ah rfl (hend s xs _ kk cn _ _ p5.1 p5.2 (by omega) p7 p9 p8 ?_);dsimp only;rw[if_pos rfl];exact hfin s xs p1 (by rw[<- p3,List.append_nil];exact List.prefix_rfl) (λ _=>by rw[<- p3,List.append_nil]) p8 (Hp.bM (by omega) p7)
  .simp only[List.length_cons] at hlen
   have w2:=hpos (xs.length+1) (by omega);rw[Nat.add_mul,Nat.one_mul] at w2;refine SW.seq (SW.seq (SW.xd ?_));(repeat (first|refine bq.op af (h:=?_)|refine bq.di af (h:=?_)|refine bq.skip (h:=?_)));have hsub:HSub (Fh s) ((cn,Ob.box 158 c.cells)::(b,.box 105 [.ptr T.bx 0])::(q,.box 37 d.cells)::TF T (Fh s)):=λ n ob hn=>by
    have h1:n≠cn:=λ e=>by rw[e,p9] at hn;cases hn
    have h2:n≠b:=λ e=>by rw[e,p8.b] at hn;cases hn
    have h3:n≠q:=λ e=>by rw[e,p8.q] at hn;cases hn
    have h4:n≠T.bx:=λ e=>by rw[e,p8.x] at hn;cases hn
    have h5:n≠T.ma:=λ e=>by rw[e,p8.a] at hn;cases hn
    have h6:n≠T.mm:=λ e=>by rw[e,p8.m] at hn;cases hn
    rw[aa,if_neg h1,aa,if_neg h2,aa,if_neg h3,TF.O3 (by rw[Tr.hp,aa,if_neg h4,aa,if_neg h5,aa,if_neg h6];rfl)];exact hn
   refine bq.A3 (by simp only[List.lookup,Nat.reduceBEq]<;>rfl) (by simp only[ev,List.lookup,Nat.reduceBEq]<;>rfl) (by simp only[ev,qc,List.lookup,Nat.reduceBEq]<;>rfl) (hy.u5 s) (hy.call s xs c kk p1 (by omega) p7 p2) hsub ?_;rintro v F' ⟨s',hstep,rfl,rfl,hok',hnm⟩;rw[iW];have hno:∀ n,n<kk->lk (Fh s) n=none->lk (Fh s') n=none:=λ n h1 h2=>Classical.byContradiction λ hn=>(hnm n hn).elim (λ h=>h h2) (λ h=>by omega)
   have q8:KE T b q (Fh s'):=⟨hno _ (by omega) p8.b,hno _ (by omega) p8.q,hno _ (by omega) p8.x,hno _ (by omega) p8.a,hno _ (by omega) p8.m⟩;have q9:=hno cn (by omega) p9;have q1:=lY.snoc p1 hstep;have hlk:=iI (ro:=false) hsub (F':=Fh s') (λ h=>by cases h);have hin:∀ z,z∈((cn,Ob.box 158 c.cells)::(b,.box 105 [.ptr T.bx 0])::(q,.box 37 d.cells)::TF T (Fh s'))->lk (bU false ((cn,Ob.box 158 c.cells)::(b,.box 105 [.ptr T.bx 0])::(q,.box 37 d.cells)::TF T (Fh s)) (Fh s) (Fh s')) z.1=some z.2:=by
    intro z hz;rw[hlk];simp only[List.mem_cons] at hz;rcases hz with rfl|rfl|rfl|hz
    .rw[dH p9 q9];simp[aa]
    .rw[dH p8.b q8.b];exact oH s xs cn kk c.cells p5.1 p5.2 p7 p9 p8 (b,Ob.box 105 [.ptr T.bx 0]) (by simp)
    .rw[dH p8.q q8.q];exact oH s xs cn kk c.cells p5.1 p5.2 p7 p9 p8 (q,Ob.box 37 d.cells) (by simp)
    .rcases List.mem_append.1 hz with hz|hz
     .have hx:z.1=T.bx\/z.1=T.ma\/z.1=T.mm:=by
       simp only[Tr.hp,List.mem_cons,List.not_mem_nil,or_false] at hz;rcases hz with rfl|rfl|rfl<;>simp
      have e1:lk (Fh s) z.1=none:=by rcases hx with e|e|e<;>rw[e]<;>first|exact p8.x|exact p8.a|exact p8.m
      have e2:lk (Fh s') z.1=none:=by rcases hx with e|e|e<;>rw[e]<;>first|exact q8.x|exact q8.a|exact q8.m
      rw[dH e1 e2];exact oH s xs cn kk c.cells p5.1 p5.2 p7 p9 p8 _ (by simp only[List.mem_cons];exact .inr (.inr (.inr (List.mem_append_left _ hz))))
     .have:=hy.nd s' z hz
      rw[fm (.inr (by rw[this];simp)),this]
   refine SW.P3 (st1:=⟨[(19,bl (go s')),(16,bl true),(5,bl true),(4,.ptr cn 0),(0,.yl y),(1,.ptr b 0),(2,.ptr q 0)],(cn,Ob.box 158 c.cells)::(b,.box 105 [.ptr T.bx 0])::(q,.box 37 d.cells)::TF T (Fh s'),kk+aX⟩) (aH.same (by show k<=kk+aX;omega) (by simp[aL,lX,rA,List.lookup,SV.aC,SV.ok];omega) (hokC s' cn (kk+aX) c p5.1 (by omega) hok') hin) ?_;rcases hg:go s' with _|_
   ·(repeat (first|refine bq.op af (h:=?_)|refine bq.di af (h:=?_)|refine bq.skip (h:=?_)))
    refine bq.nil ?_;refine SW.ah rfl (hend s' (xs++[c]) _ (kk+aX) cn _ _ p5.1 (by omega) (by omega) hok' q9 q8 ?_);dsimp only;rw[if_pos rfl];exact hfin s' (xs++[c]) q1 (by rw[<- p3];exact⟨R,by simp⟩) (λ h=>by rw[hg] at h;cases h) q8 (Hp.bM (by omega) hok')
   .rcases hlv:decide (c.level>0) with _|_
    ·(repeat (first|refine bq.op (hlv) (h:=?_)|refine bq.di (hlv) (h:=?_)|refine bq.skip (h:=?_)))
     refine bq.nil ?_;refine SW.ah rfl (hend s' (xs++[c]) _ (kk+aX) cn _ _ p5.1 (by omega) (by omega) hok' q9 q8 ?_);dsimp only;rw[if_pos rfl];have hR:=hr (by simpa using hlv);exact hfin s' (xs++[c]) q1 (by rw[<- p3,hR];exact List.prefix_rfl) (λ _=>by rw[<- p3,hR]) q8 (Hp.bM (by omega) hok')
    ·(repeat (first|refine bq.op (hlv) (h:=?_)|refine bq.di (hlv) (h:=?_)|refine bq.skip (h:=?_)))
     refine bq.nil ?_;refine SW.an rfl (SW.skip ?_);have z1:=bX (show kk+aX≠cn by omega);have z2:=bX (show kk+aX≠b by omega);have z3:=bX (show kk+aX≠q by omega);have z4:List.lookup (kk+aX) (TF T (Fh s'))=none:=Hp.out (TF.ok (T:=T) ⟨by omega,by omega,by omega⟩ hok') (Nat.le_refl _);refine SW.seq (SW.block ?_);refine SW.gK ik Zm (Zq c1 (Zq c2 (Zq c3 (Zq c4 (Zq f1 (Zq f2 (Zq f3 (Zq f4 (Zq f5 (Zq u1 u2)))))))))) (Zq c1 (Zq c2 (Zq c3 (Zq c4 (Zq f1 (Zq f2 (Zq f3 (Zq f4 f5)))))))) True.intro ?_;refine SW.seq ?_;refine SW.gK ik Zm af (Zq c1 (Zq c2 (Zq c3 (Zq c4 (Zq f1 (Zq f2 (Zq f3 (Zq f4 f5)))))))) True.intro ?_;refine SW.gK ik Zm (Zq z1 (Zq z2 (Zq z3 (Zq z4 f1)))) (Zq c1 (Zq c2 (Zq c3 (Zq c4 (Zq f1 (Zq f2 (Zq f3 (Zq f4 f5)))))))) True.intro ?_;refine⟨⟨(s',xs++[c],MM.get T.at_ c.par,R,kk+aX,kk+aX+1),q1,hg,by rw[<- p3];simp,hm (by simpa using hlv),⟨by show k<=kk+aX;omega,Nat.lt_succ_self _⟩,by
      show kk+aX+1<=k+1+(xs++[c]).length*(1+aX);rw[List.length_append,List.length_singleton,Nat.add_mul,Nat.one_mul];omega,Hp.bM (by simp) hok',q8,Hp.out hok' (Nat.le_refl _)⟩,id,Nat.lt_succ_self _,aH.same (by show k<=kk+aX+1;omega) (by simp[aL,List.lookup,SV.aC,SV.ok,MM.has];omega) (hokC s' (kk+aX) (kk+aX+1) _ (by omega) (Nat.lt_succ_self _) (Hp.bM (by simp) hok')) (λ x hx=> ?_)⟩
     have hx:x∈((kk+aX,Ob.box 158 ((MM.get T.at_ c.par).getD Cr.zero).cells)::(b,.box 105 [.ptr T.bx 0])::(q,.box 37 d.cells)::TF T (Fh s')):=hx;rcases List.mem_cons.1 hx with rfl|hx
     .exact ej
     .have h1:=oH s' [] cn (kk+aX) ((MM.get T.at_ c.par).getD Cr.zero).cells p5.1 (by omega) hok' q9 q8 x (List.mem_cons_of_mem _ hx)
      have h2:=(Hp.fC (hokC s' cn (kk+aX) ((MM.get T.at_ c.par).getD Cr.zero) p5.1 (by omega) hok') h1).1;rw[aa,if_neg (by simp at h2;omega)];exact h1
end
section
attribute [local irreducible] SW RW aF SC ai ak
structure Fu (y bx:Nat) where
 l:List Dt
 rn:Nat
 h1:rn≠y
 h2:rn≠bx
def iY (y bx N:Nat)(ts ps:List Nat)(ca cb:Code)(s:Fu y bx):Hp:=
 [(y,.p0 N ts [.ptr bx 0] ps ca cb .ready none),(bx,.box 31 [.gs s.rn s.l.length]),(s.rn,.arr 37 2 s.l.length ((s.l.flatMap Dt.ds).map .d))]
set_option maxHeartbeats 1000000 in
theorem CX {y bx B:Nat}(NO:y≠bx)(s0:Fu y bx)(hB:s0.l.length+B<4611686018427){ca cb:Code}
    (hca:cK Tryz.prog 29 ca=some (.fD [⟨some 9,.alloc 158 [.d (.int .u8 0),.d (.int .u32 0),.d (.int .u8 0),.d (.int .u32 0),.d (.int .u8 0),.d (.int .u32 0),.d (.int .u32 0),.d (.int .u8 0),.d (.int .u8 0),.d (.int .u64 0),.d (.int .i64 0)],none⟩,⟨none,.store 11 (.t 9) (.t 22),none⟩] (oo 2) false))
    (hcb:cK Tryz.prog 29 cb=some (.block 1 (.fD [⟨some 23,.load none (.t 8),none⟩,⟨some 24,.a_ 0 (.t 9),none⟩,⟨some 25,.load (some 2) (.t 24),none⟩,⟨some 26,.kK 37 2 1 [.d (.int .u8 0),.d (.int .u32 0)] [(0,2,.t 25)],none⟩,⟨some 27,.app 37 2 8 (.t 23) (.t 26),none⟩,⟨none,.store 1 (.t 8) (.t 27),none⟩] (oo 6) false))):
    pJ Tryz.prog y (λ x:Cr=> .agg x.cells) 2 (iY y bx 29 [8] [22] ca cb) (λ s x s'=>s'.l=s.l++[x.dot]) (λ _=>true) s0 B:=by
  refine⟨λ s=>by simp[iY,aa],λ s x hx=> ?_,λ s xs x k hon hlt hok _=> ?_⟩
  . have f1:=bX NO
    have f2:=bX s.h1;have f3:=bX s.h2;simp only[iY,List.mem_cons,List.not_mem_nil,or_false] at hx;rcases hx with rfl|rfl|rfl<;>simp[iY,aa,f1,f2,f3]
  . have hlen:s.l.length=s0.l.length+xs.length:=by
      clear hlt hok
      induction hon with
      | nil=>rfl
      | snoc _ h ih=>rw[h];simp[ih];omega
    obtain⟨l,rn,h1,h2⟩:=s;simp only at hlen;simp only[iY,Hp.ok,List.all_cons,List.all_nil,Ob.ok,SV.au,SV.ok,SV.aZ,Bool.and_true,Bool.and_eq_true,decide_eq_true_eq] at hok;obtain⟨⟨k1,_⟩,⟨k2,_⟩,k3⟩:=hok;have f1:=bX NO;have f2:=bX h1;have f3:=bX h2;have g1:=bX (show k≠y by omega);have g2:=bX (show k≠bx by omega);have g3:=bX (show k≠rn by omega);have g4:=bX (show k+1≠k by omega);have g5:=bX (show k+1≠y by omega);have g6:=bX (show k+1≠bx by omega);have g7:=bX (show k+1≠rn by omega);refine Ef.here (λ n=>n == y || n == bx || n == rn) (Ef.ua (cs:=[.ptr bx 0]) (H:=[(bx,.box 31 [.gs rn l.length]),(rn,.arr 37 2 l.length ((l.flatMap Dt.ds).map .d))]) hca hcb rfl rfl rfl (by simp) k1 (by simp[aa,bA,f1,f2]) (by simp[SV.au,SV.ok]) (by simp[Hp.ok,Ob.ok,SV.au,SV.ok,SV.aZ];omega) (by simp[SV.au,SV.ok];omega) ?_) ?_ (by simp[SV.au,SV.ok]) (by simp[iY,Hp.ok,Ob.ok,SV.au,SV.ok,SV.aZ]) ?_
    . skip
      show Go.Sl.SW _ _ _ _ ⟨[(22,.agg x.cells),(8,.ptr bx 0)],_,_⟩ _;refine SW.g0 [8,9,22] Zm (Zq f1 (Zq f2 (Zq f3 (Zq g1 (Zq g2 g3))))) ?_;refine⟨rfl,SW.block ?_⟩;refine SW.g0 [8,9,22] Zm (Zq f1 (Zq f2 (Zq f3 (Zq g1 (Zq g2 (Zq g3 (Zq g4 (Zq g5 (Zq g6 g7))))))))) ?_;have e2:((l++[x.dot]).flatMap Dt.ds).map SV.d=(List.flatMap Dt.ds l).map SV.d++x.dot.ds.map SV.d:=by simp
      refine⟨none,true,[(bx,.box 31 [.gs (k+1) (l++[x.dot]).length]),(k+1,.arr 37 2 (l++[x.dot]).length (((l++[x.dot]).flatMap Dt.ds).map .d))],⟨rfl,rfl⟩,?_,?_,by simp,⟨⟨l++[x.dot],k+1,by omega,by omega⟩,rfl,rfl,rfl,?_,?_⟩⟩
      . refine HSub.cons ?_ (HSub.cons ?_ (HSub.nil _))
        . simp[aa,f1,f2,f3,g1,g2,g3,g4,g5,g6,g7,cq]
        . rw[e2];simp[aa]
      . simp[Hp.ok,Ob.ok,SV.au,SV.ok,SV.aZ,-List.flatMap_append,-List.map_append];omega
      . simp[iY,Hp.ok,Ob.ok,SV.au,SV.ok,SV.aZ,-List.flatMap_append,-List.map_append];omega
      . intro n hn
        by_cases hy':n=y
        . exact .inl (by simp[iY,aa,hy'])
        . by_cases hbx:n=bx
          . exact .inl (by simp[iY,aa,hbx,f1])
          . refine .inr ?_
            have:n=k+1:=Classical.byContradiction λ hne=>hn (by simp[iY,aa,bA,hy',hbx,hne])
            omega
    . intro n hn
      simp only[Bool.or_eq_true,beq_iff_eq] at hn;rcases hn with(rfl|rfl)|rfl<;>simp[iY,aa,f1,f2,f3]
    . rintro r F' ⟨s',hs',rfl,rfl,hok',hnm⟩ _ _
      obtain⟨l',rn',h1',h2'⟩:=s';refine⟨rfl,?_⟩;simp[iY,Hp.ok,Ob.ok,SV.au,SV.ok,SV.aZ];have hh:=hnm rn' (by simp[iY,aa,h1',h2']);rcases hh with hh|⟨hh1,hh2⟩
      . have:rn'=rn:=by
          refine Classical.byContradiction λ hne=>hh ?_
          simp[iY,aa,bA,h1',h2',hne]
        simp[this]
      . simp[hh1];omega
end
section
attribute [local irreducible] SW RW aF SC ai ak
theorem NP (a:MM Dt Cr)(ca:Nat)(m:MM Dt ag)(cm:Nat)(d:Dt):SB Tryz.prog tree_Tree_up.f [.ptr 0 0,.agg d.cells] (gE a ca m cm) 3 2 (λ r F'=>r= .fn (.func tree_Tree_up_1.f) [] [.ptr 3 0,.ptr 4 0]/\F'=(4,.box 37 d.cells)::(3,.box 105 [.ptr 0 0])::gE a ca m cm):=by
 refine tree_Tree_up.enter (by simp[SV.au,SV.ok]) (dJ a ca m cm (Nat.le_refl 3)) (by simp) ?_;dsimp only[tree_Tree_up.s,Co.M,Co.J,Co.F,Co.x,Co.S];(repeat (first|refine SW.seq ?_|refine SW.block ?_|refine SW.g0 eg Zm af ?_|refine SW.skip ?_|refine SW.exit ?_|refine SW.ret ?_|refine SW.an rfl ?_|refine SW.ah rfl ?_));refine End.mk ((4,.box 37 d.cells)::(3,.box 105 [.ptr 0 0])::gE a ca m cm) (h3:=λ _ _ h=>h) (h4:=⟨rfl,rfl⟩) (h6:= ?_);exact ax (by simp) (by simp[Ob.ok,SV.aZ,Dt.cells,SV.au,SV.ok]) (ax (by simp) (by simp[Ob.ok,SV.au,SV.ok]) (dJ a ca m cm (by omega)))
theorem KF (a:MM Dt Cr)(ca:Nat)(m:MM Dt ag)(cm:Nat)(d:Dt)(k:Nat)(hk:3<=k):aF Tryz.prog tree_Tree_up.f [.ptr 0 0,.agg d.cells] (gE a ca m cm) k 2 (.fn (.func tree_Tree_up_1.f) [] [.ptr k 0,.ptr (k+1) 0]) ((k+1,.box 37 d.cells)::(k,.box 105 [.ptr 0 0])::gE a ca m cm):=by
 have h:=SB.nB [0,1,2] (NP a ca m cm d) (by decide) (sL _ _ _ _) k;have e:Hp.aC (fz [0,1,2] k) (gE a ca m cm)=gE a ca m cm:=od ⟨0,1,2,a,ca,m,cm⟩ k;have e3:fz [0,1,2] k 3=k:=by simp[fz]
 have e4:fz [0,1,2] k 4=k+1:=by simp[fz];omega
 have e0:fz [0,1,2] k 0=0:=rfl;have e5:∀ x y:Nat×Ob,Hp.aC (fz [0,1,2] k) (x::y::gE a ca m cm)=(fz [0,1,2] k x.1,x.2.aC (fz [0,1,2] k))::(fz [0,1,2] k y.1,y.2.aC (fz [0,1,2] k))::Hp.aC (fz [0,1,2] k) (gE a ca m cm):=λ _ _=>rfl
 rw[e5,e] at h;simp only[SV.aU,SV.aC,Ob.aC,Dt.aA,e0,e3,e4,List.length_cons,List.length_nil] at h;exact h
theorem CY {y bx:Nat}{s0 s:Fu y bx}{xs:List Cr}(h:lY (λ (s:Fu y bx) (x:Cr) s'=>s'.l=s.l++[x.dot]) s0 xs s):s.l=s0.l++xs.map (·.dot):=by
 induction h with
 | nil=>simp
 | snoc _ h ih=>rw[h,ih];simp
def gW (a:MM Dt Cr)(d:Dt)(L:List Cr):SV:=if MM.has a d then .de [.d (.sl L.length ((L.map (·.dot)).flatMap Dt.ds)),.d (.int .i64 0)] else .de [.d .aG,.d (.int .i64 7)]
set_option maxHeartbeats 4000000 in
theorem Fv (a:MM Dt Cr)(ca:Nat)(m:MM Dt ag)(cm:Nat)(d:Dt)(L:List Cr)(hL:mC a (MM.get a d) L)(hlen:L.length<1000000):
  SB Tryz.prog tree_Tree_Chain.f [.ptr 0 0,.agg d.cells] (gE a ca m cm) 3 (6+L.length*(1+2)) (λ r F'=>r=gW a d L/\F'=gE a ca m cm):=by
 refine tree_Tree_Chain.enter (by simp[SV.au,SV.ok]) (dJ a ca m cm (Nat.le_refl 3)) (by simp) ?_;dsimp only[tree_Tree_Chain.s,Co.M,Co.J,Co.F,Co.Z,Co.b8,Co.ay,Co.bu,Co.i6,Co.T,Co.K,Co.E,Co.Q,Co.x,Co.W,Co.Y,Co.D,Co.S];have kR:∀ k,aF Tryz.prog tree_Tree_Get.f [.ptr 0 0,.agg d.cells] (gE a ca m cm) k 3 (.de [.agg ((MM.get a d).getD Cr.zero).cells,i64 (if MM.has a d then 0 else 7)]) (gE a ca m cm):=λ k=>get_at (pQ a ca m cm) d k
 have hup:aF Tryz.prog tree_Tree_up.f [.ptr 0 0,.agg d.cells] (gE a ca m cm) 9 2 (.fn (.func tree_Tree_up_1.f) [] [.ptr 9 0,.ptr 10 0]) ((10,.box 37 d.cells)::(9,.box 105 [.ptr 0 0])::gE a ca m cm):=KF a ca m cm d 9 (by omega);unfold gW;rcases hh:MM.has a d with _|_
 .rw[hh] at kR
  simp only[Bool.false_eq_true,if_false] at kR ⊢;refine SW.seq (SW.g2 fg Zm hh kR hup ?_);refine SW.seq (SW.seq (SW.g2 fg Zm hh kR hup ?_));refine SW.seq (SW.g2 fg Zm hh kR hup ?_);refine SW.an rfl (SW.seq (SW.g2 fg Zm hh kR hup ?_));refine SW.weak id (st1:=⟨[(4,.d .aG),(5,.d (.int .i64 7))],gE a ca m cm,3+(6+L.length*(1+2))⟩) (aH.same (by show 3<=3+_;omega) (by simp[aL,List.lookup,SV.aC,SV.ok]) (dJ a ca m cm (by show 3<=3+(6+L.length*(1+2));omega)) (λ x hx=> ?_)) (SW.ret ?_)
  .simp only[List.mem_cons,List.not_mem_nil,or_false] at hx
   rcases hx with rfl|rfl|rfl<;>rfl
  .exact End.mk (gE a ca m cm) (h3:=λ _ _ h=>h) (h4:=⟨rfl,rfl⟩) (h6:=dJ a ca m cm (by omega)) (h7:=Nat.le_refl _)
 .rw[hh] at kR
  simp only[if_true] at kR ⊢;(repeat (first|refine SW.seq ?_|refine SW.block ?_|refine SW.g2 fg Zm hh kR hup ?_|refine SW.skip ?_|refine SW.exit ?_|refine SW.ret ?_|refine SW.an rfl ?_|refine SW.ah rfl ?_));refine SW.ye 8 31 37 2 (by rfl) ?_
  let s0:Fu 7 3:=⟨[],6,by decide,by decide⟩
  refine SW.weak (λ n=>if n=3 then 8 else if n=4 then 9 else if n=5 then 10 else if n=6 then 11 else n) (st1:=⟨[(21,.fn (.func tree_Tree_up_1.f) [] [.ptr 4 0,.ptr 5 0]),(8,.ptr 3 0)],(3,.box 31 [.gs 6 0])::(6,.arr 37 2 0 [])::(4,.box 105 [.ptr 0 0])::(5,.box 37 d.cells)::gE a ca m cm,7⟩) ⟨by show(3:Nat)<=7;decide,λ n hn=> ?_,?_,?_,?_⟩ ?_
  .show(if n=3 then 8 else if n=4 then 9 else if n=5 then 10 else if n=6 then 11 else n)=n
   rw[if_neg (by omega),if_neg (by omega),if_neg (by omega),if_neg (by omega)]
  .simp[aL,List.lookup,SV.aC,SV.ok,SV.aU,SV.au]
  .simp[tS,aa,Ob.aC,SV.aU,SV.aC,SV.dN,SV.aZ,Ob.ok,SV.au,SV.ok,Dt.aA,Dt.aj,jY,kB,cQ,bF]
  .intro x hx y hy e
   simp only[List.map_cons,List.map_nil,List.mem_cons,List.not_mem_nil,or_false] at hx hy;rcases hx with rfl|rfl|rfl|rfl|rfl|rfl|rfl<;>rcases hy with rfl|rfl|rfl|rfl|rfl|rfl|rfl<;>simp at e<;>rfl
  refine SW.sD (nk:=1+L.length*(1+2)) [8] [.ptr 3 0] rfl ⟨rfl,trivial⟩ λ ca' cb' hca hcb=> ?_
  have hy:=CX (y:=7) (bx:=3) (B:=L.length) (by decide) s0 (by simp[s0];omega) hca hcb;have hsb:=Ft (y:=7) (b:=4) (q:=5) (k:=8) (T:=jB a ca m cm) (d:=d) (pQ a ca m cm) hL s0 hy (by simp[iY,s0,Hp.ok,Ob.ok,SV.au,SV.ok]) (by decide) (by decide) (by decide) (qD a ca m cm (by decide)) (by rfl) (by rfl) ⟨by rfl,by rfl,by rfl,by rfl,by rfl⟩ rfl;have hsubF:HSub ((4,Ob.box 105 [.ptr 0 0])::(5,.box 37 d.cells)::TF (jB a ca m cm) (iY 7 3 29 [8] [22] ca' cb' s0)) ((7,.p0 29 [8] [.ptr 3 0] [22] ca' cb' .ready none)::(3,.box 31 [.gs 6 0])::(6,.arr 37 2 0 [])::(4,.box 105 [.ptr 0 0])::(5,.box 37 d.cells)::gE a ca m cm):=by
   intro n ob hn
   match n with
   | 0|1|2|3|4|5|6|7=>simpa[TF,Tr.hp,iY,s0,aa] using hn
   | n+8=>simp[TF,Tr.hp,iY,s0,aa,bA] at hn
  have hsc:=(hsb.here (λ n=>decide (n<8)) (λ n hn=> ?_) (by simp[SV.au,SV.ok]) ?_ ?_).frame hsubF
  .refine hsc.mono ?_
   rintro r F' ⟨F1,⟨rfl,xs,s',hon,hpre,hall,hoff,rfl⟩,rfl⟩;have hl:=CY hon;have hxs:xs=L:=hall rfl;obtain⟨l,rn,hr1,hr2⟩:=s';have hl:l=L.map (·.dot):=by rw[<- hxs];simpa[s0] using hl
   obtain⟨o1,o2,o3,o4,o5⟩:=hoff;have hn4:rn≠4:=λ e=>by simp[iY,e,aa] at o1
   have hn5:rn≠5:=λ e=>by simp[iY,e,aa] at o2
   have hn0:rn≠0:=λ e=>by simp[iY,e,aa] at o3
   have hn1:rn≠1:=λ e=>by simp[iY,e,aa] at o4
   have hn2:rn≠2:=λ e=>by simp[iY,e,aa] at o5
   have hll:l.length=L.length:=by rw[hl,List.length_map]
   have hlk:=iI (ro:=false) (F':=(4,Ob.box 105 [.ptr 0 0])::(5,.box 37 d.cells)::TF (jB a ca m cm) (iY 7 3 29 [8] [22] ca' cb' ⟨l,rn,hr1,hr2⟩)) hsubF (λ h=>by cases h);generalize bU false _ _ _=G at hlk;have hG:∀ n ob,lk ((4,Ob.box 105 [.ptr 0 0])::(5,.box 37 d.cells)::TF (jB a ca m cm) (iY 7 3 29 [8] [22] ca' cb' ⟨l,rn,hr1,hr2⟩)) n=some ob->lk G n=some ob:=λ n ob h=>by
    rw[hlk,fm (.inr (by rw[h];simp)),h]
   refine⟨none,hG 7 _ (by simp[TF,Tr.hp,iY,aa,mN]),?_⟩;refine SW.weak (λ n=>if n=6 then rn else n) (st1:=⟨[(8,.ptr 3 0)],(3,.box 31 [.gs 6 L.length])::(6,.arr 37 2 L.length ((l.flatMap Dt.ds).map .d))::gE a ca m cm,7+1+(1+L.length*(1+2))⟩) ?_ ?_
   .have q3:=hG 3 (.box 31 [.gs rn l.length]) (by simp[TF,Tr.hp,iY,aa])
    have q6:=hG rn (.arr 37 2 l.length ((l.flatMap Dt.ds).map .d)) (by simp[TF,Tr.hp,iY,aa,hn0,hn1,hn2,hn4,hn5,hr1,hr2]);have q0:=hG 0 (.box 166 [.mp 1,.mp 2]) (by simp[TF,Tr.hp,aa]);have q1:=hG 1 (.map (aq Dt.cells cv a) ca) (by simp[TF,Tr.hp,aa]);have q2:=hG 2 (.map (aq Dt.cells ov m) cm) (by simp[TF,Tr.hp,aa]);rw[hll] at q3 q6;refine⟨by show 3<=7+1+(1+L.length*(1+2));omega,λ n hn=>if_neg (by omega),?_,?_,?_⟩
    .simp[aL,List.lookup,SV.aC,SV.ok];omega
    .simp[tS,cZ,Ob.aC,SV.aU,SV.aC,SV.dN,SV.aZ,Ob.ok,SV.au,SV.ok,q3,q6,q2,q0,q1,hr1,jY,kB,cQ,bF];omega
    .intro x hx y hy e
     simp only[List.map_cons,List.map_nil,List.mem_cons,List.not_mem_nil,or_false] at hx hy;rcases hx with rfl|rfl|rfl|rfl|rfl<;>rcases hy with rfl|rfl|rfl|rfl|rfl<;>simp at e<;>first|rfl|omega
   .refine SW.seq ?_
    refine SW.g0 fg Zm af ?_;refine SW.freeze 6 (l.flatMap Dt.ds) rfl rfl (SW.ret ?_);rw[<- hl];exact End.mk (gE a ca m cm) (h4:=⟨by simp[ez,SV.gz],rfl⟩) (h5:=by simp[ez,SV.gz,SV.ok,SV.au]) (h6:=dJ a ca m cm (by omega)) (h7:=by show 3+(6+L.length*(1+2))<=7+1+(1+L.length*(1+2));omega)
  .match n,hn with
   | 0,_|1,_|2,_|3,_|4,_|5,_|6,_|7,_=>simp[TF,Tr.hp,iY,s0,aa]
   | n +8,h=>
     have:n+8<8:=by simpa using h
     omega
  .refine ax rfl (by simp[Ob.ok,SV.au,SV.ok]) (ax rfl (by simp[Ob.ok,Dt.aj]) ?_)
   have h1:(jB a ca m cm).hp.ok (λ n=>decide (n<8))=true:=Tr.qK (qD a ca m cm (by decide));have h2:(iY 7 3 29 [8] [22] ca' cb' s0).ok (λ n=>decide (n<8))=true:=by simp[iY,s0,Hp.ok,Ob.ok,SV.au,SV.ok,SV.aZ]
   unfold Hp.ok at*;rw[TF,List.all_append,h1,h2];rfl
  .rintro r F' _ h1 h2
   refine⟨SV.fG (λ n hn=> ?_) _ h1,Hp.eu (λ n hn=> ?_) h2⟩<;>(simp at hn ⊢;omega)
theorem Bb (f:Nat->Nat)(a:MM Dt Cr)(d:Dt)(L:List Cr):(gW a d L).aC f=gW a d L:=by
 unfold gW;split<;>rfl
theorem Fw {T:Tr}(hs:T.sep)(d:Dt)(L:List Cr)(hL:mC T.at_ (MM.get T.at_ d) L)(hlen:L.length<1000000)(k:Nat):aF Tryz.prog tree_Tree_Chain.f [.ptr T.bx 0,.agg d.cells] T.hp k (6+L.length*(1+2)) (gW T.at_ d L) T.hp:=by
 have h:=SB.nB [T.bx,T.ma,T.mm] (Fv T.at_ T.ca T.made T.cm d L hL hlen) (Tr.NJ hs) (sL _ _ _ _) k;rw[od,Bb] at h;simp only[SV.aU,SV.aC,Dt.aA] at h;exact h
end
section
attribute [local irreducible] SW RW aF SC ai ak
def NQ (s:Bool):Option Code:=if s then some .ret else none
def lZ (N y b4 b6:Nat)(e:Dt)(ca cb:Code)(s:Bool):Hp:=
 [(y,.p0 N [4,6] [.ptr b4 0,.ptr b6 0] [18] ca cb (mN (NQ s)) (NQ s)),(b4,.box 37 e.cells),(b6,.box 4 [bl s])]
theorem zK {N y b4 b6:Nat}{e:Dt}{ca cb:Code}{s s':Bool}{n:Nat}(h:lk (lZ N y b4 b6 e ca cb s') n≠none):lk (lZ N y b4 b6 e ca cb s) n≠none:=by
  simp only[lZ,aa] at h ⊢
  by_cases h1:n=y
  . simp[h1]
  . by_cases h2:n=b4
    . rw[if_neg h1,if_pos h2];simp
    . by_cases h3:n=b6
      . rw[if_neg h1,if_neg h2,if_pos h3];simp
      . rw[if_neg h1,if_neg h2,if_neg h3] at h
        exact absurd rfl h
set_option maxHeartbeats 1000000 in
theorem CZ {y b4 b6 B:Nat}(h1:y≠b4)(h2:y≠b6)(h3:b4≠b6)(e:Dt){ca cb:Code}
  (hca:cK Tryz.prog 23 ca=some (.fD [⟨some 7,.alloc 158 [.d (.int .u8 0),.d (.int .u32 0),.d (.int .u8 0),.d (.int .u32 0),.d (.int .u8 0),.d (.int .u32 0),.d (.int .u32 0),.d (.int .u8 0),.d (.int .u8 0),.d (.int .u64 0),.d (.int .i64 0)],none⟩,⟨none,.store 11 (.t 7) (.t 18),none⟩] (oo 2) false))
  (hcb:cK Tryz.prog 23 cb=some (.block 1 (.seq (.fD [⟨some 19,.a_ 0 (.t 7),none⟩,⟨some 20,.load (some 2) (.t 19),none⟩,⟨some 21,.load (some 2) (.t 4),none⟩,⟨some 22,.eqv false [true,true] (.t 20) (.t 21),none⟩] (oo 4) false)
   (.cond (.t 22) (.seq (.fD [⟨none,.store 1 (.t 6) (.k (.d (.bool true))),none⟩] (oo 1) false) .ret) .skip)))):
  pJ Tryz.prog y (λ x:Cr=> .agg x.cells) 1 (lZ 23 y b4 b6 e ca cb) (λ s x s'=>s'=(s || decide (x.dot=e))) (λ s=> !s) false B:=by
 have f1:=bX h1;have f2:=bX h2;have f3:=bX h3;refine⟨λ s=>by simp[lZ,aa],λ s x hx=> ?_,λ s xs x k hon hlt hok sx=> ?_⟩
 .simp only[lZ,List.mem_cons,List.not_mem_nil,or_false] at hx
  rcases hx with rfl|rfl|rfl<;>simp[lZ,aa,f1,f2,f3]
 .have hs:s=false:=by simpa using sx
  subst hs;simp only[lZ,Hp.ok,List.all_cons,List.all_nil,Ob.ok,SV.au,SV.ok,SV.aZ,Dt.aj,Bool.and_true,Bool.and_eq_true,decide_eq_true_eq] at hok;obtain⟨⟨k1,_⟩,k2,k3⟩:=hok;have g1:=bX (show k≠y by omega);have g2:=bX (show k≠b4 by omega);have g3:=bX (show k≠b6 by omega);refine Ef.here (λ n=>n == y || n == b4 || n == b6) (Ef.ua (cs:=[.ptr b4 0,.ptr b6 0]) (H:=[(b4,.box 37 e.cells),(b6,.box 4 [bl false])]) hca hcb rfl rfl rfl (by simp) k1 (by simp[aa,bA,f1,f2]) (by simp[SV.au,SV.ok,Cr.aj]) (by simp[Hp.ok,Ob.ok,SV.au,SV.ok,SV.aZ,Dt.aj];omega) (by simp[SV.au,SV.ok];omega) ?_) ?_ (by simp[SV.au,SV.ok,Cr.aj]) (by simp[lZ,Hp.ok,Ob.ok,SV.au,SV.ok,SV.aZ,Dt.aj]) ?_
  .skip
   show Go.Sl.SW _ _ _ _ ⟨[(18,.agg x.cells),(4,.ptr b4 0),(6,.ptr b6 0)],_,_⟩ _;refine SW.g0 [4,6,7,18,22] Zm (Zq f1 (Zq f2 (Zq f3 (Zq g1 (Zq g2 g3))))) ?_;refine⟨rfl,SW.block ?_⟩;refine SW.seq (SW.g0 [4,6,7,18,22] Zm (Zq f1 (Zq f2 (Zq f3 (Zq g1 (Zq g2 g3))))) ?_);rcases hd:decide (x.dot=e) with _|_
   .refine SW.ah (by simp only[ev,List.lookup,Nat.reduceBEq,hd]) (SW.skip ?_)
    refine⟨none,true,[(b4,.box 37 e.cells),(b6,.box 4 [bl false])],⟨rfl,rfl⟩,HSub.cons (by simp[aa,f1,f2,f3,g1,g2,g3]) (HSub.cons (by simp[aa,f1,f2,f3,g1,g2,g3]) (HSub.nil _)),by simp[Hp.ok,Ob.ok,SV.au,SV.ok,SV.aZ,Dt.aj];omega,by simp,⟨false,rfl,rfl,rfl,by simp[lZ,Hp.ok,Ob.ok,SV.au,SV.ok,SV.aZ,Dt.aj];omega,λ n hn=> .inl (zK hn)⟩⟩
   .refine SW.an (by simp only[ev,List.lookup,Nat.reduceBEq,hd]) (SW.seq ?_)
    refine SW.g0 [4,6,7,18,22] Zm (Zq f1 (Zq f2 (Zq f3 (Zq g1 (Zq g2 g3))))) ?_;refine SW.ret ?_;refine⟨some .ret,false,[(b4,.box 37 e.cells),(b6,.box 4 [bl true])],⟨rfl,rfl⟩,HSub.cons (by simp[aa,f1,f2,f3,g1,g2,g3]) (HSub.cons (by simp[aa,f1,f2,f3,g1,g2,g3,cq]) (HSub.nil _)),by simp[Hp.ok,Ob.ok,SV.au,SV.ok,SV.aZ,Dt.aj];omega,by simp,⟨true,rfl,rfl,rfl,by simp[lZ,Hp.ok,Ob.ok,SV.au,SV.ok,SV.aZ,Dt.aj];omega,λ n hn=> .inl (zK hn)⟩⟩
  .intro n hn
   simp only[Bool.or_eq_true,beq_iff_eq] at hn;rcases hn with(rfl|rfl)|rfl<;>simp[lZ,aa,f1,f2,f3]
  .rintro r F' ⟨s',hs',rfl,rfl,hok',hnm⟩ _ _
   refine⟨rfl,?_⟩;simp[lZ,Hp.ok,Ob.ok,SV.au,SV.ok,SV.aZ,Dt.aj]
theorem Fx {e:Dt}{s0 s:Bool}{xs:List Cr}(h:lY (λ (s:Bool) (x:Cr) s'=>s'=(s || decide (x.dot=e))) s0 xs s):s=(s0 || xs.any λ x=>decide (x.dot=e)):=by
 induction h with
 | nil=>simp
 | snoc _ h ih=>rw[h,ih];simp[Bool.or_assoc]
def fA (a:MM Dt Cr)(e d:Dt)(L:List Cr):Bool:= !decide (e=d) && L.any λ x=>decide (x.dot=e)
set_option maxHeartbeats 4000000 in
theorem Fy (a:MM Dt Cr)(ca:Nat)(m:MM Dt ag)(cm:Nat)(e d:Dt)(L:List Cr)(hL:mC a (MM.get a d) L)(hlen:L.length<1000000):
  SB Tryz.prog tree_Tree_Above.f [.ptr 0 0,.agg e.cells,.agg d.cells] (gE a ca m cm) 3 (6+L.length*(1+1)) (λ r F'=>r=bl (fA a e d L)/\F'=gE a ca m cm):=by
 refine tree_Tree_Above.enter (by simp[SV.au,SV.ok]) (dJ a ca m cm (Nat.le_refl 3)) (by simp) ?_;dsimp only[tree_Tree_Above.s,Co.M,Co.J,Co.H,Co.N,Co.F,Co.B,Co.b8,Co.ay,Co.bu,Co.i6,Co.K,Co.P,Co.Q,Co.x,Co.W,Co.D,Co.S];have hup:aF Tryz.prog tree_Tree_up.f [.ptr 0 0,.agg d.cells] (gE a ca m cm) 6 2 (.fn (.func tree_Tree_up_1.f) [] [.ptr 6 0,.ptr 7 0]) ((7,.box 37 d.cells)::(6,.box 105 [.ptr 0 0])::gE a ca m cm):=KF a ca m cm d 6 (by omega);have hnone:∀ k,3<=k->aF Tryz.prog tree_Tree_none.f [.ptr 0 0] (gE a ca m cm) k 0 (.d (.bool false)) (gE a ca m cm):=λ k hk=>lK a ca m cm hk
 unfold fA;rcases hd:decide (e=d) with _|_
 .refine SW.seq ?_
  (refine SW.bG eK Zm ?_;(repeat (first|refine RW.ro hd (h:=?_)|refine RW.skip (h:=?_)|refine RW.op hd (h:=?_)|refine RW.di hd (h:=?_)|refine RW.aR (h:=?_)|(refine RW.aW (h:=?_);(first|refine ai.mk (hd) (hc:=hnone _ (by omega)) (h:=?_)|refine ai.mk (hd) (hc:=hup) (h:=?_)))));refine RW.nil ⟨by kernel_rfl,ak.mk (h:=?_)⟩)
  refine SW.seq (SW.seq ?_)
  (refine SW.bG eK Zm ?_;(repeat (first|refine RW.ro hd (h:=?_)|refine RW.skip (h:=?_)|refine RW.op hd (h:=?_)|refine RW.di hd (h:=?_)|refine RW.aR (h:=?_)|(refine RW.aW (h:=?_);(first|refine ai.mk (hd) (hc:=hnone _ (by omega)) (h:=?_)|refine ai.mk (hd) (hc:=hup) (h:=?_)))));refine RW.nil ⟨by kernel_rfl,ak.mk (h:=?_)⟩)
  refine SW.ah rfl (SW.skip (SW.seq (SW.seq ?_)))
  (refine SW.bG eK Zm ?_;(repeat (first|refine RW.ro hd (h:=?_)|refine RW.skip (h:=?_)|refine RW.op hd (h:=?_)|refine RW.di hd (h:=?_)|refine RW.aR (h:=?_)|(refine RW.aW (h:=?_);(first|refine ai.mk (hd) (hc:=hnone _ (by omega)) (h:=?_)|refine ai.mk (hd) (hc:=hup) (h:=?_)))));refine RW.nil ⟨by kernel_rfl,ak.mk (h:=?_)⟩)
  refine SW.block (SW.weak (λ n=>if n=4 then 5 else if n=5 then 6 else if n=6 then 7 else n) (st1:=⟨[(17,.fn (.func tree_Tree_up_1.f) [] [.ptr 5 0,.ptr 6 0]),(6,.ptr 4 0),(4,.ptr 3 0)],(3,.box 37 e.cells)::(4,.box 4 [bl false])::(5,.box 105 [.ptr 0 0])::(6,.box 37 d.cells)::gE a ca m cm,7⟩) ⟨by show(3:Nat)<=7;decide,λ n hn=> ?_,?_,?_,?_⟩ ?_)
  .show(if n=4 then 5 else if n=5 then 6 else if n=6 then 7 else n)=n
   rw[if_neg (by omega),if_neg (by omega),if_neg (by omega)]
  .simp[aL,List.lookup,SV.aC,SV.ok,SV.aU,SV.au]
  .simp[tS,aa,Ob.aC,SV.aU,SV.aC,SV.dN,SV.aZ,Ob.ok,SV.au,SV.ok,Dt.aA,Dt.aj,jY,kB,cQ,bF]
  .intro x hx y hy h
   simp only[List.map_cons,List.map_nil,List.mem_cons,List.not_mem_nil,or_false] at hx hy;rcases hx with rfl|rfl|rfl|rfl|rfl|rfl|rfl<;>rcases hy with rfl|rfl|rfl|rfl|rfl|rfl|rfl<;>simp at h<;>rfl
  refine SW.sD (nk:=1+L.length*(1+1)) [4,6] [.ptr 3 0,.ptr 4 0] rfl ⟨rfl,rfl,trivial⟩ λ ca' cb' hca hcb=> ?_
  have hy:=CZ (y:=7) (b4:=3) (b6:=4) (B:=L.length) (by decide) (by decide) (by decide) e hca hcb;have hsb:=Ft (y:=7) (b:=5) (q:=6) (k:=8) (T:=jB a ca m cm) (d:=d) (pQ a ca m cm) hL false hy (by simp[lZ,Hp.ok,Ob.ok,SV.au,SV.ok,Dt.aj]) (by decide) (by decide) (by decide) (qD a ca m cm (by decide)) (by rfl) (by rfl) ⟨by rfl,by rfl,by rfl,by rfl,by rfl⟩ rfl;have hsubF:HSub ((5,Ob.box 105 [.ptr 0 0])::(6,.box 37 d.cells)::TF (jB a ca m cm) (lZ 23 7 3 4 e ca' cb' false)) ((7,.p0 23 [4,6] [.ptr 3 0,.ptr 4 0] [18] ca' cb' .ready none)::(3,.box 37 e.cells)::(4,.box 4 [bl false])::(5,.box 105 [.ptr 0 0])::(6,.box 37 d.cells)::gE a ca m cm):=by
   intro n ob hn
   match n with
   | 0|1|2|3|4|5|6|7=>exact hn
   | n+8=>cases hn
  have hsc:=(hsb.here (λ n=>decide (n<8)) (λ n hn=> ?_) (by simp[SV.au,SV.ok]) ?_ ?_).frame hsubF
  .refine hsc.mono ?_
   intro r F' h;obtain⟨F1,h1,hF'⟩:=h;obtain⟨hr,xs,s',hon,hpre,hall,hoff,hF1⟩:=h1;subst hF1;have hs:=Fx hon;have hsL:s'=L.any λ x=>decide (x.dot=e):=by
    rw[hs,Bool.false_or];cases hs':s' with
    | false=>rw[hall (by rw[hs'];rfl)]
    | true=>
     rw[hs',Bool.false_or] at hs;rw[<- hs];obtain⟨t,rfl⟩:=hpre;rw[List.any_append,<- hs];rfl
   have hlk:=iI (ro:=false) (F':=(5,Ob.box 105 [.ptr 0 0])::(6,.box 37 d.cells)::TF (jB a ca m cm) (lZ 23 7 3 4 e ca' cb' s')) hsubF (λ h=>by cases h);rw[<- hF'] at hlk;clear hF';have hG:∀ n ob,lk ((5,Ob.box 105 [.ptr 0 0])::(6,.box 37 d.cells)::TF (jB a ca m cm) (lZ 23 7 3 4 e ca' cb' s')) n=some ob->lk F' n=some ob:=λ n ob h=>by
    rw[hlk,fm (.inr (by rw[h];simp)),h]
   have q4:=hG 4 (.box 4 [bl s']) (by simp[TF,Tr.hp,lZ,aa]);have q0:=hG 0 (.box 166 [.mp 1,.mp 2]) (by simp[TF,Tr.hp,aa]);have q1:=hG 1 (.map (aq Dt.cells cv a) ca) (by simp[TF,Tr.hp,aa]);have q2:=hG 2 (.map (aq Dt.cells ov m) cm) (by simp[TF,Tr.hp,aa]);refine⟨NQ s',hG 7 _ (by simp[TF,Tr.hp,lZ,aa]),?_⟩;rw[<- hsL];have hsub:HSub ((4,.box 4 [bl s'])::gE a ca m cm) (bY F' 7):=by
    intro n ob hn;rw[cZ]
    match n,hn with
    | 0,hn=>rw[if_neg (by decide),q0];exact hn
    | 1,hn=>rw[if_neg (by decide),q1];exact hn
    | 2,hn=>rw[if_neg (by decide),q2];exact hn
    | 3,hn=>cases hn
    | 4,hn=>rw[if_neg (by decide),q4];exact hn
    | n+5,hn=>cases hn
   cases s' with
   | true=>
    rw[show NQ true=some .ret from rfl];simp only[RQ];have q4':=hsub 4 _ rfl;exact End.mk (ss:=[bl true]) (ob:=yS [bl true] 0 none/\True) (gE a ca m cm) (h1:=by simp only[tree_Tree_Above.rv,CC,List.lookup,Nat.reduceBEq,gH,q4'];rfl) (h2:=by simp[yS]) (h3:=λ n ob h=>hsub n ob (by rw[aa,if_neg (λ e=>by subst e;cases h)];exact h)) (h4:=⟨rfl,rfl⟩) (h5:=by simp[ez,SV.ok]) (h6:=dJ a ca m cm (by omega)) (h7:=by show 3+(6+L.length*(1+1))<=7+1+(1+L.length*(1+1));omega)
   | false=>
    rw[show NQ false=none from rfl];simp only[RQ];refine SW.weak id (st1:=⟨[(6,.ptr 4 0)],(4,.box 4 [bl false])::gE a ca m cm,8+(1+L.length*(1+1))⟩) (aH.same (by show 3<=8+(1+L.length*(1+1));omega) (by simp[aL,List.lookup,SV.aC,SV.ok];omega) (ax (by simp;omega) (by simp[Ob.ok,SV.au,SV.ok]) (dJ a ca m cm (by show 3<=8+(1+L.length*(1+1));omega))) (λ x hx=> ?_)) ?_
    .refine hsub _ _ ?_
     simp only[List.mem_cons,List.not_mem_nil,or_false] at hx;rcases hx with rfl|rfl|rfl|rfl<;>rfl
    .refine SW.seq ?_
     refine SW.g0 eK Zm af ?_;refine SW.ret ?_;exact End.mk (gE a ca m cm) (h3:=HSub.cons rfl (HSub.cons rfl (HSub.cons rfl (HSub.nil _)))) (h4:=⟨rfl,rfl⟩) (h6:=dJ a ca m cm (by omega)) (h7:=by show 3+(6+L.length*(1+1))<=8+(1+L.length*2);omega)
  .match n,hn with
   | 0,_|1,_|2,_|3,_|4,_|5,_|6,_|7,_=>simp[TF,Tr.hp,lZ,aa]
   | n +8,h=>
     have:n+8<8:=by simpa using h
     omega
  .refine ax rfl (by simp[Ob.ok,SV.au,SV.ok]) (ax rfl (by simp[Ob.ok,Dt.aj]) ?_)
   have h1:(jB a ca m cm).hp.ok (λ n=>decide (n<8))=true:=Tr.qK (qD a ca m cm (by decide));have h2:(lZ 23 7 3 4 e ca' cb' false).ok (λ n=>decide (n<8))=true:=by simp[lZ,Hp.ok,Ob.ok,SV.au,SV.ok,SV.aZ,Dt.aj]
   unfold Hp.ok at*;rw[TF,List.all_append,h1,h2];rfl
  .rintro r F' _ h1 h2
   refine⟨SV.fG (λ n hn=> ?_) _ h1,Hp.eu (λ n hn=> ?_) h2⟩<;>(simp at hn ⊢;omega)
 .obtain rfl:e=d:=by simpa using hd
  refine SW.seq ?_
  (refine SW.bG eK Zm ?_;(repeat (first|refine RW.ro af (h:=?_)|refine RW.skip (h:=?_)|refine RW.op af (h:=?_)|refine RW.di af (h:=?_)|refine RW.aR (h:=?_)|(refine RW.aW (h:=?_);(first|refine ai.mk af (hc:=hnone _ (by omega)) (h:=?_)))));refine RW.nil ⟨by kernel_rfl,ak.mk (h:=?_)⟩)
  refine SW.seq (SW.seq ?_)
  (refine SW.bG eK Zm ?_;(repeat (first|refine RW.ro af (h:=?_)|refine RW.skip (h:=?_)|refine RW.op af (h:=?_)|refine RW.di af (h:=?_)|refine RW.aR (h:=?_)|(refine RW.aW (h:=?_);(first|refine ai.mk af (hc:=hnone _ (by omega)) (h:=?_)))));refine RW.nil ⟨by kernel_rfl,ak.mk (h:=?_)⟩)
  refine SW.an rfl (SW.seq ?_)
  (refine SW.bG eK Zm ?_;(repeat (first|refine RW.ro af (h:=?_)|refine RW.skip (h:=?_)|refine RW.op af (h:=?_)|refine RW.di af (h:=?_)|refine RW.aR (h:=?_)|(refine RW.aW (h:=?_);(first|refine ai.mk af (hc:=hnone _ (by omega)) (h:=?_)))));refine RW.nil ⟨by kernel_rfl,ak.mk (h:=?_)⟩)
  refine SW.weak id (st1:=⟨[(6,.ptr 5 0)],(5,.box 4 [bl false])::gE a ca m cm,3+(6+L.length*(1+1))⟩) (aH.same (by show 3<=3+(6+L.length*(1+1));omega) (by simp[aL,List.lookup,SV.aC,SV.ok];omega) (ax (by simp;omega) (by simp[Ob.ok,SV.au,SV.ok]) (dJ a ca m cm (by show 3<=3+(6+L.length*(1+1));omega))) (λ x hx=> ?_)) (SW.ret ?_)
  .simp only[List.mem_cons,List.not_mem_nil,or_false] at hx
   rcases hx with rfl|rfl|rfl|rfl<;>rfl
  .exact End.mk (gE a ca m cm) (h3:=HSub.cons rfl (HSub.cons rfl (HSub.cons rfl (HSub.nil _)))) (h4:=⟨by simp only[Bool.not_true,Bool.false_and];rfl,rfl⟩) (h6:=dJ a ca m cm (by omega)) (h7:=Nat.le_refl _)
theorem Fz {T:Tr}(hs:T.sep)(e d:Dt)(L:List Cr)(hL:mC T.at_ (MM.get T.at_ d) L)(hlen:L.length<1000000)(k:Nat):aF Tryz.prog tree_Tree_Above.f [.ptr T.bx 0,.agg e.cells,.agg d.cells] T.hp k (6+L.length*(1+1)) (bl (fA T.at_ e d L)) T.hp:=by
 have h:=SB.nB [T.bx,T.ma,T.mm] (Fy T.at_ T.ca T.made T.cm e d L hL hlen) (Tr.NJ hs) (sL _ _ _ _) k;rw[od] at h;simp only[SV.aU,SV.aC,Dt.aA] at h;exact h
end
section
def NR (a:MM Dt Cr):Prop:=∀ d c p,MM.get a d=some c->0<c.level->MM.get a c.par=some p->p.level<c.level
end
end Go.Proofs.YtaelhkkjgfobhaaGreat
namespace Go.Proofs.YtaelhkkjgfobhaaGreat
open Go.Sl Go.Proofs
section
theorem zL (r i:Nat):hasB r (2 ^ i)=r.testBit i:=by
 unfold hasB;rw[Nat.testBit_eq_decide_div_mod_eq]
theorem rE (r o:Nat):∀ n,d_ r o n=true↔∀ i,i<n->r.testBit i=true->o.testBit i=true
 | 0=>by simp[d_]
 | n + 1=>by
  simp only[d_,Bool.and_eq_true,rE r o n,zL,Bool.or_eq_true,Bool.not_eq_true'];constructor
  .rintro⟨h1,h2⟩ i hi hr
   by_cases e:i=n
   .subst e
    rcases h2 with h2|h2
    .rw[h2] at hr;cases hr
    .exact h2
   .exact h1 i (by omega) hr
  .intro h
   refine⟨λ i hi=>h i (by omega),?_⟩;cases hr:r.testBit n with
   | false=>exact .inl rfl
   | true=>exact .inr (h n (by omega) hr)
theorem B6 (v:BitVec 8):IntKind.u8.wrap ((v.toNat:Nat):Int)=v.toNat:=wrap_u8 _ v.isLt
theorem C0 (r o:Nat):bits .andNot .u8 (r:Int) (o:Int)=((BitVec.ofNat 8 r &&& ~~~BitVec.ofNat 8 o).toNat:Int):=by
 show IntKind.u8.wrap (((BitVec.ofInt 8 (r:Int) &&& ~~~BitVec.ofInt 8 (o:Int)).toNat:Nat):Int)=_;rw[B6,BitVec.ofInt_natCast,BitVec.ofInt_natCast]
theorem and_eq (r o:Nat):bits .and .u8 (r:Int) (o:Int)=((BitVec.ofNat 8 r &&& BitVec.ofNat 8 o).toNat:Int):=by
 show IntKind.u8.wrap (((BitVec.ofInt 8 (r:Int) &&& BitVec.ofInt 8 (o:Int)).toNat:Nat):Int)=_;rw[B6,BitVec.ofInt_natCast,BitVec.ofInt_natCast]
theorem zM (r o:Nat):bits .andNot .u8 (r:Int) (o:Int)=0↔∀ i,i<8->r.testBit i=true->o.testBit i=true:=by
 rw[C0];constructor
 .intro h i hi hr
  have h0:BitVec.ofNat 8 r &&& ~~~BitVec.ofNat 8 o=0#8:=BitVec.eq_of_toNat_eq (by simpa using h);have h1:(BitVec.ofNat 8 r &&& ~~~BitVec.ofNat 8 o).getLsbD i=false:=by rw[h0];simp
  rw[BitVec.getLsbD_and,BitVec.getLsbD_not,BitVec.getLsbD_ofNat,BitVec.getLsbD_ofNat] at h1
  simpa[hi,hr] using h1
 .intro h
  have h0:BitVec.ofNat 8 r &&& ~~~BitVec.ofNat 8 o=0#8:=by
   apply BitVec.eq_of_getLsbD_eq;intro i hi;rw[BitVec.getLsbD_and,BitVec.getLsbD_not,BitVec.getLsbD_ofNat,BitVec.getLsbD_ofNat];have:=h i hi;cases hr:r.testBit i with
   | false=>simp
   | true=>simp[hi,this hr]
  rw[h0];rfl
theorem FA (r:Nat):(bits .and .u8 (r:Int) 1 == 0)= !hasB r 1:=by
 have h:=and_eq r 1;have e:hasB r 1=r.testBit 0:=zL r 0;rw[show((1:Nat):Int)=1 from rfl] at h;rw[h,e,BitVec.toNat_and,BitVec.toNat_ofNat,BitVec.toNat_ofNat];rw[show(1 % 2 ^ 8:Nat)=1 from rfl,Nat.and_one_is_mod,Nat.testBit_zero,Bool.eq_iff_iff];simp only[beq_iff_eq,Bool.not_eq_true',decide_eq_false_iff_not];omega
theorem tC (o:ag)(c:Cr):iw o c=ew o c:=by
 unfold iw ew jm;have h:(bits .andNot .u8 (o.aT:Int) (c.aT:Int) != 0)= !d_ o.aT c.aT 8:=by
  rw[Bool.eq_iff_iff,bne_iff_ne,Bool.not_eq_true',ne_eq,zM,<- rE,Bool.not_eq_true]
 rw[h]
 congr 3
 cases d_ o.aT c.aT 8<;>by_cases e:o.aT=0<;>simp[e]
theorem vh (x:ag)(l:List ag)(d:Dt):aJ (x::l) d=if x.dot=d then some x else aJ l d:=by
 unfold aJ;rw[List.find?_cons]
 by_cases h:x.dot=d<;>simp[h]
theorem eW {l:List ag}{d:Dt}{o:ag}(h:aJ l d=some o):o.dot=d:=by
 have:=List.find?_some h
 simpa using this
theorem sN {l:List ag}{d:Dt}{o:ag}(h:aJ l d=some o):o∈l:=List.mem_of_find?_eq_some h
theorem On.rF (s:On)(x:ag)(d:Dt):(On.step s x).1.cnt d=if d=x.dot then s.cnt x.dot+1 else s.cnt d:=by
 show(MM.get (MM.put s.L s.c x.dot (s.cnt x.dot+1)) d).getD 0=_;rw[MM.c_]
 by_cases h:d=x.dot
 .rw[if_pos h,if_pos h];rfl
 .rw[if_neg h,if_neg h];rfl
theorem sO:∀ (l:List ag) (s:On),(∀ d,0<=s.cnt d)->(∀ o,o∈(bN On.step s l).1↔s.cnt o.dot=0/\aJ l o.dot=some o/\o.kind<=1)/\((bN On.step s l).1.map (·.dot)).Nodup
 | [],s,h=>⟨λ o=>by simp[bN,aJ],by simp[bN]⟩
 | x :: l, s,h=>by
  have hs:∀ d,0<=(On.step s x).1.cnt d:=λ d=>by
   rw[On.rF];have:=h x.dot;have:=h d;split<;>omega
  obtain⟨ih1,ih2⟩:=sO l (On.step s x).1 hs;have hb:(On.step s x).2=(decide (s.cnt x.dot+1>1) || decide (x.kind>1)):=rfl;have hx:=h x.dot;simp only[bN]
  by_cases e:(On.step s x).2=true
  .rw[if_pos e]
   refine⟨λ o=> ?_,ih2⟩;rw[ih1 o,On.rF,vh];rw[hb] at e;simp only[Bool.or_eq_true,decide_eq_true_eq] at e
   by_cases ed:x.dot=o.dot
   .rw[if_pos ed.symm,if_pos ed]
    constructor
    .rintro⟨h1,_⟩;omega
    .rintro⟨h1,h2,h3⟩
     injection h2 with h2;subst h2;omega
   .rw[if_neg (Ne.symm ed),if_neg ed]
  .rw[if_neg e]
   rw[hb] at e;simp only[Bool.or_eq_true,decide_eq_true_eq,not_or,Int.not_lt,Nat.not_lt,gt_iff_lt] at e;refine⟨λ o=> ?_,?_⟩
   .rw[List.mem_cons,ih1 o,On.rF,vh]
    by_cases ed:x.dot=o.dot
    .rw[if_pos ed.symm,if_pos ed]
     constructor
     .rintro(rfl|⟨h1,_⟩)
      .exact⟨by omega,rfl,by omega⟩
      .omega
     .rintro⟨h1,h2,h3⟩
      injection h2 with h2;exact .inl h2.symm
    .rw[if_neg (Ne.symm ed),if_neg ed]
     constructor
     .rintro(rfl|h1)
      .exact absurd rfl ed
      .exact h1
     .exact .inr
   .rw[List.map_cons,List.nodup_cons]
    refine⟨λ hm=> ?_,ih2⟩;obtain⟨o,ho,hod⟩:=List.mem_map.1 hm;have:=((ih1 o).1 ho).1;rw[On.rF,if_pos hod] at this;omega
theorem vi (l:List ag)(o:ag):o∈firsts l↔aJ l o.dot=some o/\o.kind<=1:=by
 have h:=(sO l ⟨[],0⟩ (λ d=>Int.le_refl 0)).1 o;rw[firsts,h];exact⟨λ ⟨_,h⟩=>h,λ h=>⟨rfl,h⟩⟩
theorem C5 (l:List ag):((firsts l).map (·.dot)).Nodup:=(sO l ⟨[],0⟩ (λ d=>Int.le_refl 0)).2
structure By (o:ag)(p:Cr)(q:ag)(c:Cr):Prop where
 kind:o.kind=1
 aI:p.aI=o.aI
 xy:q.before o=true
 hold:p.hold=o.who
 own:hasB p.aT 1=true
 P9:ew o p=false
 is:c=⟨o.dot,o.aI,o.aN,o.to,o.aT,o.depth,o.cap,p.level+1⟩
structure IW (l:List ag)(a:MM Dt Cr)(d:Dt)(o:ag)(c:Cr):Prop where
 fd:aJ l d=some o
 lv:0<=c.level/\c.level+(c.depth:Int)<=8
 how:(o.kind=0/\o.aI=d/\c=vg o)\/∃ p q,MM.get a o.aN=some p/\aJ l o.aN=some q/\By o p q c
theorem IW.dot {l:List ag}{a:MM Dt Cr}{d:Dt}{o:ag}{c:Cr}(h:IW l a d o c):c.dot=d:=by
 have hd:=eW h.fd;rcases h.how with⟨_,_,e⟩|⟨p,q,_,_,hb⟩
 .rw[e];exact hd
 .rw[hb.is];exact hd
structure wm (l:List ag)(T:Tr)(W:List ag):Prop where
 cr:∀ d c,MM.get T.at_ d=some c->∃ o,MM.get T.made d=some o/\IW l T.at_ d o c
 w1:∀ o,o∈W->aJ l o.dot=some o/\o.kind<=1/\MM.get T.at_ o.dot=none
 w2:(W.map (·.dot)).Nodup
 all:∀ d o,aJ l d=some o->o.kind<=1->o∈W\/∃ c,MM.get T.at_ d=some c
theorem wq {o:ag}{c:Cr}(h:ew o c=false):o.depth<c.depth/\o.cap<=c.cap/\o.to≠0/\jm o.aT c.aT=true:=by
 unfold ew at h;simp only[Bool.or_eq_false_iff,Bool.not_eq_false',beq_eq_false_iff_ne,decide_eq_false_iff_not] at h;obtain⟨⟨⟨h1,h2⟩,h3⟩,h4⟩:=h;exact⟨by omega,by omega,by omega,h1⟩
theorem FB {T:Tr}{o:ag}(h:T.why o=0):o.kind=1/\T.gV o=false/\(T.by o).hold=o.who/\hasB (T.by o).aT 1=true/\ew o (T.by o)=false:=by
 unfold Tr.why at h;rw[FA,tC] at h
 by_cases h1:o.kind=1
 .rw[if_neg (by omega)] at h
  by_cases h2:T.gV o=true
  .rw[if_pos h2] at h;omega
  .rw[if_neg h2] at h
   by_cases h3:(T.by o).hold=o.who
   .rw[if_neg (by omega)] at h
    by_cases h4:(!hasB (T.by o).aT 1)=true
    .rw[if_pos h4] at h;omega
    .rw[if_neg h4] at h
     by_cases h5:ew o (T.by o)=true
     .rw[if_pos h5] at h;omega
     .exact⟨h1,by simpa using h2,h3,by simpa using h4,by simpa using h5⟩
   .rw[if_pos h3] at h;omega
 .rw[if_pos h1] at h;omega
theorem wm.put {l:List ag}{T:Tr}{K W:List ag}{o:ag}(h:wm l T (K++o::W))(hr:T.bT o=false):wm l (T.put o).1 (K++W):=by
  obtain⟨cr,w1,w2,all⟩:=h;obtain⟨o1,o2,o3⟩:=w1 o (by simp);have ep:(T.put o).1={ T with at_:=MM.put T.at_ T.ca o.dot (T.oO o),ca:=MM.jA T.at_ T.ca o.dot,made:=MM.put T.made T.cm o.dot o,cm:=MM.jA T.made T.cm o.dot}:=by
    unfold Tr.put;rw[if_neg (by rw[hr];decide)]
  have ga:∀ d,MM.get (T.put o).1.at_ d=if d=o.dot then some (T.oO o) else MM.get T.at_ d:=λ d=>by
    rw[ep];exact MM.c_
  have gm:∀ d,MM.get (T.put o).1.made d=if d=o.dot then some o else MM.get T.made d:=λ d=>by
    rw[ep];exact MM.c_
  have up:∀ d c,MM.get T.at_ d=some c->MM.get (T.put o).1.at_ d=some c:=λ d c hc=>by
    rw[ga,if_neg (λ e=>by rw[e,o3] at hc;cases hc)];exact hc
  have w2':(K++o::W).map (·.dot)=K.map (·.dot)++o.dot::W.map (·.dot):=by simp
  rw[w2',List.nodup_append,List.nodup_cons] at w2;obtain⟨n1,⟨n2,n3⟩,n4⟩:=w2;have hne:∀ x,x∈K++W->x.dot≠o.dot:=λ x hx e=>by
    rcases List.mem_append.1 hx with hx|hx
    . exact n4 _ (List.mem_map.2 ⟨x,hx,rfl⟩) _ (List.mem_cons_self ..) e
    . exact n2 (List.mem_map.2 ⟨x,hx,e⟩)
  refine⟨λ d c hc=> ?_,λ x hx=> ?_,?_,λ d x hd hk=> ?_⟩
  . rw[ga] at hc
    by_cases e:d=o.dot
    . rw[if_pos e] at hc
      injection hc with hc;refine⟨o,by rw[gm,if_pos e],?_⟩;subst e;unfold Tr.bT at hr;simp only[Bool.or_eq_false_iff,Bool.and_eq_false_iff,decide_eq_false_iff_not,Bool.not_eq_false',decide_eq_true_eq] at hr
      by_cases hk:o.kind=1
      . have hw:T.why o=0:=by rcases hr.2 with h|h;exact absurd hk h;exact Decidable.not_not.1 h
        obtain⟨_,h2,h3,h4,h5⟩:=FB hw;unfold Tr.gV at h2;simp only[Bool.or_eq_false_iff,Bool.not_eq_false',decide_eq_true_eq] at h2;obtain⟨⟨h6,h7⟩,h8⟩:=h2;obtain⟨p,hp⟩:=Option.isSome_iff_exists.1 (show(MM.get T.at_ o.aN).isSome=true from h6);have eb:T.by o=p:=by unfold Tr.by;rw[hp];rfl
        obtain⟨q,hq,hqc⟩:=cr _ _ hp;have em:T.vf o=q:=by unfold Tr.vf;rw[hq];rfl
        rw[eb] at h3 h4 h5 h7;rw[em] at h8;obtain⟨l1,l2⟩:=hqc.lv;obtain⟨n1,_⟩:=wq h5;have ec:c=⟨o.dot,o.aI,o.aN,o.to,o.aT,o.depth,o.cap,p.level+1⟩:=by
          rw[<- hc];unfold Tr.oO A_;rw[if_pos hk,eb,xY _ (by omega) (by omega)]
        refine⟨o1,?_,.inr ⟨p,q,up _ _ hp,hqc.fd,⟨hk,h7,h8,h3,h4,h5,ec⟩⟩⟩;rw[ec];exact⟨by show 0<=p.level+1;omega,by show p.level+1+(o.depth:Int)<=8;omega⟩
      . have lW:o.kind=0:=by omega
        have ec:o.aI=o.dot:=by rcases hr.1 with h|h;exact absurd lW h;exact h
        have ecr:c=vg o:=by rw[<- hc];unfold Tr.oO;rw[if_neg hk]
        refine⟨o1,?_,.inl ⟨lW,ec,ecr⟩⟩;rw[ecr];exact⟨by show(0:Int)<=0;omega,by show(0:Int)+((8:Nat):Int)<=8;omega⟩
    . rw[if_neg e] at hc
      obtain⟨x,hx,hxc⟩:=cr d c hc;refine⟨x,by rw[gm,if_neg e];exact hx,hxc.fd,hxc.lv,?_⟩;rcases hxc.how with h|⟨p,q,h1,h2,h3⟩
      . exact .inl h
      . exact .inr ⟨p,q,up _ _ h1,h2,h3⟩
  . obtain ⟨a1,a2,a3⟩:=w1 x (by
      rcases List.mem_append.1 hx with h|h
      . exact List.mem_append_left _ h
      . exact List.mem_append_right _ (List.mem_cons_of_mem _ h))
    exact⟨a1,a2,by rw[ga,if_neg (hne x hx)];exact a3⟩
  . rw[List.map_append,List.nodup_append]
    exact⟨n1,n3,λ a ha b hb=>n4 a ha b (List.mem_cons_of_mem _ hb)⟩
  . rcases all d x hd hk with h|⟨c,hc⟩
    . by_cases e:x.dot=o.dot
      . refine .inr ⟨T.oO o,?_⟩
        rw[ga,if_pos (by rw[<- eW hd];exact e)]
      . rcases List.mem_append.1 h with h|h
        . exact .inl (List.mem_append_left _ h)
        . rcases List.mem_cons.1 h with h|h
          . rw[h] at e;exact absurd rfl e
          . exact .inl (List.mem_append_right _ h)
    . exact .inr ⟨c,up _ _ hc⟩
theorem zN (s:TS)(o:ag):(mG.step s o).2= !s.T.bT o/\(s.T.bT o=true->(mG.step s o).1.T=s.T):=by
 show(s.T.put o).2=_/\(_->(s.T.put o).1=s.T);unfold Tr.put;cases h:s.T.bT o with
 | true=>exact⟨rfl,λ _=>rfl⟩
 | false=>exact⟨rfl,λ h=>by cases h⟩
theorem wm.keep {l:List ag}:∀ (W K:List ag) (s:TS),wm l s.T (K++W)->wm l (bN mG.step s W).2.T (K++(bN mG.step s W).1)
 | [],K,s,h=>h
 | x ::W,K,s,h=>by
  obtain⟨p1,p2⟩:=zN s x;simp only[bN];cases hr:s.T.bT x with
  | false=>
   rw[p1,hr,if_pos (by rfl)];exact wm.keep W K _ (h.put hr)
  | true=>
   rw[p1,hr,if_neg (by decide)];have:=wm.keep W (K++[x]) (mG.step s x).1 (by rw[p2 hr,List.append_assoc];exact h);rw[List.append_assoc] at this;exact this
theorem zO:∀ (W:List ag) (s:TS),¬ (bN mG.step s W).1.length<W.length->(bN mG.step s W).1=W/\(bN mG.step s W).2.T=s.T/\∀ o,o∈W->s.T.bT o=true
 | [],s,_=>⟨rfl,rfl,λ o h=>by cases h⟩
 | x ::W,s,h=>by
  obtain⟨p1,p2⟩:=zN s x;have hl:=pP mG.step W (mG.step s x).1;simp only[bN] at h ⊢;cases hr:s.T.bT x with
  | false=>
   rw[p1,hr,if_pos (by rfl)] at h;exact absurd (by simp;omega) h
  | true=>
   rw[p1,hr,if_neg (by decide)] at h ⊢;obtain⟨a1,a2,a3⟩:=zO W (mG.step s x).1 (by simpa using h);rw[p2 hr] at a2 a3;exact⟨by rw[a1],a2,λ o ho=>by
    rcases List.mem_cons.1 ho with rfl|ho
    .exact hr
    .exact a3 o ho⟩
structure kD (l:List ag)(T:Tr):Prop where
 cr:∀ d c,MM.get T.at_ d=some c->∃ o,MM.get T.made d=some o/\IW l T.at_ d o c
 no:∀ d o,aJ l d=some o->o.kind<=1->T.bT o=true\/∃ c,MM.get T.at_ d=some c
theorem B7 {l:List ag}:∀ (f:Nat) (s:TS) (W:List ag),W.length<f->wm l s.T W->kD l (grow f s W).T
 | 0,s,W,hf,h=>by omega
 | f +1,s,W,hf,h=>by
  simp only[grow]
  split
  .rename_i hlt
   exact B7 f _ _ (by omega) (wm.keep W [] s h)
  .rename_i hlt
   obtain⟨a1,a2,a3⟩:=zO W s hlt;rw[a2];refine⟨h.cr,λ d o hd hk=> ?_⟩;rcases h.all d o hd hk with h'|h'
   .exact .inl (a3 o h')
   .exact .inr h'
theorem dF (l:List ag):kD l (av l):=by
 refine B7 _ _ _ (Nat.lt_succ_self _) ⟨λ d c h=>(by cases h),λ o ho=> ?_,C5 l,λ d o hd hk=> .inl ((vi l o).2 ⟨by rw[eW hd];exact hd,hk⟩)⟩;obtain⟨h1,h2⟩:=(vi l o).1 ho;exact⟨h1,h2,rfl⟩
theorem Bc (l:List ag)(k:Nat):kD l (jL l k):=⟨(dF l).cr,(dF l).no⟩
theorem kD.PF {l:List ag}{T:Tr}(h:kD l T):NR T.at_:=λ d c p hc hl hp=>by
 obtain⟨o,_,ho⟩:=h.cr d c hc;rcases ho.how with⟨_,_,e⟩|⟨p',q,h1,_,hb⟩
 .rw[e] at hl;exact absurd hl (by show ¬ (0:Int)<0;omega)
 .have ec:c.par=o.aN:=by rw[hb.is]
  rw[ec,h1] at hp;injection hp with hp;subst hp;rw[hb.is];show p'.level<p'.level+1;omega
theorem kD.level {l:List ag}{T:Tr}(h:kD l T){d:Dt}{c:Cr}(hc:MM.get T.at_ d=some c):0<=c.level/\c.level<=8:=by
 obtain⟨o,_,ho⟩:=h.cr d c hc;have:=ho.lv;omega
theorem kD.KG {l:List ag}{T:Tr}(h:kD l T){p:Cr}{o:ag}(hp:MM.get T.at_ o.aN=some p):(dI l (p,true) o).2=T.why o:=by
 obtain⟨q,hq,hc⟩:=h.cr _ _ hp;have eb:T.by o=p:=by unfold Tr.by;rw[hp];rfl
 have em:T.vf o=q:=by unfold Tr.vf;rw[hq];rfl
 have ei:T.is o=true:=by unfold Tr.is MM.has;rw[hp];rfl
 unfold dI Tr.why;rw[FA,tC,eb];have en:gh l (p,true) o=T.gV o:=by
  unfold gh Tr.gV;rw[eb,em,ei,hc.fd];rfl
 rw[en]
 by_cases hk:o.kind≠1
 .rw[if_pos hk,if_pos hk]
 .rw[if_neg hk,if_neg hk]
  cases hasB p.aT 1<;>rfl
theorem kD.NS {l:List ag}{T:Tr}{c:Cr}{o:ag}(hp:MM.get T.at_ o.aN=none):(dI l (c,false) o).2=T.why o:=by
 have ei:T.is o=false:=by unfold Tr.is MM.has;rw[hp];rfl
 have e1:T.gV o=true:=by unfold Tr.gV;rw[ei];rfl
 have e2:gh l (c,false) o=true:=rfl;unfold dI Tr.why;rw[e1,e2]
 by_cases hk:o.kind≠1
 .rw[if_pos hk,if_pos hk]
 .rw[if_neg hk,if_neg hk];rfl
theorem vj {l:List ag}{p c:Cr}{o q:ag}(h2:aJ l o.aN=some q)(hb:By o p q c):dI l (p,true) o=(p,0):=by
 have e:gh l (p,true) o=false:=by
  unfold gh;rw[h2];simp[hb.aI,hb.xy]
 unfold dI;rw[if_neg (by rw[hb.kind];decide),e];simp[hb.hold,hb.own,hb.P9]
theorem kD.sound {l:List ag}{T:Tr}(h:kD l T):∀ (n:Nat) (d:Dt) (c:Cr),MM.get T.at_ d=some c->c.level<(n:Int)->bH l n d=(c,true)
 | 0,d,c,hc,hn=>by have:=(h.level hc).1;omega
 | n +1,d,c,hc,hn=>by
  obtain⟨o,hm,ho⟩:=h.cr d c hc;simp only[bH,ho.fd];have ed:=eW ho.fd;have hlv:=h.level hc;rcases ho.how with⟨h1,h2,h3⟩|⟨p,q,h1,h2,hb⟩
  .rw[if_pos h1,h3,decide_eq_true h2]
   unfold vg;rw[ed]
  .have hl:c.level=p.level+1:=by rw[hb.is]
   have hg:=kD.sound h n o.aN p h1 (by omega);rw[if_neg (by rw[hb.kind];decide),hg,vj h2 hb,if_neg (λ h=>h rfl)];rw[hb.is,ed];show(_,true)=(_,true);rw[xY _ (by show -9223372036854775808<=p.level+1;omega) (by show p.level+1<9223372036854775808;omega)]
theorem kD.full {l:List ag}{T:Tr}(h:kD l T):∀ (m:Nat) (d:Dt),(bH l m d).2=true->∃ c,MM.get T.at_ d=some c/\bH l m d=(c,true)
 | 0,d,hd=>by cases hd
 | m + 1, d, hd=>by
  cases hf:aJ l d with
  | none=>simp only[bH,hf] at hd;cases hd
  | some o=>
   have ed:=eW hf
   by_cases hk:o.kind=0
   .simp only[bH,hf,if_pos hk] at hd ⊢
    have hcart:o.aI=d:=by simpa using hd
    have hr:T.bT o=false:=by
     unfold Tr.bT;simp[hk,hcart,ed]
    rcases h.no d o hf (by omega) with h1|⟨c,hc⟩
    .rw[hr] at h1;cases h1
    .refine⟨c,hc,?_⟩
     obtain⟨o',hm,ho⟩:=h.cr d c hc;have eo:o=o':=by have:=ho.fd;rw[hf] at this;injection this
     subst eo;rcases ho.how with⟨_,_,e⟩|⟨p,q,_,_,hb⟩
     .rw[e,decide_eq_true hcart]
      unfold vg;rw[ed]
     .have:=hb.kind;omega
   .simp only[bH,hf,if_neg hk] at hd ⊢
    by_cases hw:(dI l (bH l m o.aN) o).2≠0
    .rw[if_pos hw] at hd;cases hd
    .have hw0:(dI l (bH l m o.aN) o).2=0:=Decidable.not_not.1 hw
     rw[if_neg hw];have hk1:o.kind=1:=by
      by_cases e:o.kind=1
      .exact e
      .unfold dI at hw0;rw[if_pos e] at hw0;cases hw0
     have hg2:(bH l m o.aN).2=true:=by
      cases e:(bH l m o.aN).2 with
      | true=>rfl
      | false=>
       unfold dI gh at hw0;rw[if_neg (by omega),e] at hw0;cases hw0
     obtain⟨p,hp,hgp⟩:=kD.full h m o.aN hg2;rw[hgp] at hw0 ⊢;rw[h.KG hp] at hw0;have hr:T.bT o=false:=by
      unfold Tr.bT;simp[hk1,hw0]
     rcases h.no d o hf (by omega) with h1|⟨c,hc⟩
     .rw[hr] at h1;cases h1
     .refine⟨c,hc,?_⟩
      obtain⟨o',hm,ho⟩:=h.cr d c hc;have eo:o=o':=by have:=ho.fd;rw[hf] at this;injection this
      subst eo;rcases ho.how with⟨h0,_,_⟩|⟨p',q,h1,h2,hb⟩
      .omega
      .have ep:p=p':=by rw[hp] at h1;injection h1
       subst ep;have hl:=h.level hp;rw[vj h2 hb,hb.is,ed];show(_,true)=(_,true);rw[xY _ (by show -9223372036854775808<=p.level+1;omega) (by show p.level+1<9223372036854775808;omega)]
theorem kD.get {l:List ag}{T:Tr}(h:kD l T)(d:Dt):((bH l 10 d).2=MM.has T.at_ d)/\∀ c,MM.get T.at_ d=some c->bH l 10 d=(c,true):=by
 have hs:∀ c,MM.get T.at_ d=some c->bH l 10 d=(c,true):=λ c hc=>h.sound 10 d c hc (by have:=(h.level hc).2;show c.level<10;omega)
 refine⟨?_,hs⟩;cases hg:MM.get T.at_ d with
 | some c=>rw[hs c hg];show true=(MM.get T.at_ d).isSome;rw[hg];rfl
 | none=>
  show _=(MM.get T.at_ d).isSome;rw[hg];cases e:(bH l 10 d).2 with
  | false=>rfl
  | true=>
   obtain⟨c,hc,_⟩:=h.full 10 d e;rw[hg] at hc;cases hc
theorem kD.why {l:List ag}{T:Tr}(h:kD l T)(o:ag):(dI l (bH l 10 o.aN) o).2=T.why o:=by
 obtain⟨h1,h2⟩:=h.get o.aN;cases hg:MM.get T.at_ o.aN with
 | some p=>rw[h2 p hg];exact h.KG hg
 | none=>
  have e:bH l 10 o.aN=((bH l 10 o.aN).1,false):=by
   have:(bH l 10 o.aN).2=false:=by rw[h1];show(MM.get T.at_ o.aN).isSome=false;rw[hg];rfl
   rw[<- this]
  rw[e];exact kD.NS hg
theorem kD.above {l:List ag}{T:Tr}(h:kD l T){d:Dt}{c:Cr}(hc:MM.get T.at_ d=some c)(hl:0<c.level):∃ o p q,aJ l d=some o/\aJ l c.par=some q/\MM.get T.at_ c.par=some p/\By o p q c:=by
 obtain⟨o,_,ho⟩:=h.cr d c hc;rcases ho.how with⟨_,_,e⟩|⟨p,q,h1,h2,hb⟩
 .rw[e] at hl;exact absurd hl (by show ¬ (0:Int)<0;omega)
 .have ec:c.par=o.aN:=by rw[hb.is]
  exact⟨o,p,q,ho.fd,by rw[ec];exact h2,by rw[ec];exact h1,hb⟩
theorem kD.root {l:List ag}{T:Tr}(h:kD l T){d:Dt}{c:Cr}(hc:MM.get T.at_ d=some c)(hl: ¬ 0<c.level):c.dot=c.aI/\c.level=0:=by
 obtain⟨o,_,ho⟩:=h.cr d c hc;rcases ho.how with⟨_,_,e⟩|⟨p,q,h1,h2,hb⟩
 .rw[e];exact⟨rfl,rfl⟩
 .have:=(h.level h1).1
  rw[hb.is] at hl;exact absurd (show 0<p.level+1 by omega) hl
theorem kD.zP {l:List ag}{T:Tr}(h:kD l T){d:Dt}{c:Cr}(hc:MM.get T.at_ d=some c):c.dot=d:=by
 obtain⟨o,_,ho⟩:=h.cr d c hc;exact ho.dot
theorem kD.KH {l:List ag}{T:Tr}(h:kD l T):∀ (n:Nat) (d:Dt) (c:Cr),MM.get T.at_ d=some c->c.level=(n:Int)->∃ L,mC T.at_ (some c) L/\L.length=n+1
 | 0,d,c,hc,hn=>⟨[c],.root c (by omega),rfl⟩
 | n+1,d,c,hc,hn=>by
  have hl:0<c.level:=by omega
  obtain⟨o,p,q,_,_,hp,hb⟩:=h.above hc hl;have e:c.level=p.level+1:=by rw[hb.is]
  obtain⟨L,h1,h2⟩:=kD.KH h n c.par p hp (by omega);exact⟨c::L,.more c L hl (by rw[hp];exact h1),by simp[h2]⟩
theorem kD.sP {l:List ag}{T:Tr}(h:kD l T)(d:Dt):∃ L,mC T.at_ (MM.get T.at_ d) L/\L.length<=9/\∀ c,MM.get T.at_ d=some c->(L.length:Int)=c.level+1:=by
 cases hg:MM.get T.at_ d with
 | none=>exact⟨[],.none,by simp,λ c hc=>by cases hc⟩
 | some c=>
  have hl:=h.level hg;obtain⟨L,h1,h2⟩:=h.KH c.level.toNat d c hg (by omega);exact⟨L,h1,by omega,λ c' hc'=>by injection hc' with hc';subst hc';omega⟩
theorem mC.mem {a:MM Dt Cr}{oc:Option Cr}{L:List Cr}(h:mC a oc L)(x:Cr)(hx:x∈L):oc=some x\/∃ y,y∈L/\0<y.level/\MM.get a y.par=some x:=by
 induction h with
 | none=>cases hx
 | root c hc=>simp at hx;exact .inl (by rw[hx])
 | more c L hc hL ih=>
  rcases List.mem_cons.1 hx with e|hx
  .exact .inl (by rw[e])
  .rcases ih hx with h1|⟨y,hy,h2,h3⟩
   .exact .inr ⟨c,by simp,hc,h1⟩
   .exact .inr ⟨y,List.mem_cons_of_mem _ hy,h2,h3⟩
theorem mC.head {a:MM Dt Cr}{c:Cr}{L:List Cr}(h:mC a (some c) L):L[0]? =some c:=by
 cases h<;>rfl
theorem mC.next {a:MM Dt Cr}{oc:Option Cr}{L:List Cr}(h:mC a oc L):∀ (i:Nat) (x y:Cr),L[i]? =some x->L[i+1]? =some y->0<x.level/\MM.get a x.par=some y:=by
 induction h with
 | none=>intro i x y hx;cases hx
 | root c hc=>intro i x y hx hy;simp at hy
 | more c L hc hL ih=>
  intro i x y hx hy;cases i with
  | zero=>
   have e:c=x:=by simpa using hx
   subst e;refine⟨hc,?_⟩;have hy':L[0]? =some y:=by simpa using hy
   revert hL hy'
   generalize MM.get a c.par=oc;intro hL hy';cases hL with
   | none=>cases hy'
   | root d _=>simpa using hy'
   | more d M _ _=>simpa using hy'
  | succ i=>exact ih i x y (by simpa using hx) (by simpa using hy)
theorem mC.last {a:MM Dt Cr}{oc:Option Cr}{L:List Cr}(h:mC a oc L)(hall:∀ x,x∈L->0<x.level->(MM.get a x.par).isSome=true):∀ x,L[L.length - 1]? =some x-> ¬ 0<x.level:=by
 induction h with
 | none=>intro x hx;cases hx
 | root c hc=>intro x hx;simp at hx;rw[<- hx];exact hc
 | more c L hc hL ih=>
  intro x hx;cases L with
  | nil=>
   have:=hall c (by simp) hc
   revert hL this
   generalize MM.get a c.par=oc;intro hL this;cases hL;cases this
  | cons y M=>
   refine ih (λ x hx=>hall x (List.mem_cons_of_mem _ hx)) x ?_
   simpa using hx
theorem kD.vk {l:List ag}{T:Tr}(h:kD l T){d:Dt}{L:List Cr}(hL:mC T.at_ (MM.get T.at_ d) L)(x:Cr)(hx:x∈L):MM.get T.at_ x.dot=some x:=by
 rcases hL.mem x hx with h1|⟨y,_,_,h1⟩
 .rw[h.zP h1];exact h1
 .rw[h.zP h1];exact h1
theorem kD.zQ {l:List ag}{T:Tr}(h:kD l T){d:Dt}{L:List Cr}(hL:mC T.at_ (MM.get T.at_ d) L):∀ (i:Nat) (x c:Cr),MM.get T.at_ d=some c->L[i]? =some x->x.level=c.level - (i:Int)
 | 0,x,c,hc,hx=>by
  rw[hc] at hL;rw[hL.head] at hx;injection hx with hx;subst hx;simp
 | i+1,x,c,hc,hx=>by
  obtain⟨hlt,_⟩:=List.getElem?_eq_some_iff.1 hx;obtain⟨y,hy⟩:=aP (show i<L.length by omega);have ih:=kD.zQ h hL i y c hc hy;obtain⟨h1,h2⟩:=hL.next i y x hy hx
  obtain⟨o,p,q,_,_,hp,hb⟩:=h.above (h.vk hL y (List.mem_of_getElem? hy)) h1;rw[hp] at h2;injection h2 with h2;subst h2;have e:y.level=p.level+1:=by rw[hb.is]
  omega
end
section
theorem kD.LV {l:List ag}{T:Tr}(h:kD l T){d:Dt}{L:List Cr}(hL:mC T.at_ (MM.get T.at_ d) L){x:Cr}(hx:L[L.length - 1]? =some x):x.level=0/\x.dot=x.aI:=by
 have hn:=hL.last (λ y hy hl=>by
  obtain⟨o,p,q,_,_,hp,_⟩:=h.above (h.vk hL y hy) hl;rw[hp];rfl) x hx
 obtain⟨a,b⟩:=h.root (h.vk hL x (List.mem_of_getElem? hx)) hn;exact⟨b,a⟩
def gO:ag:=⟨⟨0,1⟩,aB.zero,1,1,⟨0,1⟩,0,⟨0,0⟩,0,0,0,0,⟨0,0⟩,⟨0,0⟩,0,0,0,.aG⟩
def wu (n:Nat):aB:=⟨n,0,0,0,0,0,0,0⟩
def aO:ag:=⟨⟨0,2⟩,wu 1,2,1,⟨0,1⟩,1,⟨0,1⟩,2,3,3,500,⟨0,0⟩,⟨0,0⟩,0,0,0,.aG⟩
def bO:ag:=⟨⟨0,3⟩,wu 2,3,2,⟨0,1⟩,1,⟨0,2⟩,3,2,0,500,⟨0,0⟩,⟨0,0⟩,0,0,0,.aG⟩
abbrev MV:List ag:=[bO,gO,aO]
def c1:Cr:=⟨⟨0,1⟩,⟨0,1⟩,⟨0,0⟩,1,7,8,1099511627776,0⟩
def c2:Cr:=⟨⟨0,2⟩,⟨0,1⟩,⟨0,1⟩,2,3,3,500,1⟩
def c3:Cr:=⟨⟨0,3⟩,⟨0,1⟩,⟨0,2⟩,3,2,0,500,2⟩
end
section
structure Part (t l:List ag):Prop where
 uniq:qC l
 IX:qC t
 sub:∀ o,o∈t->o∈l
 O4:∀ o a,o∈t->a∈l->a.before o=true->a∈t
section
variable {t l:List ag} (h:Part t l)
include h
end
end
end Go.Proofs.YtaelhkkjgfobhaaGreat
