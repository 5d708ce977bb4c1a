/-
 Trees of credentials: the credentials above one.
-/
import Derived.Test.YtaelhkkjgfobhaaGreatRA
set_option linter.unusedSectionVars false
set_option linter.unusedVariables false
set_option linter.unusedSimpArgs false
namespace Go.Proofs.YtaelhkkjgfobhaaGreat
open Go.Sl Go.Proofs
section
attribute [local irreducible] SW RW aH SC aj ak
inductive pg (a:MM Dt Cr):Option Cr->List Cr->Prop where
 | none:pg a none []
 | root (c:Cr): ¬ 0<c.level->pg a (some c) [c]
 | more (c:Cr) (L:List Cr):0<c.level->pg a (MM.get a c.par) L->pg a (some c) (c::L)
def TF (T:Tr)(F:Hp):Hp:=T.hp++F
structure Lc (T:Tr)(b q:Nat)(F:Hp):Prop where
 b:lk F b=none
 q:lk F q=none
 x:lk F T.bx=none
 a:lk F T.ma=none
 m:lk F T.mm=none
theorem TF.Pz {T:Tr}{F:Hp}{n:Nat}{ob:Ob}(h:lk T.hp n=some ob):lk (TF T F) n=some ob:=by
 show List.lookup n (T.hp++F)=some ob;rw[List.lookup_append,show List.lookup n T.hp=some ob from h];rfl
theorem TF.PA {T:Tr}{F:Hp}{n:Nat}(h:lk T.hp n=none):lk (TF T F) n=lk F n:=by
 show List.lookup n (T.hp++F)=_;rw[List.lookup_append,show List.lookup n T.hp=none from h];rfl
theorem TF.ok {T:Tr}{F:Hp}{k:Nat}(h1:T.lt k)(h2:F.ok (λ n=>decide (n<k))=true):(TF T F).ok (λ n=>decide (n<k))=true:=by
 have h1:=Tr.tY h1;unfold Hp.ok at*;rw[TF,List.all_append,h1,h2];rfl
structure Oh {σ:Type}(Fh:σ->Hp)(Step:σ->Cr->σ->Prop)(go:σ->Bool)(T:Tr)(aV b q k:Nat)(L:List Cr)(s0 s:σ)(xs:List Cr)(oc:Option Cr)(rest:List Cr)(cn kk:Nat):Prop where
 p1:lU Step s0 xs s
 p2:go s=true
 p3:xs++rest=L
 p4:pg T.at_ oc rest
 p5:k<=cn/\cn<kk
 p6:kk<=k+1+xs.length*(1+aV)
 p7:(Fh s).ok (λ n=>decide (n<kk))=true
 p8:Lc T b q (Fh s)
 p9:lk (Fh s) cn=none
set_option maxHeartbeats 2000000 in
theorem Gk {σ :Type}{Fh:σ->Hp}{Step:σ->Cr->σ->Prop}{go:σ->Bool}{aV y b q k:Nat}{T:Tr}{L:List Cr}{d:Dt}(hT:T.sep)(hL:pg T.at_ (MM.get T.at_ d) L)(s0:σ)(hy:pW Tryz.prog y (λ x:Cr=> .agg x.cells) aV Fh Step go s0 L.length)(h0:(Fh s0).ok (λ n=>decide (n<k))=true)
  (hb:b<k) (hq:q<k) (Qb:b≠q) (Fc:T.lt k) (Oi:lk T.hp b=none) (Oj:lk T.hp q=none) (hoff:Lc T b q (Fh s0)) (xb:go s0=true):
  SB Tryz.prog tree_Tree_up_1.f [.yl y,.ptr b 0,.ptr q 0] ((b,.box 105 [.ptr T.bx 0])::(q,.box 37 d.cells)::TF T (Fh s0)) k (1+L.length*(1+aV))
   λ r F=>r= .dL []/\∃ (xs:List Cr) (s':σ),lU Step s0 xs s'/\xs <+: L/\(go s'=true->xs=L)/\Lc T b q (Fh s')/\F=(b,.box 105 [.ptr T.bx 0])::(q,.box 37 d.cells)::TF T (Fh s'):=by
 have hyk:y<k:=by
  obtain⟨ob,ho⟩:=Option.ne_none_iff_exists'.1 (hy.vF s0)
  simpa using(Hp.fu h0 ho).1
 have hokT:∀ (s:σ) (kx:Nat),k<=kx->(Fh s).ok (λ n=>decide (n<kx))=true->Hp.ok (λ n=>decide (n<kx)) ((b,.box 105 [.ptr T.bx 0])::(q,.box 37 d.cells)::TF T (Fh s))=true:=λ s kx hkx h=>by
  have h1:=TF.ok (T:=T) ⟨Nat.lt_of_lt_of_le Fc.b hkx,Nat.lt_of_lt_of_le Fc.a hkx,Nat.lt_of_lt_of_le Fc.m hkx⟩ h;have:=Fc.b;unfold Hp.ok at*;simp only[List.all_cons,Ob.ok,SV.ax,SV.ok,Dt.ah,Bool.and_true,Bool.and_eq_true,decide_eq_true_eq];exact⟨⟨by omega,by omega⟩,by omega,h1⟩
 refine tree_Tree_up_1.enter (by simp[SV.ok,SV.ax];omega) (hokT s0 k (Nat.le_refl _) h0) (by simp) ?_;dsimp only[tree_Tree_up_1.s,Co.M,Co.G,Co.J,Co.H,Co.F,Co.Z,Co.b8,Co.aB,Co.bE,Co.i6,Co.T,Co.K,Co.E,Co.W,Co.U,Co.D,Co.A,Co.S];have f1:=bX Qb;have tb:T.bx≠b:=λ e=>by rw[<- e,Tr.Lb] at Oi;cases Oi
 have tq:T.bx≠q:=λ e=>by rw[<- e,Tr.Lb] at Oj;cases Oj
 have ta:T.ma≠b:=λ e=>by rw[<- e,Tr.Nz hT] at Oi;cases Oi
 have taq:T.ma≠q:=λ e=>by rw[<- e,Tr.Nz hT] at Oj;cases Oj
 have f2:=bX tb;have f3:=bX tq;have f4:=bX ta;have f5:=bX taq;have u1:∀ F,List.lookup T.bx (TF T F)=some (.box 166 [.mp T.ma,.mp T.mm]):=λ F=>TF.Pz T.Lb
 have u2:∀ F,List.lookup T.ma (TF T F)=some T.oa:=λ F=>TF.Pz (Tr.Nz hT)
 have g0:List.lookup k (TF T (Fh s0))=none:=Hp.out (TF.ok Fc h0) (Nat.le_refl _);have g1:=bX (show k≠b by omega);have g2:=bX (show k≠q by omega);have:=Fc.b;have:=Fc.a;have:=Fc.m;have g3:=bX (show k≠T.bx by omega);have g4:=bX (show k≠T.ma by omega);refine SW.seq (SW.gK gS Zm (Zq f1 (Zq f2 (Zq f3 (Zq f4 (Zq f5 (Zq u1 (Zq u2 (Zq g0 (Zq g1 g2))))))))) (Zq f1 (Zq f2 (Zq f3 (Zq f4 (Zq f5 (Zq g1 (Zq g2 (Zq g3 g4)))))))) True.intro ?_);refine SW.block ?_;have oM :∀ (s:σ) (xs:List Cr) (cn kk:Nat) (cs:List SV),k<=cn->cn<kk->(Fh s).ok (λ n=>decide (n<kk))=true->lk (Fh s) cn=none->Lc T b q (Fh s)->∀ x,x∈((cn,Ob.box 158 cs)::(b,.box 105 [.ptr T.bx 0])::(q,.box 37 d.cells)::TF T (Fh s))->lk ((cn,Ob.box 158 cs)::(b,.box 105 [.ptr T.bx 0])::(q,.box 37 d.cells)::TF T (Fh s)) x.1=some x.2:=by
  intro s xs cn kk cs h1 h2 h3 h4 h5 x hx;have:=Fc.b;have:=Fc.a;have:=Fc.m;have c1:=bX (show cn≠b by omega);have c2:=bX (show cn≠q by omega);have c3:=bX (show b≠q from Qb);simp only[List.mem_cons] at hx;rcases hx with rfl|rfl|rfl|hx
  .simp[af]
  .simp[af,c1]
  .simp[af,c2,c3]
  .rcases List.mem_append.1 hx with hx|hx
   .have hl:=aI (Tr.nd hT) x hx
    have c4:x.1≠b:=λ e=>by rw[e,Oi] at hl;cases hl
    have c5:x.1≠q:=λ e=>by rw[e,Oj] at hl;cases hl
    have c6:x.1≠cn:=λ e=>by
     have:=(Hp.fu (Tr.tY Fc) hl).1;simp at this;omega
    rw[af,if_neg c6,af,if_neg c4,af,if_neg c5];exact TF.Pz hl
   .have hl:=hy.nd s x hx
    have c4:x.1≠b:=λ e=>by rw[e,h5.b] at hl;cases hl
    have c5:x.1≠q:=λ e=>by rw[e,h5.q] at hl;cases hl
    have c6:x.1≠cn:=λ e=>by rw[e,h4] at hl;cases hl
    have c7:lk T.hp x.1=none:=by
     have e1:x.1≠T.bx:=λ e=>by rw[e,h5.x] at hl;cases hl
     have e2:x.1≠T.ma:=λ e=>by rw[e,h5.a] at hl;cases hl
     have e3:x.1≠T.mm:=λ e=>by rw[e,h5.m] at hl;cases hl
     rw[Tr.hp,af,if_neg e1,af,if_neg e2,af,if_neg e3];rfl
    rw[af,if_neg c6,af,if_neg c4,af,if_neg c5,TF.PA c7];exact hl
 have g5:lk (Fh s0) k=none:=Hp.out h0 (Nat.le_refl _);have hokC:∀ (s:σ) (cn kk:Nat) (c:Cr),k<=cn->cn<kk->(Fh s).ok (λ n=>decide (n<kk))=true->Hp.ok (λ n=>decide (n<kk)) ((cn,Ob.box 158 c.cells)::(b,.box 105 [.ptr T.bx 0])::(q,.box 37 d.cells)::TF T (Fh s))=true:=λ s cn kk c h1 h2 h3=>by
  have h4:=hokT s kk (by omega) h3;unfold Hp.ok at*;rw[List.all_cons,h4];simp only[Ob.ok,Cr.ah,Bool.and_true,decide_eq_true_eq];exact h2
 refine SW.loop (α:={i:σ×List Cr×Option Cr×List Cr×Nat×Nat // Oh Fh Step go T aV b q k L s0 i.1 i.2.1 i.2.2.1 i.2.2.2.1 i.2.2.2.2.1 i.2.2.2.2.2})
  (λ i=>⟨[(5,bl i.1.2.2.1.isSome),(4,.ptr i.1.2.2.2.2.1 0),(0,.yl y),(1,.ptr b 0),(2,.ptr q 0)],(i.1.2.2.2.2.1,.box 158 (i.1.2.2.1.getD Cr.zero).cells)::(b,.box 105 [.ptr T.bx 0])::(q,.box 37 d.cells)::TF T (Fh i.1.1),i.1.2.2.2.2.2⟩)
  (λ i=>i.1.2.2.2.1.length) ⟨(s0,[],MM.get T.at_ d,L,k,k+1),⟨.nil,xb,rfl,hL,⟨Nat.le_refl _,Nat.lt_succ_self _⟩,by simp,Hp.bJ (by simp) h0,hoff,?_⟩⟩ id ?_ ?_
 .exact g5
 .refine aG.same (by simp) (by simp[aJ,lT,List.lookup,SV.aC,SV.ok,MM.has];omega) ?_ (oM s0 [] k (k+1) _ (Nat.le_refl _) (Nat.lt_succ_self _) (Hp.bJ (by simp) h0) g5 hoff)
  exact hokC s0 k (k+1) _ (Nat.le_refl _) (Nat.lt_succ_self _) (Hp.bJ (by simp) h0)
 .rintro⟨⟨s,xs,oc,rest,cn,kk⟩,hi⟩
  have hi:Oh Fh Step go T aV b q k L s0 s xs oc rest cn kk:=hi;obtain⟨p1,p2,p3,p4,p5,p6,p7,p8,p9⟩:=hi;dsimp only at*;have hlen:xs.length+rest.length=L.length:=by rw[<- p3,List.length_append]
  have hpos:∀ n:Nat,n<=L.length->n*(1+aV)<=L.length*(1+aV):=λ n h=>Nat.mul_le_mul_right _ h
  have c1:=bX (show cn≠b by omega);have c2:=bX (show cn≠q by omega);have c3:=bX (show cn≠T.bx by omega);have c4:=bX (show cn≠T.ma by omega);have hout:=oM s xs cn kk;have w1:=hpos xs.length (by omega);have hcn:lk ((b,Ob.box 105 [.ptr T.bx 0])::(q,.box 37 d.cells)::TF T (Fh s)) cn=none:=by
   rw[af,if_neg (by omega),af,if_neg (by omega),TF.PA (by
    rw[Tr.hp,af,if_neg (by omega),af,if_neg (by omega),af,if_neg (by omega)];rfl)]
   exact p9
  have hend:∀ (s':σ) (xs':List Cr) (env:List (Nat×SV)) (KV NA:Nat) (cs:List SV) (Q:Exit->St->Prop),k<=NA->NA<KV->KV<=k+(1+L.length*(1+aV))->(Fh s').ok (λ n=>decide (n<KV))=true->lk (Fh s') NA=none->Lc T b q (Fh s')->
    (Q (.exit 0) ⟨[],(b,Ob.box 105 [.ptr T.bx 0])::(q,.box 37 d.cells)::TF T (Fh s'),k+(1+L.length*(1+aV))⟩)->Go.Sl.SW Tryz.prog 37 k (.exit 0) ⟨env,(NA,Ob.box 158 cs)::(b,.box 105 [.ptr T.bx 0])::(q,.box 37 d.cells)::TF T (Fh s'),KV⟩ Q:=by
   intro s' xs' env KV NA cs Q h1 h2 h3 h4 h5 h6 h7;refine SW.weak id (st1:=⟨[],(b,Ob.box 105 [.ptr T.bx 0])::(q,.box 37 d.cells)::TF T (Fh s'),k+(1+L.length*(1+aV))⟩) (aG.same (Nat.le_add_right _ _) trivial (hokT s' _ (Nat.le_add_right _ _) (Hp.bJ h3 h4)) λ x hx=> ?_) (SW.exit h7);exact oM s' [] NA KV cs h1 h2 h4 h5 h6 x (List.mem_cons_of_mem _ hx)
  have hfin:∀ (s':σ) (xs':List Cr),lU Step s0 xs' s'->xs' <+: L->(go s'=true->xs'=L)->Lc T b q (Fh s')->(Fh s').ok (λ n=>decide (n<k+(1+L.length*(1+aV))))=true->
    Go.Sl.Fin k (1+L.length*(1+aV)) [] (λ r F=>r= .dL []/\∃ (xs:List Cr) (s':σ),lU Step s0 xs s'/\xs <+: L/\(go s'=true->xs=L)/\Lc T b q (Fh s')/\F=(b,.box 105 [.ptr T.bx 0])::(q,.box 37 d.cells)::TF T (Fh s')) ⟨[],(b,Ob.box 105 [.ptr T.bx 0])::(q,.box 37 d.cells)::TF T (Fh s'),k+(1+L.length*(1+aV))⟩:=by
   intro s' xs' h1 h2 h3 h4 h5;exact End.mk ((b,Ob.box 105 [.ptr T.bx 0])::(q,.box 37 d.cells)::TF T (Fh s')) (h3:=λ _ _ h=>h) (h4:=⟨rfl,xs',s',h1,h2,h3,h4,rfl⟩) (h6:=hokT s' _ (Nat.le_add_right _ _) h5) (h7:=Nat.le_refl _)
  have hc:(oc=none/\rest=[])\/∃ c R,oc=some c/\rest=c::R/\(0<c.level->pg T.at_ (MM.get T.at_ c.par) R)/\(¬ 0<c.level->R=[]):=by
   cases p4 with
   | none=>exact .inl ⟨rfl,rfl⟩
   | root c hc=>exact .inr ⟨c,[],rfl,rfl,λ h=>absurd h hc,λ _=>rfl⟩
   | more c R hc hR=>exact .inr ⟨c,R,rfl,rfl,λ _=>hR,λ h=>absurd hc h⟩
  rcases hc with⟨rfl,rfl⟩|⟨c,R,rfl,rfl,hm,hr⟩
  .refine SW.seq (SW.seq ?_)
   refine SW.gK gS Zm aa (Zq f1 (Zq f2 (Zq f3 (Zq f4 (Zq f5 (Zq g1 (Zq g2 (Zq g3 g4)))))))) True.intro ?_;refine SW.an rfl (hend s xs _ kk cn _ _ p5.1 p5.2 (by omega) p7 p9 p8 ?_);dsimp only;rw[if_pos rfl];exact hfin s xs p1 (by rw[<- p3,List.append_nil];exact List.prefix_rfl) (λ _=>by rw[<- p3,List.append_nil]) p8 (Hp.bJ (by omega) p7)
  .simp only[List.length_cons] at hlen
   have w2:=hpos (xs.length+1) (by omega);rw[Nat.add_mul,Nat.one_mul] at w2;refine SW.seq (SW.seq (SW.xU ?_));(repeat (first|refine bq.op aa (h:=?_)|refine bq.dV aa (h:=?_)|refine bq.skip (h:=?_)));have hsub:HSub (Fh s) ((cn,Ob.box 158 c.cells)::(b,.box 105 [.ptr T.bx 0])::(q,.box 37 d.cells)::TF T (Fh s)):=λ n ob hn=>by
    have h1:n≠cn:=λ e=>by rw[e,p9] at hn;cases hn
    have h2:n≠b:=λ e=>by rw[e,p8.b] at hn;cases hn
    have h3:n≠q:=λ e=>by rw[e,p8.q] at hn;cases hn
    have h4:n≠T.bx:=λ e=>by rw[e,p8.x] at hn;cases hn
    have h5:n≠T.ma:=λ e=>by rw[e,p8.a] at hn;cases hn
    have h6:n≠T.mm:=λ e=>by rw[e,p8.m] at hn;cases hn
    rw[af,if_neg h1,af,if_neg h2,af,if_neg h3,TF.PA (by rw[Tr.hp,af,if_neg h4,af,if_neg h5,af,if_neg h6];rfl)];exact hn
   refine bq.BN (by simp only[List.lookup,Nat.reduceBEq]<;>rfl) (by simp only[ev,List.lookup,Nat.reduceBEq]<;>rfl) (by simp only[ev,qu,List.lookup,Nat.reduceBEq]<;>rfl) (hy.vF s) (hy.call s xs c kk p1 (by omega) p7 p2) hsub ?_;rintro v F' ⟨s',hstep,rfl,rfl,hok',hnm⟩;rw[iX];have hno:∀ n,n<kk->lk (Fh s) n=none->lk (Fh s') n=none:=λ n h1 h2=>Classical.byContradiction λ hn=>(hnm n hn).elim (λ h=>h h2) (λ h=>by omega)
   have q8:Lc T b q (Fh s'):=⟨hno _ (by omega) p8.b,hno _ (by omega) p8.q,hno _ (by omega) p8.x,hno _ (by omega) p8.a,hno _ (by omega) p8.m⟩;have q9:=hno cn (by omega) p9;have q1:=lU.snoc p1 hstep;have hlk:=iM (ro:=false) hsub (F':=Fh s') (λ h=>by cases h);have hin:∀ z,z∈((cn,Ob.box 158 c.cells)::(b,.box 105 [.ptr T.bx 0])::(q,.box 37 d.cells)::TF T (Fh s'))->lk (bU false ((cn,Ob.box 158 c.cells)::(b,.box 105 [.ptr T.bx 0])::(q,.box 37 d.cells)::TF T (Fh s)) (Fh s) (Fh s')) z.1=some z.2:=by
    intro z hz;rw[hlk];simp only[List.mem_cons] at hz;rcases hz with rfl|rfl|rfl|hz
    .rw[dB p9 q9];simp[af]
    .rw[dB p8.b q8.b];exact oM s xs cn kk c.cells p5.1 p5.2 p7 p9 p8 (b,Ob.box 105 [.ptr T.bx 0]) (by simp)
    .rw[dB p8.q q8.q];exact oM s xs cn kk c.cells p5.1 p5.2 p7 p9 p8 (q,Ob.box 37 d.cells) (by simp)
    .rcases List.mem_append.1 hz with hz|hz
     .have hx:z.1=T.bx\/z.1=T.ma\/z.1=T.mm:=by
       simp only[Tr.hp,List.mem_cons,List.not_mem_nil,or_false] at hz;rcases hz with rfl|rfl|rfl<;>simp
      have e1:lk (Fh s) z.1=none:=by rcases hx with e|e|e<;>rw[e]<;>first|exact p8.x|exact p8.a|exact p8.m
      have e2:lk (Fh s') z.1=none:=by rcases hx with e|e|e<;>rw[e]<;>first|exact q8.x|exact q8.a|exact q8.m
      rw[dB e1 e2];exact oM s xs cn kk c.cells p5.1 p5.2 p7 p9 p8 _ (by simp only[List.mem_cons];exact .inr (.inr (.inr (List.mem_append_left _ hz))))
     .have:=hy.nd s' z hz
      rw[fm (.inr (by rw[this];simp)),this]
   refine SW.Qv (st1:=⟨[(19,bl (go s')),(16,bl true),(5,bl true),(4,.ptr cn 0),(0,.yl y),(1,.ptr b 0),(2,.ptr q 0)],(cn,Ob.box 158 c.cells)::(b,.box 105 [.ptr T.bx 0])::(q,.box 37 d.cells)::TF T (Fh s'),kk+aV⟩) (aG.same (by show k<=kk+aV;omega) (by simp[aJ,lT,rR,List.lookup,SV.aC,SV.ok];omega) (hokC s' cn (kk+aV) c p5.1 (by omega) hok') hin) ?_;rcases hg:go s' with _|_
   ·(repeat (first|refine bq.op aa (h:=?_)|refine bq.dV aa (h:=?_)|refine bq.skip (h:=?_)))
    refine bq.nil ?_;refine SW.an rfl (hend s' (xs++[c]) _ (kk+aV) cn _ _ p5.1 (by omega) (by omega) hok' q9 q8 ?_);dsimp only;rw[if_pos rfl];exact hfin s' (xs++[c]) q1 (by rw[<- p3];exact⟨R,by simp⟩) (λ h=>by rw[hg] at h;cases h) q8 (Hp.bJ (by omega) hok')
   .rcases hlv:decide (c.level>0) with _|_
    ·(repeat (first|refine bq.op (hlv) (h:=?_)|refine bq.dV (hlv) (h:=?_)|refine bq.skip (h:=?_)))
     refine bq.nil ?_;refine SW.an rfl (hend s' (xs++[c]) _ (kk+aV) cn _ _ p5.1 (by omega) (by omega) hok' q9 q8 ?_);dsimp only;rw[if_pos rfl];have hR:=hr (by simpa using hlv);exact hfin s' (xs++[c]) q1 (by rw[<- p3,hR];exact List.prefix_rfl) (λ _=>by rw[<- p3,hR]) q8 (Hp.bJ (by omega) hok')
    ·(repeat (first|refine bq.op (hlv) (h:=?_)|refine bq.dV (hlv) (h:=?_)|refine bq.skip (h:=?_)))
     refine bq.nil ?_;refine SW.ai rfl (SW.skip ?_);have z1:=bX (show kk+aV≠cn by omega);have z2:=bX (show kk+aV≠b by omega);have z3:=bX (show kk+aV≠q by omega);have z4:List.lookup (kk+aV) (TF T (Fh s'))=none:=Hp.out (TF.ok (T:=T) ⟨by omega,by omega,by omega⟩ hok') (Nat.le_refl _);refine SW.seq (SW.block ?_);refine SW.gK gS Zm (Zq c1 (Zq c2 (Zq c3 (Zq c4 (Zq f1 (Zq f2 (Zq f3 (Zq f4 (Zq f5 (Zq u1 u2)))))))))) (Zq c1 (Zq c2 (Zq c3 (Zq c4 (Zq f1 (Zq f2 (Zq f3 (Zq f4 f5)))))))) True.intro ?_;refine SW.seq ?_;refine SW.gK gS Zm aa (Zq c1 (Zq c2 (Zq c3 (Zq c4 (Zq f1 (Zq f2 (Zq f3 (Zq f4 f5)))))))) True.intro ?_;refine SW.gK gS Zm (Zq z1 (Zq z2 (Zq z3 (Zq z4 f1)))) (Zq c1 (Zq c2 (Zq c3 (Zq c4 (Zq f1 (Zq f2 (Zq f3 (Zq f4 f5)))))))) True.intro ?_;refine⟨⟨(s',xs++[c],MM.get T.at_ c.par,R,kk+aV,kk+aV+1),q1,hg,by rw[<- p3];simp,hm (by simpa using hlv),⟨by show k<=kk+aV;omega,Nat.lt_succ_self _⟩,by
      show kk+aV+1<=k+1+(xs++[c]).length*(1+aV);rw[List.length_append,List.length_singleton,Nat.add_mul,Nat.one_mul];omega,Hp.bJ (by simp) hok',q8,Hp.out hok' (Nat.le_refl _)⟩,id,Nat.lt_succ_self _,aG.same (by show k<=kk+aV+1;omega) (by simp[aJ,List.lookup,SV.aC,SV.ok,MM.has];omega) (hokC s' (kk+aV) (kk+aV+1) _ (by omega) (Nat.lt_succ_self _) (Hp.bJ (by simp) hok')) (λ x hx=> ?_)⟩
     have hx:x∈((kk+aV,Ob.box 158 ((MM.get T.at_ c.par).getD Cr.zero).cells)::(b,.box 105 [.ptr T.bx 0])::(q,.box 37 d.cells)::TF T (Fh s')):=hx;rcases List.mem_cons.1 hx with rfl|hx
     .exact ez
     .have h1:=oM s' [] cn (kk+aV) ((MM.get T.at_ c.par).getD Cr.zero).cells p5.1 (by omega) hok' q9 q8 x (List.mem_cons_of_mem _ hx)
      have h2:=(Hp.fu (hokC s' cn (kk+aV) ((MM.get T.at_ c.par).getD Cr.zero) p5.1 (by omega) hok') h1).1;rw[af,if_neg (by simp at h2;omega)];exact h1
end
section
attribute [local irreducible] SW RW aH SC aj ak
structure Gl (y bx:Nat) where
 l:List Dt
 rn:Nat
 h1:rn≠y
 h2:rn≠bx
def iY (y bx N:Nat)(ts ps:List Nat)(ca cb:Code)(s:Gl y bx):Hp:=
 [(y,.qo N ts [.ptr bx 0] ps ca cb .ready none),(bx,.box 31 [.gs s.rn s.l.length]),(s.rn,.arr 37 2 s.l.length ((s.l.flatMap Dt.ds).map .d))]
set_option maxHeartbeats 1000000 in
theorem D9 {y bx B:Nat}(Ol:y≠bx)(s0:Gl y bx)(hB:s0.l.length+B<4611686018427){ca cb:Code}
    (hca:cK Tryz.prog 29 ca=some (.e_ [⟨some 9,.alloc 158 [.d (.int .u8 0),.d (.int .u32 0),.d (.int .u8 0),.d (.int .u32 0),.d (.int .u8 0),.d (.int .u32 0),.d (.int .u32 0),.d (.int .u8 0),.d (.int .u8 0),.d (.int .u64 0),.d (.int .i64 0)],none⟩,⟨none,.store 11 (.t 9) (.t 22),none⟩] (oD 2) false))
    (hcb:cK Tryz.prog 29 cb=some (.block 1 (.e_ [⟨some 23,.load none (.t 8),none⟩,⟨some 24,.aT 0 (.t 9),none⟩,⟨some 25,.load (some 2) (.t 24),none⟩,⟨some 26,.mK 37 2 1 [.d (.int .u8 0),.d (.int .u32 0)] [(0,2,.t 25)],none⟩,⟨some 27,.app 37 2 8 (.t 23) (.t 26),none⟩,⟨none,.store 1 (.t 8) (.t 27),none⟩] (oD 6) false))):
    pW Tryz.prog y (λ x:Cr=> .agg x.cells) 2 (iY y bx 29 [8] [22] ca cb) (λ s x s'=>s'.l=s.l++[x.dot]) (λ _=>true) s0 B:=by
  refine⟨λ s=>by simp[iY,af],λ s x hx=> ?_,λ s xs x k hon hlt hok _=> ?_⟩
  . have f1:=bX Ol
    have f2:=bX s.h1;have f3:=bX s.h2;simp only[iY,List.mem_cons,List.not_mem_nil,or_false] at hx;rcases hx with rfl|rfl|rfl<;>simp[iY,af,f1,f2,f3]
  . have hlen:s.l.length=s0.l.length+xs.length:=by
      clear hlt hok
      induction hon with
      | nil=>rfl
      | snoc _ h ih=>rw[h];simp[ih];omega
    obtain⟨l,rn,h1,h2⟩:=s;simp only at hlen;simp only[iY,Hp.ok,List.all_cons,List.all_nil,Ob.ok,SV.ax,SV.ok,SV.aW,Bool.and_true,Bool.and_eq_true,decide_eq_true_eq] at hok;obtain⟨⟨k1,_⟩,⟨k2,_⟩,k3⟩:=hok;have f1:=bX Ol;have f2:=bX h1;have f3:=bX h2;have g1:=bX (show k≠y by omega);have g2:=bX (show k≠bx by omega);have g3:=bX (show k≠rn by omega);have g4:=bX (show k+1≠k by omega);have g5:=bX (show k+1≠y by omega);have g6:=bX (show k+1≠bx by omega);have g7:=bX (show k+1≠rn by omega);refine Fa.here (λ n=>n == y || n == bx || n == rn) (Fa.uI (cs:=[.ptr bx 0]) (H:=[(bx,.box 31 [.gs rn l.length]),(rn,.arr 37 2 l.length ((l.flatMap Dt.ds).map .d))]) hca hcb rfl rfl rfl (by simp) k1 (by simp[af,bA,f1,f2]) (by simp[SV.ax,SV.ok]) (by simp[Hp.ok,Ob.ok,SV.ax,SV.ok,SV.aW];omega) (by simp[SV.ax,SV.ok];omega) ?_) ?_ (by simp[SV.ax,SV.ok]) (by simp[iY,Hp.ok,Ob.ok,SV.ax,SV.ok,SV.aW]) ?_
    . skip
      show Go.Sl.SW _ _ _ _ ⟨[(22,.agg x.cells),(8,.ptr bx 0)],_,_⟩ _;refine SW.g0 [8,9,22] Zm (Zq f1 (Zq f2 (Zq f3 (Zq g1 (Zq g2 g3))))) ?_;refine⟨rfl,SW.block ?_⟩;refine SW.g0 [8,9,22] Zm (Zq f1 (Zq f2 (Zq f3 (Zq g1 (Zq g2 (Zq g3 (Zq g4 (Zq g5 (Zq g6 g7))))))))) ?_;have e2:((l++[x.dot]).flatMap Dt.ds).map SV.d=(List.flatMap Dt.ds l).map SV.d++x.dot.ds.map SV.d:=by simp
      refine⟨none,true,[(bx,.box 31 [.gs (k+1) (l++[x.dot]).length]),(k+1,.arr 37 2 (l++[x.dot]).length (((l++[x.dot]).flatMap Dt.ds).map .d))],⟨rfl,rfl⟩,?_,?_,by simp,⟨⟨l++[x.dot],k+1,by omega,by omega⟩,rfl,rfl,rfl,?_,?_⟩⟩
      . refine HSub.cons ?_ (HSub.cons ?_ (HSub.nil _))
        . simp[af,f1,f2,f3,g1,g2,g3,g4,g5,g6,g7,b_]
        . rw[e2];simp[af]
      . simp[Hp.ok,Ob.ok,SV.ax,SV.ok,SV.aW,-List.flatMap_append,-List.map_append];omega
      . simp[iY,Hp.ok,Ob.ok,SV.ax,SV.ok,SV.aW,-List.flatMap_append,-List.map_append];omega
      . intro n hn
        by_cases hy':n=y
        . exact .inl (by simp[iY,af,hy'])
        . by_cases hbx:n=bx
          . exact .inl (by simp[iY,af,hbx,f1])
          . refine .inr ?_
            have:n=k+1:=Classical.byContradiction λ hne=>hn (by simp[iY,af,bA,hy',hbx,hne])
            omega
    . intro n hn
      simp only[Bool.or_eq_true,beq_iff_eq] at hn;rcases hn with(rfl|rfl)|rfl<;>simp[iY,af,f1,f2,f3]
    . rintro r F' ⟨s',hs',rfl,rfl,hok',hnm⟩ _ _
      obtain⟨l',rn',h1',h2'⟩:=s';refine⟨rfl,?_⟩;simp[iY,Hp.ok,Ob.ok,SV.ax,SV.ok,SV.aW];have hh:=hnm rn' (by simp[iY,af,h1',h2']);rcases hh with hh|⟨hh1,hh2⟩
      . have:rn'=rn:=by
          refine Classical.byContradiction λ hne=>hh ?_
          simp[iY,af,bA,h1',h2',hne]
        simp[this]
      . simp[hh1];omega
end
section
attribute [local irreducible] SW RW aH SC aj ak
theorem Om (a:MM Dt Cr)(ca:Nat)(m:MM Dt ag)(cm:Nat)(d:Dt):SB Tryz.prog tree_Tree_up.f [.ptr 0 0,.agg d.cells] (gj a ca m cm) 3 2 (λ r F'=>r= .fn (.func tree_Tree_up_1.f) [] [.ptr 3 0,.ptr 4 0]/\F'=(4,.box 37 d.cells)::(3,.box 105 [.ptr 0 0])::gj a ca m cm):=by
 refine tree_Tree_up.enter (by simp[SV.ax,SV.ok]) (dG a ca m cm (Nat.le_refl 3)) (by simp) ?_;dsimp only[tree_Tree_up.s,Co.M,Co.J,Co.F,Co.x,Co.S];(repeat (first|refine SW.seq ?_|refine SW.block ?_|refine SW.g0 ci Zm aa ?_|refine SW.skip ?_|refine SW.exit ?_|refine SW.ret ?_|refine SW.ai rfl ?_|refine SW.an rfl ?_));refine End.mk ((4,.box 37 d.cells)::(3,.box 105 [.ptr 0 0])::gj a ca m cm) (h3:=λ _ _ h=>h) (h4:=⟨rfl,rfl⟩) (h6:= ?_);exact aA (by simp) (by simp[Ob.ok,SV.aW,Dt.cells,SV.ax,SV.ok]) (aA (by simp) (by simp[Ob.ok,SV.ax,SV.ok]) (dG a ca m cm (by omega)))
theorem Ld (a:MM Dt Cr)(ca:Nat)(m:MM Dt ag)(cm:Nat)(d:Dt)(k:Nat)(hk:3<=k):aH Tryz.prog tree_Tree_up.f [.ptr 0 0,.agg d.cells] (gj a ca m cm) k 2 (.fn (.func tree_Tree_up_1.f) [] [.ptr k 0,.ptr (k+1) 0]) ((k+1,.box 37 d.cells)::(k,.box 105 [.ptr 0 0])::gj a ca m cm):=by
 have h:=SB.lR [0,1,2] (Om a ca m cm d) (by decide) (td _ _ _ _) k;have e:Hp.aC (eu [0,1,2] k) (gj a ca m cm)=gj a ca m cm:=ow ⟨0,1,2,a,ca,m,cm⟩ k;have e3:eu [0,1,2] k 3=k:=by simp[eu]
 have e4:eu [0,1,2] k 4=k+1:=by simp[eu];omega
 have e0:eu [0,1,2] k 0=0:=rfl;have e5:∀ x y:Nat×Ob,Hp.aC (eu [0,1,2] k) (x::y::gj a ca m cm)=(eu [0,1,2] k x.1,x.2.aC (eu [0,1,2] k))::(eu [0,1,2] k y.1,y.2.aC (eu [0,1,2] k))::Hp.aC (eu [0,1,2] k) (gj a ca m cm):=λ _ _=>rfl
 rw[e5,e] at h;simp only[SV.aN,SV.aC,Ob.aC,Dt.aq,e0,e3,e4,List.length_cons,List.length_nil] at h;exact h
theorem D_ {y bx:Nat}{s0 s:Gl y bx}{xs:List Cr}(h:lU (λ (s:Gl y bx) (x:Cr) s'=>s'.l=s.l++[x.dot]) s0 xs s):s.l=s0.l++xs.map (·.dot):=by
 induction h with
 | nil=>simp
 | snoc _ h ih=>rw[h,ih];simp
def pn (a:MM Dt Cr)(d:Dt)(L:List Cr):SV:=if MM.has a d then .dL [.d (.sl L.length ((L.map (·.dot)).flatMap Dt.ds)),.d (.int .i64 0)] else .dL [.d .aL,.d (.int .i64 7)]
set_option maxHeartbeats 4000000 in
theorem Gm (a:MM Dt Cr)(ca:Nat)(m:MM Dt ag)(cm:Nat)(d:Dt)(L:List Cr)(hL:pg a (MM.get a d) L)(hlen:L.length<1000000):
  SB Tryz.prog tree_Tree_Chain.f [.ptr 0 0,.agg d.cells] (gj a ca m cm) 3 (6+L.length*(1+2)) (λ r F'=>r=pn a d L/\F'=gj a ca m cm):=by
 refine tree_Tree_Chain.enter (by simp[SV.ax,SV.ok]) (dG a ca m cm (Nat.le_refl 3)) (by simp) ?_;dsimp only[tree_Tree_Chain.s,Co.M,Co.J,Co.F,Co.Z,Co.b8,Co.aB,Co.bE,Co.i6,Co.T,Co.K,Co.E,Co.Q,Co.x,Co.W,Co.Y,Co.D,Co.S];have kX:∀ k,aH Tryz.prog tree_Tree_Get.f [.ptr 0 0,.agg d.cells] (gj a ca m cm) k 3 (.dL [.agg ((MM.get a d).getD Cr.zero).cells,i64 (if MM.has a d then 0 else 7)]) (gj a ca m cm):=λ k=>get_at (qb a ca m cm) d k
 have hup:aH Tryz.prog tree_Tree_up.f [.ptr 0 0,.agg d.cells] (gj a ca m cm) 9 2 (.fn (.func tree_Tree_up_1.f) [] [.ptr 9 0,.ptr 10 0]) ((10,.box 37 d.cells)::(9,.box 105 [.ptr 0 0])::gj a ca m cm):=Ld a ca m cm d 9 (by omega);unfold pn;rcases hh:MM.has a d with _|_
 .rw[hh] at kX
  simp only[Bool.false_eq_true,if_false] at kX ⊢;refine SW.seq (SW.g2 eh Zm hh kX hup ?_);refine SW.seq (SW.seq (SW.g2 eh Zm hh kX hup ?_));refine SW.seq (SW.g2 eh Zm hh kX hup ?_);refine SW.ai rfl (SW.seq (SW.g2 eh Zm hh kX hup ?_));refine SW.weak id (st1:=⟨[(4,.d .aL),(5,.d (.int .i64 7))],gj a ca m cm,3+(6+L.length*(1+2))⟩) (aG.same (by show 3<=3+_;omega) (by simp[aJ,List.lookup,SV.aC,SV.ok]) (dG a ca m cm (by show 3<=3+(6+L.length*(1+2));omega)) (λ x hx=> ?_)) (SW.ret ?_)
  .simp only[List.mem_cons,List.not_mem_nil,or_false] at hx
   rcases hx with rfl|rfl|rfl<;>rfl
  .exact End.mk (gj a ca m cm) (h3:=λ _ _ h=>h) (h4:=⟨rfl,rfl⟩) (h6:=dG a ca m cm (by omega)) (h7:=Nat.le_refl _)
 .rw[hh] at kX
  simp only[if_true] at kX ⊢;(repeat (first|refine SW.seq ?_|refine SW.block ?_|refine SW.g2 eh Zm hh kX hup ?_|refine SW.skip ?_|refine SW.exit ?_|refine SW.ret ?_|refine SW.ai rfl ?_|refine SW.an rfl ?_));refine SW.yY 8 31 37 2 (by rfl) ?_
  let s0:Gl 7 3:=⟨[],6,by decide,by decide⟩
  refine SW.weak (λ n=>if n=3 then 8 else if n=4 then 9 else if n=5 then 10 else if n=6 then 11 else n) (st1:=⟨[(21,.fn (.func tree_Tree_up_1.f) [] [.ptr 4 0,.ptr 5 0]),(8,.ptr 3 0)],(3,.box 31 [.gs 6 0])::(6,.arr 37 2 0 [])::(4,.box 105 [.ptr 0 0])::(5,.box 37 d.cells)::gj a ca m cm,7⟩) ⟨by show(3:Nat)<=7;decide,λ n hn=> ?_,?_,?_,?_⟩ ?_
  .show(if n=3 then 8 else if n=4 then 9 else if n=5 then 10 else if n=6 then 11 else n)=n
   rw[if_neg (by omega),if_neg (by omega),if_neg (by omega),if_neg (by omega)]
  .simp[aJ,List.lookup,SV.aC,SV.ok,SV.aN,SV.ax]
  .simp[sV,af,Ob.aC,SV.aN,SV.aC,SV.dy,SV.aW,Ob.ok,SV.ax,SV.ok,Dt.aq,Dt.ah,j5,kG,cG,bG]
  .intro x hx y hy e
   simp only[List.map_cons,List.map_nil,List.mem_cons,List.not_mem_nil,or_false] at hx hy;rcases hx with rfl|rfl|rfl|rfl|rfl|rfl|rfl<;>rcases hy with rfl|rfl|rfl|rfl|rfl|rfl|rfl<;>simp at e<;>rfl
  refine SW.sU (nk:=1+L.length*(1+2)) [8] [.ptr 3 0] rfl ⟨rfl,trivial⟩ λ ca' cb' hca hcb=> ?_
  have hy:=D9 (y:=7) (bx:=3) (B:=L.length) (by decide) s0 (by simp[s0];omega) hca hcb;have hsb:=Gk (y:=7) (b:=4) (q:=5) (k:=8) (T:=jB a ca m cm) (d:=d) (qb a ca m cm) hL s0 hy (by simp[iY,s0,Hp.ok,Ob.ok,SV.ax,SV.ok]) (by decide) (by decide) (by decide) (qS a ca m cm (by decide)) (by rfl) (by rfl) ⟨by rfl,by rfl,by rfl,by rfl,by rfl⟩ rfl;have hsubF:HSub ((4,Ob.box 105 [.ptr 0 0])::(5,.box 37 d.cells)::TF (jB a ca m cm) (iY 7 3 29 [8] [22] ca' cb' s0)) ((7,.qo 29 [8] [.ptr 3 0] [22] ca' cb' .ready none)::(3,.box 31 [.gs 6 0])::(6,.arr 37 2 0 [])::(4,.box 105 [.ptr 0 0])::(5,.box 37 d.cells)::gj a ca m cm):=by
   intro n ob hn
   match n with
   | 0|1|2|3|4|5|6|7=>simpa[TF,Tr.hp,iY,s0,af] using hn
   | n+8=>simp[TF,Tr.hp,iY,s0,af,bA] at hn
  have hsc:=(hsb.here (λ n=>decide (n<8)) (λ n hn=> ?_) (by simp[SV.ax,SV.ok]) ?_ ?_).frame hsubF
  .refine hsc.mono ?_
   rintro r F' ⟨F1,⟨rfl,xs,s',hon,hpre,hall,hoff,rfl⟩,rfl⟩;have hl:=D_ hon;have hxs:xs=L:=hall rfl;obtain⟨l,rn,hr1,hr2⟩:=s';have hl:l=L.map (·.dot):=by rw[<- hxs];simpa[s0] using hl
   obtain⟨o1,o2,o3,o4,o5⟩:=hoff;have hn4:rn≠4:=λ e=>by simp[iY,e,af] at o1
   have hn5:rn≠5:=λ e=>by simp[iY,e,af] at o2
   have hn0:rn≠0:=λ e=>by simp[iY,e,af] at o3
   have hn1:rn≠1:=λ e=>by simp[iY,e,af] at o4
   have hn2:rn≠2:=λ e=>by simp[iY,e,af] at o5
   have hll:l.length=L.length:=by rw[hl,List.length_map]
   have hlk:=iM (ro:=false) (F':=(4,Ob.box 105 [.ptr 0 0])::(5,.box 37 d.cells)::TF (jB a ca m cm) (iY 7 3 29 [8] [22] ca' cb' ⟨l,rn,hr1,hr2⟩)) hsubF (λ h=>by cases h);generalize bU false _ _ _=G at hlk;have hG:∀ n ob,lk ((4,Ob.box 105 [.ptr 0 0])::(5,.box 37 d.cells)::TF (jB a ca m cm) (iY 7 3 29 [8] [22] ca' cb' ⟨l,rn,hr1,hr2⟩)) n=some ob->lk G n=some ob:=λ n ob h=>by
    rw[hlk,fm (.inr (by rw[h];simp)),h]
   refine⟨none,hG 7 _ (by simp[TF,Tr.hp,iY,af,mQ]),?_⟩;refine SW.weak (λ n=>if n=6 then rn else n) (st1:=⟨[(8,.ptr 3 0)],(3,.box 31 [.gs 6 L.length])::(6,.arr 37 2 L.length ((l.flatMap Dt.ds).map .d))::gj a ca m cm,7+1+(1+L.length*(1+2))⟩) ?_ ?_
   .have q3:=hG 3 (.box 31 [.gs rn l.length]) (by simp[TF,Tr.hp,iY,af])
    have q6:=hG rn (.arr 37 2 l.length ((l.flatMap Dt.ds).map .d)) (by simp[TF,Tr.hp,iY,af,hn0,hn1,hn2,hn4,hn5,hr1,hr2]);have q0:=hG 0 (.box 166 [.mp 1,.mp 2]) (by simp[TF,Tr.hp,af]);have q1:=hG 1 (.map (au Dt.cells cv a) ca) (by simp[TF,Tr.hp,af]);have q2:=hG 2 (.map (au Dt.cells ov m) cm) (by simp[TF,Tr.hp,af]);rw[hll] at q3 q6;refine⟨by show 3<=7+1+(1+L.length*(1+2));omega,λ n hn=>if_neg (by omega),?_,?_,?_⟩
    .simp[aJ,List.lookup,SV.aC,SV.ok];omega
    .simp[sV,dx,Ob.aC,SV.aN,SV.aC,SV.dy,SV.aW,Ob.ok,SV.ax,SV.ok,q3,q6,q2,q0,q1,hr1,j5,kG,cG,bG];omega
    .intro x hx y hy e
     simp only[List.map_cons,List.map_nil,List.mem_cons,List.not_mem_nil,or_false] at hx hy;rcases hx with rfl|rfl|rfl|rfl|rfl<;>rcases hy with rfl|rfl|rfl|rfl|rfl<;>simp at e<;>first|rfl|omega
   .refine SW.seq ?_
    refine SW.g0 eh Zm aa ?_;refine SW.freeze 6 (l.flatMap Dt.ds) rfl rfl (SW.ret ?_);rw[<- hl];exact End.mk (gj a ca m cm) (h4:=⟨by simp[fB,SV.iJ],rfl⟩) (h5:=by simp[fB,SV.iJ,SV.ok,SV.ax]) (h6:=dG a ca m cm (by omega)) (h7:=by show 3+(6+L.length*(1+2))<=7+1+(1+L.length*(1+2));omega)
  .match n,hn with
   | 0,_|1,_|2,_|3,_|4,_|5,_|6,_|7,_=>simp[TF,Tr.hp,iY,s0,af]
   | n +8,h=>
     have:n+8<8:=by simpa using h
     omega
  .refine aA rfl (by simp[Ob.ok,SV.ax,SV.ok]) (aA rfl (by simp[Ob.ok,Dt.ah]) ?_)
   have h1:(jB a ca m cm).hp.ok (λ n=>decide (n<8))=true:=Tr.tY (qS a ca m cm (by decide));have h2:(iY 7 3 29 [8] [22] ca' cb' s0).ok (λ n=>decide (n<8))=true:=by simp[iY,s0,Hp.ok,Ob.ok,SV.ax,SV.ok,SV.aW]
   unfold Hp.ok at*;rw[TF,List.all_append,h1,h2];rfl
  .rintro r F' _ h1 h2
   refine⟨SV.fD (λ n hn=> ?_) _ h1,Hp.eA (λ n hn=> ?_) h2⟩<;>(simp at hn ⊢;omega)
theorem BY (f:Nat->Nat)(a:MM Dt Cr)(d:Dt)(L:List Cr):(pn a d L).aC f=pn a d L:=by
 unfold pn;split<;>rfl
theorem Gn {T:Tr}(hs:T.sep)(d:Dt)(L:List Cr)(hL:pg T.at_ (MM.get T.at_ d) L)(hlen:L.length<1000000)(k:Nat):aH Tryz.prog tree_Tree_Chain.f [.ptr T.bx 0,.agg d.cells] T.hp k (6+L.length*(1+2)) (pn T.at_ d L) T.hp:=by
 have h:=SB.lR [T.bx,T.ma,T.mm] (Gm T.at_ T.ca T.made T.cm d L hL hlen) (Tr.Of hs) (td _ _ _ _) k;rw[ow,BY] at h;simp only[SV.aN,SV.aC,Dt.aq] at h;exact h
end
section
attribute [local irreducible] SW RW aH SC aj ak
def Oo (s:Bool):Option Code:=if s then some .ret else none
def lW (N y b4 b6:Nat)(e:Dt)(ca cb:Code)(s:Bool):Hp:=
 [(y,.qo N [4,6] [.ptr b4 0,.ptr b6 0] [18] ca cb (mQ (Oo s)) (Oo s)),(b4,.box 37 e.cells),(b6,.box 4 [bl s])]
theorem AF {N y b4 b6:Nat}{e:Dt}{ca cb:Code}{s s':Bool}{n:Nat}(h:lk (lW N y b4 b6 e ca cb s') n≠none):lk (lW N y b4 b6 e ca cb s) n≠none:=by
  simp only[lW,af] at h ⊢
  by_cases h1:n=y
  . simp[h1]
  . by_cases h2:n=b4
    . rw[if_neg h1,if_pos h2];simp
    . by_cases h3:n=b6
      . rw[if_neg h1,if_neg h2,if_pos h3];simp
      . rw[if_neg h1,if_neg h2,if_neg h3] at h
        exact absurd rfl h
set_option maxHeartbeats 1000000 in
theorem Ea {y b4 b6 B:Nat}(h1:y≠b4)(h2:y≠b6)(h3:b4≠b6)(e:Dt){ca cb:Code}
  (hca:cK Tryz.prog 23 ca=some (.e_ [⟨some 7,.alloc 158 [.d (.int .u8 0),.d (.int .u32 0),.d (.int .u8 0),.d (.int .u32 0),.d (.int .u8 0),.d (.int .u32 0),.d (.int .u32 0),.d (.int .u8 0),.d (.int .u8 0),.d (.int .u64 0),.d (.int .i64 0)],none⟩,⟨none,.store 11 (.t 7) (.t 18),none⟩] (oD 2) false))
  (hcb:cK Tryz.prog 23 cb=some (.block 1 (.seq (.e_ [⟨some 19,.aT 0 (.t 7),none⟩,⟨some 20,.load (some 2) (.t 19),none⟩,⟨some 21,.load (some 2) (.t 4),none⟩,⟨some 22,.eqv false [true,true] (.t 20) (.t 21),none⟩] (oD 4) false)
   (.cond (.t 22) (.seq (.e_ [⟨none,.store 1 (.t 6) (.k (.d (.bool true))),none⟩] (oD 1) false) .ret) .skip)))):
  pW Tryz.prog y (λ x:Cr=> .agg x.cells) 1 (lW 23 y b4 b6 e ca cb) (λ s x s'=>s'=(s || decide (x.dot=e))) (λ s=> !s) false B:=by
 have f1:=bX h1;have f2:=bX h2;have f3:=bX h3;refine⟨λ s=>by simp[lW,af],λ s x hx=> ?_,λ s xs x k hon hlt hok xb=> ?_⟩
 .simp only[lW,List.mem_cons,List.not_mem_nil,or_false] at hx
  rcases hx with rfl|rfl|rfl<;>simp[lW,af,f1,f2,f3]
 .have hs:s=false:=by simpa using xb
  subst hs;simp only[lW,Hp.ok,List.all_cons,List.all_nil,Ob.ok,SV.ax,SV.ok,SV.aW,Dt.ah,Bool.and_true,Bool.and_eq_true,decide_eq_true_eq] at hok;obtain⟨⟨k1,_⟩,k2,k3⟩:=hok;have g1:=bX (show k≠y by omega);have g2:=bX (show k≠b4 by omega);have g3:=bX (show k≠b6 by omega);refine Fa.here (λ n=>n == y || n == b4 || n == b6) (Fa.uI (cs:=[.ptr b4 0,.ptr b6 0]) (H:=[(b4,.box 37 e.cells),(b6,.box 4 [bl false])]) hca hcb rfl rfl rfl (by simp) k1 (by simp[af,bA,f1,f2]) (by simp[SV.ax,SV.ok,Cr.ah]) (by simp[Hp.ok,Ob.ok,SV.ax,SV.ok,SV.aW,Dt.ah];omega) (by simp[SV.ax,SV.ok];omega) ?_) ?_ (by simp[SV.ax,SV.ok,Cr.ah]) (by simp[lW,Hp.ok,Ob.ok,SV.ax,SV.ok,SV.aW,Dt.ah]) ?_
  .skip
   show Go.Sl.SW _ _ _ _ ⟨[(18,.agg x.cells),(4,.ptr b4 0),(6,.ptr b6 0)],_,_⟩ _;refine SW.g0 [4,6,7,18,22] Zm (Zq f1 (Zq f2 (Zq f3 (Zq g1 (Zq g2 g3))))) ?_;refine⟨rfl,SW.block ?_⟩;refine SW.seq (SW.g0 [4,6,7,18,22] Zm (Zq f1 (Zq f2 (Zq f3 (Zq g1 (Zq g2 g3))))) ?_);rcases hd:decide (x.dot=e) with _|_
   .refine SW.an (by simp only[ev,List.lookup,Nat.reduceBEq,hd]) (SW.skip ?_)
    refine⟨none,true,[(b4,.box 37 e.cells),(b6,.box 4 [bl false])],⟨rfl,rfl⟩,HSub.cons (by simp[af,f1,f2,f3,g1,g2,g3]) (HSub.cons (by simp[af,f1,f2,f3,g1,g2,g3]) (HSub.nil _)),by simp[Hp.ok,Ob.ok,SV.ax,SV.ok,SV.aW,Dt.ah];omega,by simp,⟨false,rfl,rfl,rfl,by simp[lW,Hp.ok,Ob.ok,SV.ax,SV.ok,SV.aW,Dt.ah];omega,λ n hn=> .inl (AF hn)⟩⟩
   .refine SW.ai (by simp only[ev,List.lookup,Nat.reduceBEq,hd]) (SW.seq ?_)
    refine SW.g0 [4,6,7,18,22] Zm (Zq f1 (Zq f2 (Zq f3 (Zq g1 (Zq g2 g3))))) ?_;refine SW.ret ?_;refine⟨some .ret,false,[(b4,.box 37 e.cells),(b6,.box 4 [bl true])],⟨rfl,rfl⟩,HSub.cons (by simp[af,f1,f2,f3,g1,g2,g3]) (HSub.cons (by simp[af,f1,f2,f3,g1,g2,g3,b_]) (HSub.nil _)),by simp[Hp.ok,Ob.ok,SV.ax,SV.ok,SV.aW,Dt.ah];omega,by simp,⟨true,rfl,rfl,rfl,by simp[lW,Hp.ok,Ob.ok,SV.ax,SV.ok,SV.aW,Dt.ah];omega,λ n hn=> .inl (AF hn)⟩⟩
  .intro n hn
   simp only[Bool.or_eq_true,beq_iff_eq] at hn;rcases hn with(rfl|rfl)|rfl<;>simp[lW,af,f1,f2,f3]
  .rintro r F' ⟨s',hs',rfl,rfl,hok',hnm⟩ _ _
   refine⟨rfl,?_⟩;simp[lW,Hp.ok,Ob.ok,SV.ax,SV.ok,SV.aW,Dt.ah]
theorem Gp {e:Dt}{s0 s:Bool}{xs:List Cr}(h:lU (λ (s:Bool) (x:Cr) s'=>s'=(s || decide (x.dot=e))) s0 xs s):s=(s0 || xs.any λ x=>decide (x.dot=e)):=by
 induction h with
 | nil=>simp
 | snoc _ h ih=>rw[h,ih];simp[Bool.or_assoc]
def lM (a:MM Dt Cr)(e d:Dt)(L:List Cr):Bool:= !decide (e=d) && L.any λ x=>decide (x.dot=e)
set_option maxHeartbeats 4000000 in
theorem Gq (a:MM Dt Cr)(ca:Nat)(m:MM Dt ag)(cm:Nat)(e d:Dt)(L:List Cr)(hL:pg a (MM.get a d) L)(hlen:L.length<1000000):
  SB Tryz.prog tree_Tree_Above.f [.ptr 0 0,.agg e.cells,.agg d.cells] (gj a ca m cm) 3 (6+L.length*(1+1)) (λ r F'=>r=bl (lM a e d L)/\F'=gj a ca m cm):=by
 refine tree_Tree_Above.enter (by simp[SV.ax,SV.ok]) (dG a ca m cm (Nat.le_refl 3)) (by simp) ?_;dsimp only[tree_Tree_Above.s,Co.M,Co.J,Co.H,Co.N,Co.F,Co.B,Co.b8,Co.aB,Co.bE,Co.i6,Co.K,Co.P,Co.Q,Co.x,Co.W,Co.D,Co.S];have hup:aH Tryz.prog tree_Tree_up.f [.ptr 0 0,.agg d.cells] (gj a ca m cm) 6 2 (.fn (.func tree_Tree_up_1.f) [] [.ptr 6 0,.ptr 7 0]) ((7,.box 37 d.cells)::(6,.box 105 [.ptr 0 0])::gj a ca m cm):=Ld a ca m cm d 6 (by omega);have hnone:∀ k,3<=k->aH Tryz.prog tree_Tree_none.f [.ptr 0 0] (gj a ca m cm) k 0 (.d (.bool false)) (gj a ca m cm):=λ k hk=>lK a ca m cm hk
 unfold lM;rcases hd:decide (e=d) with _|_
 .refine SW.seq ?_
  (refine SW.di dC Zm ?_;(repeat (first|refine RW.ro hd (h:=?_)|refine RW.skip (h:=?_)|refine RW.op hd (h:=?_)|refine RW.dV hd (h:=?_)|refine RW.br (h:=?_)|(refine RW.bC (h:=?_);(first|refine aj.mk (hd) (hc:=hnone _ (by omega)) (h:=?_)|refine aj.mk (hd) (hc:=hup) (h:=?_)))));refine RW.nil ⟨by kernel_rfl,ak.mk (h:=?_)⟩)
  refine SW.seq (SW.seq ?_)
  (refine SW.di dC Zm ?_;(repeat (first|refine RW.ro hd (h:=?_)|refine RW.skip (h:=?_)|refine RW.op hd (h:=?_)|refine RW.dV hd (h:=?_)|refine RW.br (h:=?_)|(refine RW.bC (h:=?_);(first|refine aj.mk (hd) (hc:=hnone _ (by omega)) (h:=?_)|refine aj.mk (hd) (hc:=hup) (h:=?_)))));refine RW.nil ⟨by kernel_rfl,ak.mk (h:=?_)⟩)
  refine SW.an rfl (SW.skip (SW.seq (SW.seq ?_)))
  (refine SW.di dC Zm ?_;(repeat (first|refine RW.ro hd (h:=?_)|refine RW.skip (h:=?_)|refine RW.op hd (h:=?_)|refine RW.dV hd (h:=?_)|refine RW.br (h:=?_)|(refine RW.bC (h:=?_);(first|refine aj.mk (hd) (hc:=hnone _ (by omega)) (h:=?_)|refine aj.mk (hd) (hc:=hup) (h:=?_)))));refine RW.nil ⟨by kernel_rfl,ak.mk (h:=?_)⟩)
  refine SW.block (SW.weak (λ n=>if n=4 then 5 else if n=5 then 6 else if n=6 then 7 else n) (st1:=⟨[(17,.fn (.func tree_Tree_up_1.f) [] [.ptr 5 0,.ptr 6 0]),(6,.ptr 4 0),(4,.ptr 3 0)],(3,.box 37 e.cells)::(4,.box 4 [bl false])::(5,.box 105 [.ptr 0 0])::(6,.box 37 d.cells)::gj a ca m cm,7⟩) ⟨by show(3:Nat)<=7;decide,λ n hn=> ?_,?_,?_,?_⟩ ?_)
  .show(if n=4 then 5 else if n=5 then 6 else if n=6 then 7 else n)=n
   rw[if_neg (by omega),if_neg (by omega),if_neg (by omega)]
  .simp[aJ,List.lookup,SV.aC,SV.ok,SV.aN,SV.ax]
  .simp[sV,af,Ob.aC,SV.aN,SV.aC,SV.dy,SV.aW,Ob.ok,SV.ax,SV.ok,Dt.aq,Dt.ah,j5,kG,cG,bG]
  .intro x hx y hy h
   simp only[List.map_cons,List.map_nil,List.mem_cons,List.not_mem_nil,or_false] at hx hy;rcases hx with rfl|rfl|rfl|rfl|rfl|rfl|rfl<;>rcases hy with rfl|rfl|rfl|rfl|rfl|rfl|rfl<;>simp at h<;>rfl
  refine SW.sU (nk:=1+L.length*(1+1)) [4,6] [.ptr 3 0,.ptr 4 0] rfl ⟨rfl,rfl,trivial⟩ λ ca' cb' hca hcb=> ?_
  have hy:=Ea (y:=7) (b4:=3) (b6:=4) (B:=L.length) (by decide) (by decide) (by decide) e hca hcb;have hsb:=Gk (y:=7) (b:=5) (q:=6) (k:=8) (T:=jB a ca m cm) (d:=d) (qb a ca m cm) hL false hy (by simp[lW,Hp.ok,Ob.ok,SV.ax,SV.ok,Dt.ah]) (by decide) (by decide) (by decide) (qS a ca m cm (by decide)) (by rfl) (by rfl) ⟨by rfl,by rfl,by rfl,by rfl,by rfl⟩ rfl;have hsubF:HSub ((5,Ob.box 105 [.ptr 0 0])::(6,.box 37 d.cells)::TF (jB a ca m cm) (lW 23 7 3 4 e ca' cb' false)) ((7,.qo 23 [4,6] [.ptr 3 0,.ptr 4 0] [18] ca' cb' .ready none)::(3,.box 37 e.cells)::(4,.box 4 [bl false])::(5,.box 105 [.ptr 0 0])::(6,.box 37 d.cells)::gj a ca m cm):=by
   intro n ob hn
   match n with
   | 0|1|2|3|4|5|6|7=>exact hn
   | n+8=>cases hn
  have hsc:=(hsb.here (λ n=>decide (n<8)) (λ n hn=> ?_) (by simp[SV.ax,SV.ok]) ?_ ?_).frame hsubF
  .refine hsc.mono ?_
   intro r F' h;obtain⟨F1,h1,hF'⟩:=h;obtain⟨hr,xs,s',hon,hpre,hall,hoff,hF1⟩:=h1;subst hF1;have hs:=Gp hon;have hsL:s'=L.any λ x=>decide (x.dot=e):=by
    rw[hs,Bool.false_or];cases hs':s' with
    | false=>rw[hall (by rw[hs'];rfl)]
    | true=>
     rw[hs',Bool.false_or] at hs;rw[<- hs];obtain⟨t,rfl⟩:=hpre;rw[List.any_append,<- hs];rfl
   have hlk:=iM (ro:=false) (F':=(5,Ob.box 105 [.ptr 0 0])::(6,.box 37 d.cells)::TF (jB a ca m cm) (lW 23 7 3 4 e ca' cb' s')) hsubF (λ h=>by cases h);rw[<- hF'] at hlk;clear hF';have hG:∀ n ob,lk ((5,Ob.box 105 [.ptr 0 0])::(6,.box 37 d.cells)::TF (jB a ca m cm) (lW 23 7 3 4 e ca' cb' s')) n=some ob->lk F' n=some ob:=λ n ob h=>by
    rw[hlk,fm (.inr (by rw[h];simp)),h]
   have q4:=hG 4 (.box 4 [bl s']) (by simp[TF,Tr.hp,lW,af]);have q0:=hG 0 (.box 166 [.mp 1,.mp 2]) (by simp[TF,Tr.hp,af]);have q1:=hG 1 (.map (au Dt.cells cv a) ca) (by simp[TF,Tr.hp,af]);have q2:=hG 2 (.map (au Dt.cells ov m) cm) (by simp[TF,Tr.hp,af]);refine⟨Oo s',hG 7 _ (by simp[TF,Tr.hp,lW,af]),?_⟩;rw[<- hsL];have hsub:HSub ((4,.box 4 [bl s'])::gj a ca m cm) (c_ F' 7):=by
    intro n ob hn;rw[dx]
    match n,hn with
    | 0,hn=>rw[if_neg (by decide),q0];exact hn
    | 1,hn=>rw[if_neg (by decide),q1];exact hn
    | 2,hn=>rw[if_neg (by decide),q2];exact hn
    | 3,hn=>cases hn
    | 4,hn=>rw[if_neg (by decide),q4];exact hn
    | n+5,hn=>cases hn
   cases s' with
   | true=>
    rw[show Oo true=some .ret from rfl];simp only[RQ];have q4':=hsub 4 _ rfl;exact End.mk (ss:=[bl true]) (ob:=zJ [bl true] 0 none/\True) (gj a ca m cm) (h1:=by simp only[tree_Tree_Above.rv,Fb,List.lookup,Nat.reduceBEq,gC,q4'];rfl) (h2:=by simp[zJ]) (h3:=λ n ob h=>hsub n ob (by rw[af,if_neg (λ e=>by subst e;cases h)];exact h)) (h4:=⟨rfl,rfl⟩) (h5:=by simp[fB,SV.ok]) (h6:=dG a ca m cm (by omega)) (h7:=by show 3+(6+L.length*(1+1))<=7+1+(1+L.length*(1+1));omega)
   | false=>
    rw[show Oo false=none from rfl];simp only[RQ];refine SW.weak id (st1:=⟨[(6,.ptr 4 0)],(4,.box 4 [bl false])::gj a ca m cm,8+(1+L.length*(1+1))⟩) (aG.same (by show 3<=8+(1+L.length*(1+1));omega) (by simp[aJ,List.lookup,SV.aC,SV.ok];omega) (aA (by simp;omega) (by simp[Ob.ok,SV.ax,SV.ok]) (dG a ca m cm (by show 3<=8+(1+L.length*(1+1));omega))) (λ x hx=> ?_)) ?_
    .refine hsub _ _ ?_
     simp only[List.mem_cons,List.not_mem_nil,or_false] at hx;rcases hx with rfl|rfl|rfl|rfl<;>rfl
    .refine SW.seq ?_
     refine SW.g0 dC Zm aa ?_;refine SW.ret ?_;exact End.mk (gj a ca m cm) (h3:=HSub.cons rfl (HSub.cons rfl (HSub.cons rfl (HSub.nil _)))) (h4:=⟨rfl,rfl⟩) (h6:=dG a ca m cm (by omega)) (h7:=by show 3+(6+L.length*(1+1))<=8+(1+L.length*2);omega)
  .match n,hn with
   | 0,_|1,_|2,_|3,_|4,_|5,_|6,_|7,_=>simp[TF,Tr.hp,lW,af]
   | n +8,h=>
     have:n+8<8:=by simpa using h
     omega
  .refine aA rfl (by simp[Ob.ok,SV.ax,SV.ok]) (aA rfl (by simp[Ob.ok,Dt.ah]) ?_)
   have h1:(jB a ca m cm).hp.ok (λ n=>decide (n<8))=true:=Tr.tY (qS a ca m cm (by decide));have h2:(lW 23 7 3 4 e ca' cb' false).ok (λ n=>decide (n<8))=true:=by simp[lW,Hp.ok,Ob.ok,SV.ax,SV.ok,SV.aW,Dt.ah]
   unfold Hp.ok at*;rw[TF,List.all_append,h1,h2];rfl
  .rintro r F' _ h1 h2
   refine⟨SV.fD (λ n hn=> ?_) _ h1,Hp.eA (λ n hn=> ?_) h2⟩<;>(simp at hn ⊢;omega)
 .obtain rfl:e=d:=by simpa using hd
  refine SW.seq ?_
  (refine SW.di dC Zm ?_;(repeat (first|refine RW.ro aa (h:=?_)|refine RW.skip (h:=?_)|refine RW.op aa (h:=?_)|refine RW.dV aa (h:=?_)|refine RW.br (h:=?_)|(refine RW.bC (h:=?_);(first|refine aj.mk aa (hc:=hnone _ (by omega)) (h:=?_)))));refine RW.nil ⟨by kernel_rfl,ak.mk (h:=?_)⟩)
  refine SW.seq (SW.seq ?_)
  (refine SW.di dC Zm ?_;(repeat (first|refine RW.ro aa (h:=?_)|refine RW.skip (h:=?_)|refine RW.op aa (h:=?_)|refine RW.dV aa (h:=?_)|refine RW.br (h:=?_)|(refine RW.bC (h:=?_);(first|refine aj.mk aa (hc:=hnone _ (by omega)) (h:=?_)))));refine RW.nil ⟨by kernel_rfl,ak.mk (h:=?_)⟩)
  refine SW.ai rfl (SW.seq ?_)
  (refine SW.di dC Zm ?_;(repeat (first|refine RW.ro aa (h:=?_)|refine RW.skip (h:=?_)|refine RW.op aa (h:=?_)|refine RW.dV aa (h:=?_)|refine RW.br (h:=?_)|(refine RW.bC (h:=?_);(first|refine aj.mk aa (hc:=hnone _ (by omega)) (h:=?_)))));refine RW.nil ⟨by kernel_rfl,ak.mk (h:=?_)⟩)
  refine SW.weak id (st1:=⟨[(6,.ptr 5 0)],(5,.box 4 [bl false])::gj a ca m cm,3+(6+L.length*(1+1))⟩) (aG.same (by show 3<=3+(6+L.length*(1+1));omega) (by simp[aJ,List.lookup,SV.aC,SV.ok];omega) (aA (by simp;omega) (by simp[Ob.ok,SV.ax,SV.ok]) (dG a ca m cm (by show 3<=3+(6+L.length*(1+1));omega))) (λ x hx=> ?_)) (SW.ret ?_)
  .simp only[List.mem_cons,List.not_mem_nil,or_false] at hx
   rcases hx with rfl|rfl|rfl|rfl<;>rfl
  .exact End.mk (gj a ca m cm) (h3:=HSub.cons rfl (HSub.cons rfl (HSub.cons rfl (HSub.nil _)))) (h4:=⟨by simp only[Bool.not_true,Bool.false_and];rfl,rfl⟩) (h6:=dG a ca m cm (by omega)) (h7:=Nat.le_refl _)
theorem Gr {T:Tr}(hs:T.sep)(e d:Dt)(L:List Cr)(hL:pg T.at_ (MM.get T.at_ d) L)(hlen:L.length<1000000)(k:Nat):aH Tryz.prog tree_Tree_Above.f [.ptr T.bx 0,.agg e.cells,.agg d.cells] T.hp k (6+L.length*(1+1)) (bl (lM T.at_ e d L)) T.hp:=by
 have h:=SB.lR [T.bx,T.ma,T.mm] (Gq T.at_ T.ca T.made T.cm e d L hL hlen) (Tr.Of hs) (td _ _ _ _) k;rw[ow] at h;simp only[SV.aN,SV.aC,Dt.aq] at h;exact h
end
section
def Oq (a:MM Dt Cr):Prop:=∀ d c p,MM.get a d=some c->0<c.level->MM.get a c.par=some p->p.level<c.level
end
end Go.Proofs.YtaelhkkjgfobhaaGreat
namespace Go.Proofs.YtaelhkkjgfobhaaGreat
open Go.Sl Go.Proofs
section
theorem AG (r i:Nat):hasB r (2 ^ i)=r.testBit i:=by
 unfold hasB;rw[Nat.testBit_eq_decide_div_mod_eq]
theorem rW (r o:Nat):∀ n,lJ r o n=true↔∀ i,i<n->r.testBit i=true->o.testBit i=true
 | 0=>by simp[lJ]
 | n + 1=>by
  simp only[lJ,Bool.and_eq_true,rW r o n,AG,Bool.or_eq_true,Bool.not_eq_true'];constructor
  .rintro⟨h1,h2⟩ i hi hr
   by_cases e:i=n
   .subst e
    rcases h2 with h2|h2
    .rw[h2] at hr;cases hr
    .exact h2
   .exact h1 i (by omega) hr
  .intro h
   refine⟨λ i hi=>h i (by omega),?_⟩;cases hr:r.testBit n with
   | false=>exact .inl rfl
   | true=>exact .inr (h n (by omega) hr)
theorem Df (v:BitVec 8):IntKind.u8.wrap ((v.toNat:Nat):Int)=v.toNat:=wrap_u8 _ v.isLt
theorem Eb (r o:Nat):bits .andNot .u8 (r:Int) (o:Int)=((BitVec.ofNat 8 r &&& ~~~BitVec.ofNat 8 o).toNat:Int):=by
 show IntKind.u8.wrap (((BitVec.ofInt 8 (r:Int) &&& ~~~BitVec.ofInt 8 (o:Int)).toNat:Nat):Int)=_;rw[Df,BitVec.ofInt_natCast,BitVec.ofInt_natCast]
theorem and_eq (r o:Nat):bits .and .u8 (r:Int) (o:Int)=((BitVec.ofNat 8 r &&& BitVec.ofNat 8 o).toNat:Int):=by
 show IntKind.u8.wrap (((BitVec.ofInt 8 (r:Int) &&& BitVec.ofInt 8 (o:Int)).toNat:Nat):Int)=_;rw[Df,BitVec.ofInt_natCast,BitVec.ofInt_natCast]
theorem AH (r o:Nat):bits .andNot .u8 (r:Int) (o:Int)=0↔∀ i,i<8->r.testBit i=true->o.testBit i=true:=by
 rw[Eb];constructor
 .intro h i hi hr
  have h0:BitVec.ofNat 8 r &&& ~~~BitVec.ofNat 8 o=0#8:=BitVec.eq_of_toNat_eq (by simpa using h);have h1:(BitVec.ofNat 8 r &&& ~~~BitVec.ofNat 8 o).getLsbD i=false:=by rw[h0];simp
  rw[BitVec.getLsbD_and,BitVec.getLsbD_not,BitVec.getLsbD_ofNat,BitVec.getLsbD_ofNat] at h1
  simpa[hi,hr] using h1
 .intro h
  have h0:BitVec.ofNat 8 r &&& ~~~BitVec.ofNat 8 o=0#8:=by
   apply BitVec.eq_of_getLsbD_eq;intro i hi;rw[BitVec.getLsbD_and,BitVec.getLsbD_not,BitVec.getLsbD_ofNat,BitVec.getLsbD_ofNat];have:=h i hi;cases hr:r.testBit i with
   | false=>simp
   | true=>simp[hi,this hr]
  rw[h0];rfl
theorem Gs (r:Nat):(bits .and .u8 (r:Int) 1 == 0)= !hasB r 1:=by
 have h:=and_eq r 1;have e:hasB r 1=r.testBit 0:=AG r 0;rw[show((1:Nat):Int)=1 from rfl] at h;rw[h,e,BitVec.toNat_and,BitVec.toNat_ofNat,BitVec.toNat_ofNat];rw[show(1 % 2 ^ 8:Nat)=1 from rfl,Nat.and_one_is_mod,Nat.testBit_zero,Bool.eq_iff_iff];simp only[beq_iff_eq,Bool.not_eq_true',decide_eq_false_iff_not];omega
theorem t_ (o:ag)(c:Cr):iy o c=l9 o c:=by
 unfold iy l9 y8;have h:(bits .andNot .u8 (o.bn:Int) (c.bn:Int) != 0)= !lJ o.bn c.bn 8:=by
  rw[Bool.eq_iff_iff,bne_iff_ne,Bool.not_eq_true',ne_eq,AH,<- rW,Bool.not_eq_true]
 rw[h]
 congr 3
 cases lJ o.bn c.bn 8<;>by_cases e:o.bn=0<;>simp[e]
theorem vU (x:ag)(l:List ag)(d:Dt):a_ (x::l) d=if x.dot=d then some x else a_ l d:=by
 unfold a_;rw[List.find?_cons]
 by_cases h:x.dot=d<;>simp[h]
theorem fK {l:List ag}{d:Dt}{o:ag}(h:a_ l d=some o):o.dot=d:=by
 have:=List.find?_some h
 simpa using this
theorem tg {l:List ag}{d:Dt}{o:ag}(h:a_ l d=some o):o∈l:=List.mem_of_find?_eq_some h
theorem On.rX (s:On)(x:ag)(d:Dt):(On.step s x).1.cnt d=if d=x.dot then s.cnt x.dot+1 else s.cnt d:=by
 show(MM.get (MM.put s.L s.c x.dot (s.cnt x.dot+1)) d).getD 0=_;rw[MM.dP]
 by_cases h:d=x.dot
 .rw[if_pos h,if_pos h];rfl
 .rw[if_neg h,if_neg h];rfl
theorem th:∀ (l:List ag) (s:On),(∀ d,0<=s.cnt d)->(∀ o,o∈(bK On.step s l).1↔s.cnt o.dot=0/\a_ l o.dot=some o/\o.kind<=1)/\((bK On.step s l).1.map (·.dot)).Nodup
 | [],s,h=>⟨λ o=>by simp[bK,a_],by simp[bK]⟩
 | x :: l, s,h=>by
  have hs:∀ d,0<=(On.step s x).1.cnt d:=λ d=>by
   rw[On.rX];have:=h x.dot;have:=h d;split<;>omega
  obtain⟨ih1,ih2⟩:=th l (On.step s x).1 hs;have hb:(On.step s x).2=(decide (s.cnt x.dot+1>1) || decide (x.kind>1)):=rfl;have hx:=h x.dot;simp only[bK]
  by_cases e:(On.step s x).2=true
  .rw[if_pos e]
   refine⟨λ o=> ?_,ih2⟩;rw[ih1 o,On.rX,vU];rw[hb] at e;simp only[Bool.or_eq_true,decide_eq_true_eq] at e
   by_cases ed:x.dot=o.dot
   .rw[if_pos ed.symm,if_pos ed]
    constructor
    .rintro⟨h1,_⟩;omega
    .rintro⟨h1,h2,h3⟩
     injection h2 with h2;subst h2;omega
   .rw[if_neg (Ne.symm ed),if_neg ed]
  .rw[if_neg e]
   rw[hb] at e;simp only[Bool.or_eq_true,decide_eq_true_eq,not_or,Int.not_lt,Nat.not_lt,gt_iff_lt] at e;refine⟨λ o=> ?_,?_⟩
   .rw[List.mem_cons,ih1 o,On.rX,vU]
    by_cases ed:x.dot=o.dot
    .rw[if_pos ed.symm,if_pos ed]
     constructor
     .rintro(rfl|⟨h1,_⟩)
      .exact⟨by omega,rfl,by omega⟩
      .omega
     .rintro⟨h1,h2,h3⟩
      injection h2 with h2;exact .inl h2.symm
    .rw[if_neg (Ne.symm ed),if_neg ed]
     constructor
     .rintro(rfl|h1)
      .exact absurd rfl ed
      .exact h1
     .exact .inr
   .rw[List.map_cons,List.nodup_cons]
    refine⟨λ hm=> ?_,ih2⟩;obtain⟨o,ho,hod⟩:=List.mem_map.1 hm;have:=((ih1 o).1 ho).1;rw[On.rX,if_pos hod] at this;omega
theorem vV (l:List ag)(o:ag):o∈firsts l↔a_ l o.dot=some o/\o.kind<=1:=by
 have h:=(th l ⟨[],0⟩ (λ d=>Int.le_refl 0)).1 o;rw[firsts,h];exact⟨λ ⟨_,h⟩=>h,λ h=>⟨rfl,h⟩⟩
theorem Ec (l:List ag):((firsts l).map (·.dot)).Nodup:=(th l ⟨[],0⟩ (λ d=>Int.le_refl 0)).2
structure By (o:ag)(p:Cr)(q:ag)(c:Cr):Prop where
 kind:o.kind=1
 aK:p.aK=o.aK
 uL:q.before o=true
 hold:p.hold=o.who
 own:hasB p.bn 1=true
 QB:l9 o p=false
 is:c=⟨o.dot,o.aK,o.aP,o.to,o.bn,o.depth,o.cap,p.level+1⟩
structure JA (l:List ag)(a:MM Dt Cr)(d:Dt)(o:ag)(c:Cr):Prop where
 fd:a_ l d=some o
 lv:0<=c.level/\c.level+(c.depth:Int)<=8
 how:(o.kind=0/\o.aK=d/\c=vT o)\/∃ p q,MM.get a o.aP=some p/\a_ l o.aP=some q/\By o p q c
theorem JA.dot {l:List ag}{a:MM Dt Cr}{d:Dt}{o:ag}{c:Cr}(h:JA l a d o c):c.dot=d:=by
 have hd:=fK h.fd;rcases h.how with⟨_,_,e⟩|⟨p,q,_,_,hb⟩
 .rw[e];exact hd
 .rw[hb.is];exact hd
structure xg (l:List ag)(T:Tr)(W:List ag):Prop where
 cr:∀ d c,MM.get T.at_ d=some c->∃ o,MM.get T.made d=some o/\JA l T.at_ d o c
 w1:∀ o,o∈W->a_ l o.dot=some o/\o.kind<=1/\MM.get T.at_ o.dot=none
 w2:(W.map (·.dot)).Nodup
 all:∀ d o,a_ l d=some o->o.kind<=1->o∈W\/∃ c,MM.get T.at_ d=some c
theorem xh {o:ag}{c:Cr}(h:l9 o c=false):o.depth<c.depth/\o.cap<=c.cap/\o.to≠0/\y8 o.bn c.bn=true:=by
 unfold l9 at h;simp only[Bool.or_eq_false_iff,Bool.not_eq_false',beq_eq_false_iff_ne,decide_eq_false_iff_not] at h;obtain⟨⟨⟨h1,h2⟩,h3⟩,h4⟩:=h;exact⟨by omega,by omega,by omega,h1⟩
theorem Gt {T:Tr}{o:ag}(h:T.why o=0):o.kind=1/\T.gZ o=false/\(T.by o).hold=o.who/\hasB (T.by o).bn 1=true/\l9 o (T.by o)=false:=by
 unfold Tr.why at h;rw[Gs,t_] at h
 by_cases h1:o.kind=1
 .rw[if_neg (by omega)] at h
  by_cases h2:T.gZ o=true
  .rw[if_pos h2] at h;omega
  .rw[if_neg h2] at h
   by_cases h3:(T.by o).hold=o.who
   .rw[if_neg (by omega)] at h
    by_cases h4:(!hasB (T.by o).bn 1)=true
    .rw[if_pos h4] at h;omega
    .rw[if_neg h4] at h
     by_cases h5:l9 o (T.by o)=true
     .rw[if_pos h5] at h;omega
     .exact⟨h1,by simpa using h2,h3,by simpa using h4,by simpa using h5⟩
   .rw[if_pos h3] at h;omega
 .rw[if_pos h1] at h;omega
theorem xg.put {l:List ag}{T:Tr}{K W:List ag}{o:ag}(h:xg l T (K++o::W))(hr:T.bT o=false):xg l (T.put o).1 (K++W):=by
  obtain⟨cr,w1,w2,all⟩:=h;obtain⟨o1,o2,o3⟩:=w1 o (by simp);have ep:(T.put o).1={ T with at_:=MM.put T.at_ T.ca o.dot (T.o_ o),ca:=MM.jy T.at_ T.ca o.dot,made:=MM.put T.made T.cm o.dot o,cm:=MM.jy T.made T.cm o.dot}:=by
    unfold Tr.put;rw[if_neg (by rw[hr];decide)]
  have ga:∀ d,MM.get (T.put o).1.at_ d=if d=o.dot then some (T.o_ o) else MM.get T.at_ d:=λ d=>by
    rw[ep];exact MM.dP
  have gm:∀ d,MM.get (T.put o).1.made d=if d=o.dot then some o else MM.get T.made d:=λ d=>by
    rw[ep];exact MM.dP
  have up:∀ d c,MM.get T.at_ d=some c->MM.get (T.put o).1.at_ d=some c:=λ d c hc=>by
    rw[ga,if_neg (λ e=>by rw[e,o3] at hc;cases hc)];exact hc
  have w2':(K++o::W).map (·.dot)=K.map (·.dot)++o.dot::W.map (·.dot):=by simp
  rw[w2',List.nodup_append,List.nodup_cons] at w2;obtain⟨n1,⟨n2,n3⟩,n4⟩:=w2;have hne:∀ x,x∈K++W->x.dot≠o.dot:=λ x hx e=>by
    rcases List.mem_append.1 hx with hx|hx
    . exact n4 _ (List.mem_map.2 ⟨x,hx,rfl⟩) _ (List.mem_cons_self ..) e
    . exact n2 (List.mem_map.2 ⟨x,hx,e⟩)
  refine⟨λ d c hc=> ?_,λ x hx=> ?_,?_,λ d x hd hk=> ?_⟩
  . rw[ga] at hc
    by_cases e:d=o.dot
    . rw[if_pos e] at hc
      injection hc with hc;refine⟨o,by rw[gm,if_pos e],?_⟩;subst e;unfold Tr.bT at hr;simp only[Bool.or_eq_false_iff,Bool.and_eq_false_iff,decide_eq_false_iff_not,Bool.not_eq_false',decide_eq_true_eq] at hr
      by_cases hk:o.kind=1
      . have hw:T.why o=0:=by rcases hr.2 with h|h;exact absurd hk h;exact Decidable.not_not.1 h
        obtain⟨_,h2,h3,h4,h5⟩:=Gt hw;unfold Tr.gZ at h2;simp only[Bool.or_eq_false_iff,Bool.not_eq_false',decide_eq_true_eq] at h2;obtain⟨⟨h6,h7⟩,h8⟩:=h2;obtain⟨p,hp⟩:=Option.isSome_iff_exists.1 (show(MM.get T.at_ o.aP).isSome=true from h6);have eb:T.by o=p:=by unfold Tr.by;rw[hp];rfl
        obtain⟨q,hq,hqc⟩:=cr _ _ hp;have em:T.vS o=q:=by unfold Tr.vS;rw[hq];rfl
        rw[eb] at h3 h4 h5 h7;rw[em] at h8;obtain⟨l1,l2⟩:=hqc.lv;obtain⟨n1,_⟩:=xh h5;have ec:c=⟨o.dot,o.aK,o.aP,o.to,o.bn,o.depth,o.cap,p.level+1⟩:=by
          rw[<- hc];unfold Tr.o_ BW;rw[if_pos hk,eb,yP _ (by omega) (by omega)]
        refine⟨o1,?_,.inr ⟨p,q,up _ _ hp,hqc.fd,⟨hk,h7,h8,h3,h4,h5,ec⟩⟩⟩;rw[ec];exact⟨by show 0<=p.level+1;omega,by show p.level+1+(o.depth:Int)<=8;omega⟩
      . have nI:o.kind=0:=by omega
        have ec:o.aK=o.dot:=by rcases hr.1 with h|h;exact absurd nI h;exact h
        have ecr:c=vT o:=by rw[<- hc];unfold Tr.o_;rw[if_neg hk]
        refine⟨o1,?_,.inl ⟨nI,ec,ecr⟩⟩;rw[ecr];exact⟨by show(0:Int)<=0;omega,by show(0:Int)+((8:Nat):Int)<=8;omega⟩
    . rw[if_neg e] at hc
      obtain⟨x,hx,hxc⟩:=cr d c hc;refine⟨x,by rw[gm,if_neg e];exact hx,hxc.fd,hxc.lv,?_⟩;rcases hxc.how with h|⟨p,q,h1,h2,h3⟩
      . exact .inl h
      . exact .inr ⟨p,q,up _ _ h1,h2,h3⟩
  . obtain ⟨a1,a2,a3⟩:=w1 x (by
      rcases List.mem_append.1 hx with h|h
      . exact List.mem_append_left _ h
      . exact List.mem_append_right _ (List.mem_cons_of_mem _ h))
    exact⟨a1,a2,by rw[ga,if_neg (hne x hx)];exact a3⟩
  . rw[List.map_append,List.nodup_append]
    exact⟨n1,n3,λ a ha b hb=>n4 a ha b (List.mem_cons_of_mem _ hb)⟩
  . rcases all d x hd hk with h|⟨c,hc⟩
    . by_cases e:x.dot=o.dot
      . refine .inr ⟨T.o_ o,?_⟩
        rw[ga,if_pos (by rw[<- fK hd];exact e)]
      . rcases List.mem_append.1 h with h|h
        . exact .inl (List.mem_append_left _ h)
        . rcases List.mem_cons.1 h with h|h
          . rw[h] at e;exact absurd rfl e
          . exact .inl (List.mem_append_right _ h)
    . exact .inr ⟨c,up _ _ hc⟩
theorem AI (s:TS)(o:ag):(mI.step s o).2= !s.T.bT o/\(s.T.bT o=true->(mI.step s o).1.T=s.T):=by
 show(s.T.put o).2=_/\(_->(s.T.put o).1=s.T);unfold Tr.put;cases h:s.T.bT o with
 | true=>exact⟨rfl,λ _=>rfl⟩
 | false=>exact⟨rfl,λ h=>by cases h⟩
theorem xg.keep {l:List ag}:∀ (W K:List ag) (s:TS),xg l s.T (K++W)->xg l (bK mI.step s W).2.T (K++(bK mI.step s W).1)
 | [],K,s,h=>h
 | x ::W,K,s,h=>by
  obtain⟨p1,p2⟩:=AI s x;simp only[bK];cases hr:s.T.bT x with
  | false=>
   rw[p1,hr,if_pos (by rfl)];exact xg.keep W K _ (h.put hr)
  | true=>
   rw[p1,hr,if_neg (by decide)];have:=xg.keep W (K++[x]) (mI.step s x).1 (by rw[p2 hr,List.append_assoc];exact h);rw[List.append_assoc] at this;exact this
theorem AJ:∀ (W:List ag) (s:TS),¬ (bK mI.step s W).1.length<W.length->(bK mI.step s W).1=W/\(bK mI.step s W).2.T=s.T/\∀ o,o∈W->s.T.bT o=true
 | [],s,_=>⟨rfl,rfl,λ o h=>by cases h⟩
 | x ::W,s,h=>by
  obtain⟨p1,p2⟩:=AI s x;have hl:=qa mI.step W (mI.step s x).1;simp only[bK] at h ⊢;cases hr:s.T.bT x with
  | false=>
   rw[p1,hr,if_pos (by rfl)] at h;exact absurd (by simp;omega) h
  | true=>
   rw[p1,hr,if_neg (by decide)] at h ⊢;obtain⟨a1,a2,a3⟩:=AJ W (mI.step s x).1 (by simpa using h);rw[p2 hr] at a2 a3;exact⟨by rw[a1],a2,λ o ho=>by
    rcases List.mem_cons.1 ho with rfl|ho
    .exact hr
    .exact a3 o ho⟩
structure lX (l:List ag)(T:Tr):Prop where
 cr:∀ d c,MM.get T.at_ d=some c->∃ o,MM.get T.made d=some o/\JA l T.at_ d o c
 no:∀ d o,a_ l d=some o->o.kind<=1->T.bT o=true\/∃ c,MM.get T.at_ d=some c
theorem Dg {l:List ag}:∀ (f:Nat) (s:TS) (W:List ag),W.length<f->xg l s.T W->lX l (grow f s W).T
 | 0,s,W,hf,h=>by omega
 | f +1,s,W,hf,h=>by
  simp only[grow]
  split
  .rename_i hlt
   exact Dg f _ _ (by omega) (xg.keep W [] s h)
  .rename_i hlt
   obtain⟨a1,a2,a3⟩:=AJ W s hlt;rw[a2];refine⟨h.cr,λ d o hd hk=> ?_⟩;rcases h.all d o hd hk with h'|h'
   .exact .inl (a3 o h')
   .exact .inr h'
theorem eW (l:List ag):lX l (bg l):=by
 refine Dg _ _ _ (Nat.lt_succ_self _) ⟨λ d c h=>(by cases h),λ o ho=> ?_,Ec l,λ d o hd hk=> .inl ((vV l o).2 ⟨by rw[fK hd];exact hd,hk⟩)⟩;obtain⟨h1,h2⟩:=(vV l o).1 ho;exact⟨h1,h2,rfl⟩
theorem BZ (l:List ag)(k:Nat):lX l (jO l k):=⟨(eW l).cr,(eW l).no⟩
theorem lX.Qc {l:List ag}{T:Tr}(h:lX l T):Oq T.at_:=λ d c p hc hl hp=>by
 obtain⟨o,_,ho⟩:=h.cr d c hc;rcases ho.how with⟨_,_,e⟩|⟨p',q,h1,_,hb⟩
 .rw[e] at hl;exact absurd hl (by show ¬ (0:Int)<0;omega)
 .have ec:c.par=o.aP:=by rw[hb.is]
  rw[ec,h1] at hp;injection hp with hp;subst hp;rw[hb.is];show p'.level<p'.level+1;omega
theorem lX.level {l:List ag}{T:Tr}(h:lX l T){d:Dt}{c:Cr}(hc:MM.get T.at_ d=some c):0<=c.level/\c.level<=8:=by
 obtain⟨o,_,ho⟩:=h.cr d c hc;have:=ho.lv;omega
theorem lX.Le {l:List ag}{T:Tr}(h:lX l T){p:Cr}{o:ag}(hp:MM.get T.at_ o.aP=some p):(fQ l (p,true) o).2=T.why o:=by
 obtain⟨q,hq,hc⟩:=h.cr _ _ hp;have eb:T.by o=p:=by unfold Tr.by;rw[hp];rfl
 have em:T.vS o=q:=by unfold Tr.vS;rw[hq];rfl
 have ei:T.is o=true:=by unfold Tr.is MM.has;rw[hp];rfl
 unfold fQ Tr.why;rw[Gs,t_,eb];have en:gH l (p,true) o=T.gZ o:=by
  unfold gH Tr.gZ;rw[eb,em,ei,hc.fd];rfl
 rw[en]
 by_cases hk:o.kind≠1
 .rw[if_pos hk,if_pos hk]
 .rw[if_neg hk,if_neg hk]
  cases hasB p.bn 1<;>rfl
theorem lX.Ot {l:List ag}{T:Tr}{c:Cr}{o:ag}(hp:MM.get T.at_ o.aP=none):(fQ l (c,false) o).2=T.why o:=by
 have ei:T.is o=false:=by unfold Tr.is MM.has;rw[hp];rfl
 have e1:T.gZ o=true:=by unfold Tr.gZ;rw[ei];rfl
 have e2:gH l (c,false) o=true:=rfl;unfold fQ Tr.why;rw[e1,e2]
 by_cases hk:o.kind≠1
 .rw[if_pos hk,if_pos hk]
 .rw[if_neg hk,if_neg hk];rfl
theorem vW {l:List ag}{p c:Cr}{o q:ag}(h2:a_ l o.aP=some q)(hb:By o p q c):fQ l (p,true) o=(p,0):=by
 have e:gH l (p,true) o=false:=by
  unfold gH;rw[h2];simp[hb.aK,hb.uL]
 unfold fQ;rw[if_neg (by rw[hb.kind];decide),e];simp[hb.hold,hb.own,hb.QB]
theorem lX.sound {l:List ag}{T:Tr}(h:lX l T):∀ (n:Nat) (d:Dt) (c:Cr),MM.get T.at_ d=some c->c.level<(n:Int)->eB l n d=(c,true)
 | 0,d,c,hc,hn=>by have:=(h.level hc).1;omega
 | n +1,d,c,hc,hn=>by
  obtain⟨o,hm,ho⟩:=h.cr d c hc;simp only[eB,ho.fd];have ed:=fK ho.fd;have hlv:=h.level hc;rcases ho.how with⟨h1,h2,h3⟩|⟨p,q,h1,h2,hb⟩
  .rw[if_pos h1,h3,decide_eq_true h2]
   unfold vT;rw[ed]
  .have hl:c.level=p.level+1:=by rw[hb.is]
   have hg:=lX.sound h n o.aP p h1 (by omega);rw[if_neg (by rw[hb.kind];decide),hg,vW h2 hb,if_neg (λ h=>h rfl)];rw[hb.is,ed];show(_,true)=(_,true);rw[yP _ (by show -9223372036854775808<=p.level+1;omega) (by show p.level+1<9223372036854775808;omega)]
theorem lX.full {l:List ag}{T:Tr}(h:lX l T):∀ (m:Nat) (d:Dt),(eB l m d).2=true->∃ c,MM.get T.at_ d=some c/\eB l m d=(c,true)
 | 0,d,hd=>by cases hd
 | m + 1, d, hd=>by
  cases hf:a_ l d with
  | none=>simp only[eB,hf] at hd;cases hd
  | some o=>
   have ed:=fK hf
   by_cases hk:o.kind=0
   .simp only[eB,hf,if_pos hk] at hd ⊢
    have hcart:o.aK=d:=by simpa using hd
    have hr:T.bT o=false:=by
     unfold Tr.bT;simp[hk,hcart,ed]
    rcases h.no d o hf (by omega) with h1|⟨c,hc⟩
    .rw[hr] at h1;cases h1
    .refine⟨c,hc,?_⟩
     obtain⟨o',hm,ho⟩:=h.cr d c hc;have eo:o=o':=by have:=ho.fd;rw[hf] at this;injection this
     subst eo;rcases ho.how with⟨_,_,e⟩|⟨p,q,_,_,hb⟩
     .rw[e,decide_eq_true hcart]
      unfold vT;rw[ed]
     .have:=hb.kind;omega
   .simp only[eB,hf,if_neg hk] at hd ⊢
    by_cases hw:(fQ l (eB l m o.aP) o).2≠0
    .rw[if_pos hw] at hd;cases hd
    .have hw0:(fQ l (eB l m o.aP) o).2=0:=Decidable.not_not.1 hw
     rw[if_neg hw];have hk1:o.kind=1:=by
      by_cases e:o.kind=1
      .exact e
      .unfold fQ at hw0;rw[if_pos e] at hw0;cases hw0
     have hg2:(eB l m o.aP).2=true:=by
      cases e:(eB l m o.aP).2 with
      | true=>rfl
      | false=>
       unfold fQ gH at hw0;rw[if_neg (by omega),e] at hw0;cases hw0
     obtain⟨p,hp,hgp⟩:=lX.full h m o.aP hg2;rw[hgp] at hw0 ⊢;rw[h.Le hp] at hw0;have hr:T.bT o=false:=by
      unfold Tr.bT;simp[hk1,hw0]
     rcases h.no d o hf (by omega) with h1|⟨c,hc⟩
     .rw[hr] at h1;cases h1
     .refine⟨c,hc,?_⟩
      obtain⟨o',hm,ho⟩:=h.cr d c hc;have eo:o=o':=by have:=ho.fd;rw[hf] at this;injection this
      subst eo;rcases ho.how with⟨h0,_,_⟩|⟨p',q,h1,h2,hb⟩
      .omega
      .have ep:p=p':=by rw[hp] at h1;injection h1
       subst ep;have hl:=h.level hp;rw[vW h2 hb,hb.is,ed];show(_,true)=(_,true);rw[yP _ (by show -9223372036854775808<=p.level+1;omega) (by show p.level+1<9223372036854775808;omega)]
theorem lX.get {l:List ag}{T:Tr}(h:lX l T)(d:Dt):((eB l 10 d).2=MM.has T.at_ d)/\∀ c,MM.get T.at_ d=some c->eB l 10 d=(c,true):=by
 have hs:∀ c,MM.get T.at_ d=some c->eB l 10 d=(c,true):=λ c hc=>h.sound 10 d c hc (by have:=(h.level hc).2;show c.level<10;omega)
 refine⟨?_,hs⟩;cases hg:MM.get T.at_ d with
 | some c=>rw[hs c hg];show true=(MM.get T.at_ d).isSome;rw[hg];rfl
 | none=>
  show _=(MM.get T.at_ d).isSome;rw[hg];cases e:(eB l 10 d).2 with
  | false=>rfl
  | true=>
   obtain⟨c,hc,_⟩:=h.full 10 d e;rw[hg] at hc;cases hc
theorem lX.why {l:List ag}{T:Tr}(h:lX l T)(o:ag):(fQ l (eB l 10 o.aP) o).2=T.why o:=by
 obtain⟨h1,h2⟩:=h.get o.aP;cases hg:MM.get T.at_ o.aP with
 | some p=>rw[h2 p hg];exact h.Le hg
 | none=>
  have e:eB l 10 o.aP=((eB l 10 o.aP).1,false):=by
   have:(eB l 10 o.aP).2=false:=by rw[h1];show(MM.get T.at_ o.aP).isSome=false;rw[hg];rfl
   rw[<- this]
  rw[e];exact lX.Ot hg
theorem lX.above {l:List ag}{T:Tr}(h:lX l T){d:Dt}{c:Cr}(hc:MM.get T.at_ d=some c)(hl:0<c.level):∃ o p q,a_ l d=some o/\a_ l c.par=some q/\MM.get T.at_ c.par=some p/\By o p q c:=by
 obtain⟨o,_,ho⟩:=h.cr d c hc;rcases ho.how with⟨_,_,e⟩|⟨p,q,h1,h2,hb⟩
 .rw[e] at hl;exact absurd hl (by show ¬ (0:Int)<0;omega)
 .have ec:c.par=o.aP:=by rw[hb.is]
  exact⟨o,p,q,ho.fd,by rw[ec];exact h2,by rw[ec];exact h1,hb⟩
theorem lX.Gu {l:List ag}{T:Tr}(h:lX l T){d:Dt}{c:Cr}(hc:MM.get T.at_ d=some c):c.dot=d:=by
 obtain⟨o,_,ho⟩:=h.cr d c hc;exact ho.dot
theorem lX.Lf {l:List ag}{T:Tr}(h:lX l T):∀ (n:Nat) (d:Dt) (c:Cr),MM.get T.at_ d=some c->c.level=(n:Int)->∃ L,pg T.at_ (some c) L/\L.length=n+1
 | 0,d,c,hc,hn=>⟨[c],.root c (by omega),rfl⟩
 | n+1,d,c,hc,hn=>by
  have hl:0<c.level:=by omega
  obtain⟨o,p,q,_,_,hp,hb⟩:=h.above hc hl;have e:c.level=p.level+1:=by rw[hb.is]
  obtain⟨L,h1,h2⟩:=lX.Lf h n c.par p hp (by omega);exact⟨c::L,.more c L hl (by rw[hp];exact h1),by simp[h2]⟩
theorem lX.ux {l:List ag}{T:Tr}(h:lX l T)(d:Dt):∃ L,pg T.at_ (MM.get T.at_ d) L/\L.length<=9/\∀ c,MM.get T.at_ d=some c->(L.length:Int)=c.level+1:=by
 cases hg:MM.get T.at_ d with
 | none=>exact⟨[],.none,by simp,λ c hc=>by cases hc⟩
 | some c=>
  have hl:=h.level hg;obtain⟨L,h1,h2⟩:=h.Lf c.level.toNat d c hg (by omega);exact⟨L,h1,by omega,λ c' hc'=>by injection hc' with hc';subst hc';omega⟩
theorem pg.mem {a:MM Dt Cr}{oc:Option Cr}{L:List Cr}(h:pg a oc L)(x:Cr)(hx:x∈L):oc=some x\/∃ y,y∈L/\0<y.level/\MM.get a y.par=some x:=by
 induction h with
 | none=>cases hx
 | root c hc=>simp at hx;exact .inl (by rw[hx])
 | more c L hc hL ih=>
  rcases List.mem_cons.1 hx with e|hx
  .exact .inl (by rw[e])
  .rcases ih hx with h1|⟨y,hy,h2,h3⟩
   .exact .inr ⟨c,by simp,hc,h1⟩
   .exact .inr ⟨y,List.mem_cons_of_mem _ hy,h2,h3⟩
theorem pg.head {a:MM Dt Cr}{c:Cr}{L:List Cr}(h:pg a (some c) L):L[0]? =some c:=by
 cases h<;>rfl
theorem pg.next {a:MM Dt Cr}{oc:Option Cr}{L:List Cr}(h:pg a oc L):∀ (i:Nat) (x y:Cr),L[i]? =some x->L[i+1]? =some y->0<x.level/\MM.get a x.par=some y:=by
 induction h with
 | none=>intro i x y hx;cases hx
 | root c hc=>intro i x y hx hy;simp at hy
 | more c L hc hL ih=>
  intro i x y hx hy;cases i with
  | zero=>
   have e:c=x:=by simpa using hx
   subst e;refine⟨hc,?_⟩;have hy':L[0]? =some y:=by simpa using hy
   revert hL hy'
   generalize MM.get a c.par=oc;intro hL hy';cases hL with
   | none=>cases hy'
   | root d _=>simpa using hy'
   | more d M _ _=>simpa using hy'
  | succ i=>exact ih i x y (by simpa using hx) (by simpa using hy)
theorem lX.Gv {l:List ag}{T:Tr}(h:lX l T){d:Dt}{L:List Cr}(hL:pg T.at_ (MM.get T.at_ d) L)(x:Cr)(hx:x∈L):MM.get T.at_ x.dot=some x:=by
 rcases hL.mem x hx with h1|⟨y,_,_,h1⟩
 .rw[h.Gu h1];exact h1
 .rw[h.Gu h1];exact h1
theorem lX.AK {l:List ag}{T:Tr}(h:lX l T){d:Dt}{L:List Cr}(hL:pg T.at_ (MM.get T.at_ d) L):∀ (i:Nat) (x c:Cr),MM.get T.at_ d=some c->L[i]? =some x->x.level=c.level - (i:Int)
 | 0,x,c,hc,hx=>by
  rw[hc] at hL;rw[hL.head] at hx;injection hx with hx;subst hx;simp
 | i+1,x,c,hc,hx=>by
  obtain⟨hlt,_⟩:=List.getElem?_eq_some_iff.1 hx;obtain⟨y,hy⟩:=aX (show i<L.length by omega);have ih:=lX.AK h hL i y c hc hy;obtain⟨h1,h2⟩:=hL.next i y x hy hx
  obtain⟨o,p,q,_,_,hp,hb⟩:=h.above (h.Gv hL y (List.mem_of_getElem? hy)) h1;rw[hp] at h2;injection h2 with h2;subst h2;have e:y.level=p.level+1:=by rw[hb.is]
  omega
end
section
def gO:ag:=⟨⟨0,1⟩,ay.zero,1,1,⟨0,1⟩,0,⟨0,0⟩,0,0,0,0,⟨0,0⟩,⟨0,0⟩,0,0,0,.aL⟩
def xk (n:Nat):ay:=⟨n,0,0,0,0,0,0,0⟩
def aO:ag:=⟨⟨0,2⟩,xk 1,2,1,⟨0,1⟩,1,⟨0,1⟩,2,3,3,500,⟨0,0⟩,⟨0,0⟩,0,0,0,.aL⟩
def bO:ag:=⟨⟨0,3⟩,xk 2,3,2,⟨0,1⟩,1,⟨0,2⟩,3,2,0,500,⟨0,0⟩,⟨0,0⟩,0,0,0,.aL⟩
abbrev Nu:List ag:=[bO,gO,aO]
def c1:Cr:=⟨⟨0,1⟩,⟨0,1⟩,⟨0,0⟩,1,7,8,1099511627776,0⟩
def c2:Cr:=⟨⟨0,2⟩,⟨0,1⟩,⟨0,1⟩,2,3,3,500,1⟩
def c3:Cr:=⟨⟨0,3⟩,⟨0,1⟩,⟨0,2⟩,3,2,0,500,2⟩
end
section
structure Part (t l:List ag):Prop where
 uniq:j8 l
 AL:j8 t
 sub:∀ o,o∈t->o∈l
 Mn:∀ o a,o∈t->a∈l->a.before o=true->a∈t
section
variable {t l:List ag} (h:Part t l)
include h
theorem Part.find {d:Dt}{o:ag}(hf:a_ t d=some o):a_ l d=some o:=by
 obtain⟨h1,rfl⟩:=fZ hf;exact h.uniq.find (h.sub o h1)
end
end
end Go.Proofs.YtaelhkkjgfobhaaGreat
