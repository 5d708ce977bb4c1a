/-
 Shapes: what is well-formed names what it needs (plain).
-/
import Derived.Test.YtaelhkkjgfobhaaGreatRE
set_option linter.unusedSectionVars false
set_option linter.unusedVariables false
set_option linter.unusedSimpArgs false
namespace Go.Proofs.YtaelhkkjgfobhaaGreat
open Go.Sl Go.Proofs
section
section
variable {l:List ag} {o:ag} (hw:jQ l o=0)
include hw
theorem qU (hk:o.kind≠0):∃ c,MM.get (bg l).at_ o.aP=some c/\c.aK=o.aK/\c.hold=o.who/\oG c o.kind=false:=by
 unfold jQ zi at hw;obtain⟨_,_,h3,_,_⟩:=v8.1 hw;obtain⟨e1,e2,e3⟩:=h3 hk;obtain⟨c,a,h1,_,_,_,h5⟩:=r9.1 e1;rw[h1] at e2 e3;exact⟨c,h1,h5,Int.ofNat_inj.1 e2,e3⟩
theorem El:Ef l (bg l).at_ (bg l).made o (lM (bg l).at_ o.aP o.at_ (mX (bg l).at_ o.at_))=true:=by
 unfold jQ zi at hw;exact(v8.1 hw).2.2.2.2
theorem AU (hk:o.kind=2):lM (bg l).at_ o.aP o.at_ (mX (bg l).at_ o.at_)=true:=by
 have:=El hw;unfold Ef at this;rw[if_pos hk,Bool.and_eq_true] at this;exact this.2
end
end
section
end
section
section
attribute [local irreducible] SW RW aH SC aj ak
theorem Hr (S:Sh):SB Tryz.prog shape_Shape_Tree.f [.ptr 0 0] S.h0 7 0 λ r F=>r= .ptr 4 0/\F=S.h0:=by
 refine shape_Shape_Tree.enter (by simp[SV.ax,SV.ok]) (S.ok (Nat.le_refl 7)) (by simp) ?_;dsimp only[shape_Shape_Tree.s,Co.M,Co.J,Co.F,Co.T,Co.P,Co.D,Co.A,Co.S];(repeat (first|refine SW.seq ?_|refine SW.block ?_|refine SW.g1 dE Zm aa (uR S) ?_|refine SW.skip ?_|refine SW.exit ?_|refine SW.ret ?_|refine SW.ai rfl ?_|refine SW.an rfl ?_));exact End.mk S.h0 (h4:=⟨rfl,rfl⟩) (h6:=S.ok (Nat.le_refl 7))
theorem dw.J2 (S:Sh)(k:Nat):aH Tryz.prog shape_Shape_Tree.f [.ptr 10 0] S.lS k 0 (.ptr 2 0) S.lS:=by
 have:=SB.lR n10.nl (Hr S) (by decide) (λ i hi=>S.Lg i hi) k;rw[S.Gw n10 k] at this;exact this
end
end
section
end
section
section
attribute [local irreducible] SW RW aH SC aj ak kg
variable (l:List ag) (hl:l.length<1000000000)
include hl
variable (hr:∀ x,x∈l->x.bn<256)
include hr
end
section
attribute [local irreducible] SW RW aH SC aj ak
end
section
attribute [local irreducible] SW RW aH SC aj ak kg
variable (l:List ag) (hl:l.length<1000000000) (hr:∀ x,x∈l->x.bn<256)
include hl hr
end
end
end Go.Proofs.YtaelhkkjgfobhaaGreat
namespace Go.Proofs.YtaelhkkjgfobhaaGreat
open Go.Sl Go.Proofs
section
section
attribute [local irreducible] SW RW aH SC aj ak
variable (l:List ag) (hl:l.length<1000000000) (hr:∀ x,x∈l->x.bn<256)
include hl hr
end
end
section
theorem mc {l:List Cm}{i:Nat}{x:Cm}(h:l[i]? =some x):List.take 2 (List.drop (i*4) (List.map SV.d (l.flatMap Cm.ds)))=x.line.cells:=by
 have:=uQ h;rw[<- x.s0,<- this,List.take_take];rfl
theorem B8 {l:List Cm}{i:Nat}{x:Cm}(h:l[i]? =some x):List.take 2 (List.drop (i*4+2) (List.map SV.d (l.flatMap Cm.ds)))=x.jA.cells:=by
 have:=uQ h;rw[<- x.s2,<- this,List.drop_take,List.take_take,List.drop_drop];rfl
section
attribute [local irreducible] SW RW aH SC aj ak
variable (l:List ag) (hl:l.length<1000000000) (hr:∀ x,x∈l->x.bn<256)
include hl hr
end
end
section
section
attribute [local irreducible] SW RW aH SC aj ak
variable (l:List ag) (hl:l.length<=80) (hd:∀ x,x∈l->x.bn<256/\x.mC/\x.dot.wf)
include hl hd
end
end
end Go.Proofs.YtaelhkkjgfobhaaGreat
namespace Go.Proofs.YtaelhkkjgfobhaaGreat
open Go.Sl Go.Proofs
section
attribute [local irreducible] SW RW aH SC aj ak
structure Hs {σ:Type}(Fh:σ->Hp)(Step:σ->Dt->σ->Prop)(go:σ->Bool)(aV b m k:Nat)(L:(MM Dt ag))(s0 s:σ)(xs:(MM Dt ag))(kk:Nat):Prop where
 p1:lU Step s0 (MM.keys xs) s
 p2:go s=true
 p3:∀ x,x∈xs->x∈L
 p4:(xs.map (·.1)).Nodup
 p5:k+1<=kk
 p6:kk<=k+1+xs.length*(1+aV)
 p7:(Fh s).ok (λ n=>decide (n<kk))=true
 p8:lk (Fh s) b=none
 p9:lk (Fh s) m=none
 Ei:lk (Fh s) k=none
set_option maxHeartbeats 1000000 in
theorem Em {σ:Type}{Fh:σ->Hp}{Step:σ->Dt->σ->Prop}{go:σ->Bool}{aV y b m k c:Nat}{L:(MM Dt ag)}(hwf:MM.wf L c)(s0:σ)(hy:pW Tryz.prog y (λ x:Dt=> .agg x.cells) aV Fh Step go s0 L.length)(h0:(Fh s0).ok (λ n=>decide (n<k))=true)
  (hb:b<k) (hm:m<k) (MB:b≠m) (hdb:lk (Fh s0) b=none) (OI:lk (Fh s0) m=none) (xb:go s0=true):
  SB Tryz.prog maps_Keys_map_api_Dot_api_Op_api_Dot_api_Op_1.f [.yl y,.ptr b 0] ((b,.box 107 [.mp m])::(m,.map (au Dt.cells ov L) c)::Fh s0) k (1+L.length*(1+aV))
   λ r F=>r= .dL []/\∃ (xs:(MM Dt ag)) (s':σ),lU Step s0 (MM.keys xs) s'/\(∀ x,x∈xs->x∈L)/\(xs.map (·.1)).Nodup/\(go s'=true->∀ x,x∈L->x∈xs)/\(lk (Fh s') b=none/\lk (Fh s') m=none)/\F=(b,.box 107 [.mp m])::(m,.map (au Dt.cells ov L) c)::Fh s':=by
 have hyk:y<k:=by
  obtain⟨ob,ho⟩:=Option.ne_none_iff_exists'.1 (hy.vF s0)
  simpa using(Hp.fu h0 ho).1
 refine maps_Keys_map_api_Dot_api_Op_api_Dot_api_Op_1.enter (by simp[SV.ok,SV.ax];omega) (by simp only[Hp.ok,List.all_cons,Ob.ok,SV.ax,SV.ok,bG,Bool.and_true,Bool.and_eq_true,decide_eq_true_eq];exact⟨⟨hb,hm⟩,hm,h0⟩) (by simp) ?_;dsimp only[maps_Keys_map_api_Dot_api_Op_api_Dot_api_Op_1.s,Co.M,Co.J,Co.F,Co.b8,Co.aB,Co.T,Co.K,Co.E,Co.W,Co.O,Co.S];have f1:=bX (show m≠b by omega);have f2:=bX (show k≠b by omega);have f3:=bX (show k≠m by omega);have f4:List.lookup k (Fh s0)=none:=by
  cases hh:lk (Fh s0) k with
  | none=>exact hh
  | some ob=>have:=(Hp.fu h0 hh).1;simp at this
 refine SW.seq ?_;refine SW.g0 io Zm (Zq f1 (Zq f2 (Zq f3 f4))) ?_;refine SW.block (SW.pX (es:=λ _=>au Dt.cells ov L) (c:=λ _=>c) (uJ:=λ _=>k) (nm:=λ _=>m) (since:=λ _=>c) (BL:=λ _=>c)
  (α:={i:σ×(MM Dt ag)×Nat // Hs Fh Step go aV b m k L s0 i.1 i.2.1 i.2.2})
  (λ i=>⟨[(5,.it k),(0,.yl y),(1,.ptr b 0)],(k,.iter (some m) c (i.1.2.1.map (·.1)) c)::(b,.box 107 [.mp m])::(m,.map (au Dt.cells ov L) c)::Fh i.1.1,i.1.2.2⟩)
  (λ i=>gy (au Dt.cells ov L) (i.1.2.1.map (·.1))) ⟨(s0,[],k+1),⟨.nil,xb,by simp,by simp,by simp,by simp,Hp.bJ (by simp) h0,hdb,OI,f4⟩⟩ id (seen:=λ i=>i.1.2.1.map (·.1)) ?_ (λ i=>by simp[List.lookup]) (λ i=>by simp[af]) (λ i=> ?_) (λ i=>by omega) (λ i e he=> ?_) (λ i=>Nat.le_refl _) (λ i hall=> ?_) (λ i e he hs=> ?_))
 .refine aG.same (by simp) (by simp[aJ,lT,List.lookup,SV.aC,SV.ok];omega) ?_ ?_
  .simp only[Hp.ok,List.all_cons,Ob.ok,SV.ax,SV.ok,bG,Bool.and_true,Bool.and_eq_true,decide_eq_true_eq]
   exact⟨⟨by omega,by omega⟩,⟨by omega,by omega⟩,by omega,Hp.bJ (by simp) h0⟩
  .intro x hx
   simp only[List.mem_cons] at hx;rcases hx with rfl|rfl|rfl|hx
   .simp[af]
   .simp[af,f1,f2,f3]
   .simp[af,f1,f2,f3]
   .have:=hy.nd s0 x hx
    have h1:x.1≠k:=λ e=>by rw[e] at this;rw[show lk (Fh s0) k=none from f4] at this;cases this
    have h2:x.1≠b:=λ e=>by rw[e,hdb] at this;cases this
    have h3:x.1≠m:=λ e=>by rw[e,OI] at this;cases this
    simp[af,h1,h2,h3,this]
 .simp[af,f1,f2,f3]
 .obtain⟨x,hx,rfl⟩:=eM he
  exact hwf.old x hx
 .obtain⟨⟨s,xs,kk⟩,hi⟩:=i
  have hi:Hs Fh Step go aV b m k L s0 s xs kk:=hi;have hi':=hi;obtain⟨p1,p2,p3,p4,p5,p6,p7,p8,p9,Ei⟩:=hi';dsimp only at*;have hsub:xs.length<=L.length:=by
   have:=p4.length_le_of_subset (l₂:=L.map (·.1)) (λ t ht=>by
    obtain⟨x,hx,rfl⟩:=List.mem_map.1 ht;exact List.mem_map.2 ⟨x,p3 x hx,rfl⟩)
   simpa using this
  have hmul:xs.length*(1+aV)<=L.length*(1+aV):=Nat.mul_le_mul_right _ hsub;have hhp:∀ kx,kk<=kx->Hp.ok (λ n=>decide (n<kx)) ((b,Ob.box 107 [.mp m])::(m,.map (au Dt.cells ov L) c)::Fh s)=true:=λ kx hkx=>by
   simp only[Hp.ok,List.all_cons,Ob.ok,SV.ax,SV.ok,bG,Bool.and_true,Bool.and_eq_true,decide_eq_true_eq];exact⟨⟨by omega,by omega⟩,by omega,Hp.bJ hkx p7⟩
  refine⟨⟨[],(b,.box 107 [.mp m])::(m,.map (au Dt.cells ov L) c)::Fh s,k+(1+L.length*(1+aV))⟩,id,aG.same (Nat.le_add_right _ _) trivial (hhp _ (by show kk<=k+(1+L.length*(1+aV));omega)) ?_,?_⟩
  .intro x hx
   simp only[List.mem_cons] at hx;rcases hx with rfl|rfl|hx
   .simp[af,f1,f2,f3]
   .simp[af,f1,f2,f3]
   .have:=hy.nd s x hx
    have h1:x.1≠k:=λ e=>by rw[e,Ei] at this;cases this
    have h2:x.1≠b:=λ e=>by rw[e,p8] at this;cases this
    have h3:x.1≠m:=λ e=>by rw[e,p9] at this;cases this
    simp[af,h1,h2,h3,this]
  .rw[if_pos rfl]
   refine End.mk ((b,.box 107 [.mp m])::(m,.map (au Dt.cells ov L) c)::Fh s) (h3:=λ _ _ h=>h) (h4:=⟨rfl,xs,s,p1,p3,p4,λ _ x hx=> ?_,⟨p8,p9⟩,rfl⟩) (h6:=hhp _ (by omega)) (h7:=Nat.le_refl _);have:=hall _ (List.mem_map.2 ⟨x,hx,rfl⟩);simp only[List.contains_iff_mem] at this;obtain⟨z,hz,e⟩:=List.mem_map.1 this;have:z=x:=MM.rQ hwf.times (p3 z hz) hx e;rw[<- this];exact hz
 .obtain⟨⟨s,xs,kk⟩,hi⟩:=i
  have hi:Hs Fh Step go aV b m k L s0 s xs kk:=hi;have hi':=hi;obtain⟨p1,p2,p3,p4,p5,p6,p7,p8,p9,Ei⟩:=hi';dsimp only at*;obtain⟨x,hx,rfl⟩:=eM he;dsimp only at hs;have g1:=bX (show kk≠k by omega);have g2:=bX (show kk≠b by omega);have g3:=bX (show kk≠m by omega);have g4:List.lookup kk (Fh s)=none:=Hp.out p7 (Nat.le_refl _);have g5:(xs.map (·.1)++[x.1]).getLast? =some x.1:=by simp
  have g6:=kM (kc:=Dt.cells) (vs:=ov) hwf.times hx;rw[je];dsimp only;refine SW.block (SW.seq (SW.g0 io Zm (Zq f1 (Zq f2 (Zq f3 (Zq g1 (Zq g2 (Zq g3 (Zq g4 (Zq g5 g6)))))))) ?_));refine SW.seq (SW.xU ?_);(repeat (first|refine bq.op (Zq g1 (Zq g2 g3)) (h:=?_)|refine bq.dV (Zq g1 (Zq g2 g3)) (h:=?_)|refine bq.skip (h:=?_)));have hokk:(Fh s).ok (λ n=>decide (n<kk+1))=true:=Hp.bJ (by omega) p7;have oM:∀ s',(∀ n,lk (Fh s') n≠none->lk (Fh s) n≠none\/(kk+1<=n/\n<kk+1+aV))->lk (Fh s') b=none/\lk (Fh s') m=none/\lk (Fh s') k=none:=λ s' h=>by
   refine⟨?_,?_,?_⟩
   .exact Classical.byContradiction λ hn=>(h b hn).elim (λ h=>h p8) (λ h=>by omega)
   .exact Classical.byContradiction λ hn=>(h m hn).elim (λ h=>h p9) (λ h=>by omega)
   .exact Classical.byContradiction λ hn=>(h k hn).elim (λ h=>h Ei) (λ h=>by omega)
  have hxs:x∉xs:=λ h=>by
   have:(xs.map (·.1)).contains x.1=true:=by simp only[List.contains_iff_mem];exact List.mem_map.2 ⟨x,h,rfl⟩
   rw[this] at hs;cases hs
  have hxt:x.1∉xs.map (·.1):=λ h=>by
   have:(xs.map (·.1)).contains x.1=true:=by simpa only[List.contains_iff_mem] using h
   rw[this] at hs;cases hs
  have q3:∀ z,z∈xs++[x]->z∈L:=λ z hz=>by
   rcases List.mem_append.1 hz with hz|hz
   .exact p3 z hz
   .rw[List.mem_singleton.1 hz];exact hx
  have q4:((xs++[x]).map (·.1)).Nodup:=by
   rw[List.map_append,List.nodup_append];refine⟨p4,by simp,λ a ha b' hb'=> ?_⟩;simp only[List.map_cons,List.map_nil,List.mem_singleton] at hb';intro e;exact hxt (by rw[<- hb',<- e];exact ha)
  have hsub2:(xs++[x]).length<=L.length:=by
   have:=q4.length_le_of_subset (l₂:=L.map (·.1)) (λ t ht=>by
    obtain⟨z,hz,rfl⟩:=List.mem_map.1 ht;exact List.mem_map.2 ⟨z,q3 z hz,rfl⟩)
   simpa using this
  have hlt:(MM.keys xs).length<L.length:=by
   simp only[List.length_append,List.length_singleton] at hsub2;simp only[MM.keys,List.length_map];omega
  have hsub:HSub (Fh s) ((kk,Ob.box 37 x.2.1.cells)::(k,Ob.iter (some m) c (xs.map (·.1)++[x.1]) c)::(b,Ob.box 107 [.mp m])::(m,.map (au Dt.cells ov L) c)::Fh s):=λ n ob hn=>by
   have h1:n≠k:=λ e=>by rw[e,Ei] at hn;cases hn
   have h2:n≠b:=λ e=>by rw[e,p8] at hn;cases hn
   have h3:n≠m:=λ e=>by rw[e,p9] at hn;cases hn
   have h4:n≠kk:=λ e=>by rw[e,show lk (Fh s) kk=none from g4] at hn;cases hn
   simp[af,h1,h2,h3,h4,hn]
  refine bq.yield (by simp only[ev,List.lookup,Nat.reduceBEq]<;>rfl) (by simp only[ev,qu,List.lookup,Nat.reduceBEq]<;>rfl) (hy.vF s) (hy.call s _ x.2.1 (kk+1) p1 hlt hokk p2) hsub ?_;rintro v F' ⟨s',hstep,rfl,rfl,hok',hnm⟩;obtain⟨n1,n2,n3⟩:=oM s' hnm;rw[iX];show bq Tryz.prog 14 k _ ⟨(12,.d (.bool (go s')))::_,_,_⟩ _;(repeat (first|refine bq.op aa (h:=?_)|refine bq.dV aa (h:=?_)|refine bq.skip (h:=?_)));refine bq.nil ?_;have hlk:=iM (ro:=false) hsub (F':=Fh s') (λ h=>by cases h);have hhp:∀ kx,kk+1+aV<=kx->Hp.ok (λ n=>decide (n<kx)) ((b,Ob.box 107 [.mp m])::(m,.map (au Dt.cells ov L) c)::Fh s')=true:=λ kx hkx=>by
   simp only[Hp.ok,List.all_cons,Ob.ok,SV.ax,SV.ok,bG,Bool.and_true,Bool.and_eq_true,decide_eq_true_eq];exact⟨⟨by omega,by omega⟩,by omega,Hp.bJ hkx hok'⟩
  have hin:∀ z,z∈((b,Ob.box 107 [.mp m])::(m,.map (au Dt.cells ov L) c)::Fh s')->Bm (lk ((kk,Ob.box 37 x.2.1.cells)::(k,Ob.iter (some m) c (xs.map (·.1)++[x.1]) c)::(b,Ob.box 107 [.mp m])::(m,.map (au Dt.cells ov L) c)::Fh s)) (lk (Fh s)) (lk (Fh s')) z.1=some z.2:=by
   intro z hz;simp only[List.mem_cons] at hz;rcases hz with rfl|rfl|hz
   .rw[dB p8 n1];simp[af,f1,f2,f3,g1,g2,g3]
   .rw[dB p9 n2];simp[af,f1,f2,f3,g1,g2,g3]
   .have:=hy.nd s' z hz
    rw[fm (.inr (by rw[this];simp)),this]
  have q1:lU Step s0 (MM.keys (xs++[x])) s':=by
   have:=lU.snoc p1 hstep
   simpa[MM.keys] using this
  have q6:kk+1+aV<=k+1+(xs++[x]).length*(1+aV):=by
   have e:(xs++[x]).length*(1+aV)=xs.length*(1+aV)+(1+aV):=by rw[List.length_append,List.length_singleton,Nat.add_mul,Nat.one_mul]
   rw[e];omega
  have hmul:(xs++[x]).length*(1+aV)<=L.length*(1+aV):=Nat.mul_le_mul_right _ hsub2;cases hg:go s' with
  | true=>
   refine SW.an (by simp[ev,List.lookup,hg]) (SW.skip ?_);refine⟨⟨(s',xs++[x],kk+1+aV),q1,hg,q3,q4,by show k+1<=kk+1+aV;omega,q6,hok',n1,n2,n3⟩,id,?_,aG.same (by show k<=kk+1+aV;omega) (by simp[aJ,List.lookup,SV.aC,SV.ok];omega) ?_ ?_⟩
   .have:=kN he hs
    simpa using this
   .have:=hhp (kk+1+aV) (Nat.le_refl _)
    simp only[Hp.ok,List.all_cons,Ob.ok,Bool.and_eq_true,decide_eq_true_eq] at this ⊢;exact⟨⟨by omega,by omega⟩,this⟩
   .intro z hz
    rcases List.mem_cons.1 hz with rfl|hz
    .have:lk (bU false ((kk,Ob.box 37 x.2.1.cells)::(k,Ob.iter (some m) c (xs.map (·.1)++[x.1]) c)::(b,Ob.box 107 [.mp m])::(m,.map (au Dt.cells ov L) c)::Fh s) (Fh s) (Fh s')) k=some (.iter (some m) c (xs.map (·.1)++[x.1]) c):=by
      rw[hlk,dB Ei n3];simp[af,g1]
     simpa[bU] using this
    .have:lk (bU false ((kk,Ob.box 37 x.2.1.cells)::(k,Ob.iter (some m) c (xs.map (·.1)++[x.1]) c)::(b,Ob.box 107 [.mp m])::(m,.map (au Dt.cells ov L) c)::Fh s) (Fh s) (Fh s')) z.1=some z.2:=by
      rw[hlk];exact hin z hz
     exact this
  | false=>
   refine SW.ai (by simp[ev,List.lookup,hg]) ?_;refine SW.weak id (st1:=⟨[],(b,.box 107 [.mp m])::(m,.map (au Dt.cells ov L) c)::Fh s',k+(1+L.length*(1+aV))⟩) (aG.same (Nat.le_add_right _ _) trivial (hhp _ (by show kk+1+aV<=k+(1+L.length*(1+aV));omega)) λ z hz=> ?_) (SW.ret ?_)
   .have:lk (bU false ((kk,Ob.box 37 x.2.1.cells)::(k,Ob.iter (some m) c (xs.map (·.1)++[x.1]) c)::(b,Ob.box 107 [.mp m])::(m,.map (au Dt.cells ov L) c)::Fh s) (Fh s) (Fh s')) z.1=some z.2:=by
     rw[hlk];exact hin z hz
    exact this
   .refine End.mk ((b,.box 107 [.mp m])::(m,.map (au Dt.cells ov L) c)::Fh s') (h3:=λ _ _ h=>h) (h4:=⟨rfl,xs++[x],s',q1,q3,q4,λ (h:go s'=true)=>absurd h (by rw[hg];decide),⟨n1,n2⟩,rfl⟩) (h6:=hhp _ (by omega)) (h7:=Nat.le_refl _)
end
section
attribute [local irreducible] SW RW aH SC aj ak
theorem xo {L xs:(MM Dt ag)}{c:Nat}(hwf:MM.wf L c)(h1:∀ x,x∈xs->x∈L)(h2:(xs.map (·.1)).Nodup)(h3:∀ x,x∈L->x∈xs):(MM.keys xs).Perm (MM.keys L):=
 ((List.perm_ext_iff_of_nodup (jl _ h2) (jl _ hwf.times)).2 λ a=>⟨h1 a,h3 a⟩).map _
def fM (b m:Nat)(L:(MM Dt ag))(c:Nat):Hp:=[(b,.box 107 [.mp m]),(m,.map (au Dt.cells ov L) c)]
set_option maxHeartbeats 1000000 in
theorem xq {L:(MM Dt ag)}{c:Nat}(hwf:MM.wf L c)(hL:L.length<1000000000):
  SB Tryz.prog slices_AppendSeq_Lapi_Dot_api_Dot.f [.d .aL,.fn (.func maps_Keys_map_api_Dot_api_Op_api_Dot_api_Op_1.f) [] [.ptr 0 0]] (fM 0 1 L c) 2 1
   λ r F=>r= .gs 2 L.length/\∃ l:List Dt,l.Perm (MM.keys L)/\F=(2,.arr 37 2 L.length ((l.flatMap Dt.ds).map .d))::fM 0 1 L c:=by
 refine slices_AppendSeq_Lapi_Dot_api_Dot.enter (by simp[SV.ok,SV.ax]) (by simp[fM,Hp.ok,Ob.ok,SV.ax,SV.ok,bG]) (by simp) ?_;dsimp only[slices_AppendSeq_Lapi_Dot_api_Dot.s,Co.M,Co.J,Co.F,Co.b8,Co.aB,Co.T,Co.K,Co.x,Co.W,Co.S];refine SW.qK 0 37 2 rfl ?_;simp only[fM];refine SW.seq (SW.g0 eK Zm aa ?_);refine SW.seq (SW.seq (SW.g0 eK Zm aa ?_));refine SW.block (SW.sU (nk:=1+L.length*(1+2)) [2] [.ptr 3 0] rfl ⟨rfl,trivial⟩ λ ca cb hca hcb=> ?_)
 let s0:Ej 4 3:=⟨[],2,by decide,by decide⟩
 have hy:=wm (y:=4) (bx:=3) (B:=L.length) (by decide) s0 (by simp[s0];omega) hca hcb;have hsb:=Em (y:=4) (b:=0) (m:=1) (k:=5) hwf s0 hy (by simp[eS,s0,Hp.ok,Ob.ok,SV.ax,SV.ok]) (by decide) (by decide) (by decide) (by simp[eS,s0,af,bA]) (by simp[eS,s0,af,bA]) rfl;have hsubF:HSub ((0,.box 107 [.mp 1])::(1,.map (au Dt.cells ov L) c)::eS 4 3 13 [2] [7] ca cb s0) ((4,.qo 13 [2] [.ptr 3 0] [7] ca cb .ready none)::[(3,.box 31 [.gs 2 0]),(2,.arr 37 2 0 []),(0,.box 107 [.mp 1]),(1,.map (au Dt.cells ov L) c)]):=by
  intro n ob hn
  match n with
  | 0|1|2|3|4=>simpa[eS,s0,af] using hn
  | n+5=>simp[eS,s0,af,bA] at hn
 have hsc:=(hsb.here (λ n=>decide (n<5)) (λ n hn=> ?_) (by simp[SV.ax,SV.ok]) (by simp[eS,s0,Hp.ok,Ob.ok,SV.ax,SV.ok,bG]) ?_).frame hsubF
 .refine hsc.mono ?_
  rintro r F' ⟨F1,⟨rfl,xs,s',hon,hin,oM,hall,⟨hn0,hn1⟩,rfl⟩,rfl⟩;have hl:=AP hon;have hperm:=xo hwf hin oM (hall rfl);obtain⟨l,rn,hr1,hr2⟩:=s';have hl:l=MM.keys xs:=by simpa[s0] using hl
  have hn0:rn≠0:=λ e=>by simp[eS,e,af] at hn0
  have hn1:rn≠1:=λ e=>by simp[eS,e,af] at hn1
  have hll:l.length=L.length:=by rw[hl,hperm.length_eq];simp[MM.keys]
  rw[<- hl] at hperm;have hlk:=iM (ro:=false) (h:=(4,.qo 13 [2] [.ptr 3 0] [7] ca cb .ready none)::[(3,.box 31 [.gs 2 0]),(2,.arr 37 2 0 []),(0,.box 107 [.mp 1]),(1,.map (au Dt.cells ov L) c)]) (F:=(0,.box 107 [.mp 1])::(1,.map (au Dt.cells ov L) c)::eS 4 3 13 [2] [7] ca cb s0) (F':=(0,.box 107 [.mp 1])::(1,.map (au Dt.cells ov L) c)::eS 4 3 13 [2] [7] ca cb ⟨l,rn,hr1,hr2⟩) hsubF (λ h=>by cases h);generalize bU false _ _ _=G at hlk;have hG:∀ n ob,lk ((0,Ob.box 107 [.mp 1])::(1,.map (au Dt.cells ov L) c)::eS 4 3 13 [2] [7] ca cb ⟨l,rn,hr1,hr2⟩) n=some ob->lk G n=some ob:=λ n ob h=>by
   rw[hlk,fm (.inr (by rw[h];simp)),h]
  refine⟨none,hG 4 _ (by simp[eS,af,mQ]),?_⟩;refine SW.weak (λ n=>if n=2 then rn else n) (st1:=⟨[(2,.ptr 3 0)],[(3,.box 31 [.gs 2 L.length]),(2,.arr 37 2 L.length ((l.flatMap Dt.ds).map .d)),(0,.box 107 [.mp 1]),(1,.map (au Dt.cells ov L) c)],6⟩) ?_ ?_
  .have q3:=hG 3 (.box 31 [.gs rn l.length]) (by simp[eS,af])
   have q2:=hG rn (.arr 37 2 l.length ((l.flatMap Dt.ds).map .d)) (by simp[eS,af,hn0,hn1,hr1,hr2]);have q0:=hG 0 (.box 107 [.mp 1]) (by simp[af]);have q1:=hG 1 (.map (au Dt.cells ov L) c) (by simp[af]);rw[hll] at q3 q2;refine⟨by show 2<=6;omega,λ n hn=>if_neg (by omega),?_,?_,?_⟩
   .simp[aJ,List.lookup,SV.aC,SV.ok]
   .simp[sV,dx,Ob.aC,SV.aN,SV.aC,SV.dy,SV.aW,Ob.ok,SV.ax,SV.ok,q3,q2,q0,q1,hr1,cG,bG]
   .intro a ha b hb e
    simp only[List.map_cons,List.map_nil,List.mem_cons,List.not_mem_nil,or_false] at ha hb;rcases ha with rfl|rfl|rfl|rfl<;>rcases hb with rfl|rfl|rfl|rfl<;>simp at e<;>first|rfl|omega
  ·(repeat (first|refine SW.seq ?_|refine SW.block ?_|refine SW.g0 eK Zm aa ?_|refine SW.skip ?_|refine SW.exit ?_|refine SW.ret ?_|refine SW.ai rfl ?_|refine SW.an rfl ?_))
   exact End.mk ((2,.arr 37 2 L.length ((l.flatMap Dt.ds).map .d))::fM 0 1 L c) (h4:=⟨rfl,l,hperm,rfl⟩) (h6:=by simp[fM,Hp.ok,Ob.ok,SV.ax,SV.ok,SV.aW,bG])
 .match n,hn with
  | 0,_|1,_|2,_|3,_|4,_=>simp[eS,s0,af]
  | n +5,h=>
    have:n+5<5:=by simpa using h
    omega
 .rintro r F' _ h1 h2
  refine⟨SV.fD (λ n hn=> ?_) _ h1,Hp.eA (λ n hn=> ?_) h2⟩<;>(simp at hn ⊢;omega)
end
end Go.Proofs.YtaelhkkjgfobhaaGreat
namespace Go.Proofs.YtaelhkkjgfobhaaGreat
open Go.Sl Go.Proofs Go.Sort
attribute [local irreducible] SW RW aH SC aj ak
theorem tE (L:(MM Dt ag))(c n:Nat)(h:decide (n<2)=true):lk (fM 0 1 L c) n≠none:=by
 match n,h with
 | 0,_|1,_=>simp[fM,af]
 | n +2,h=>
   have:n+2<2:=by simpa using h
   omega
theorem pH (q:Nat->Bool)(b m:Nat)(L:(MM Dt ag))(c:Nat)(hb:q b=true)(hm:q m=true):(fM b m L c).ok q=true:=by
 simp[fM,Hp.ok,Ob.ok,SV.ax,SV.ok,bG,hb,hm]
theorem xu {L:(MM Dt ag)}{c:Nat}(hwf:MM.wf L c)(hL:L.length<1000000000):
  SC Tryz.prog slices_AppendSeq_Lapi_Dot_api_Dot.f [.d .aL,.fn (.func maps_Keys_map_api_Dot_api_Op_api_Dot_api_Op_1.f) [] [.ptr 0 0]] (fM 0 1 L c) 2 1
   λ r F=>r= .gs 2 L.length/\∃ l:List Dt,l.Perm (MM.keys L)/\F=(2,.arr 37 2 L.length ((l.flatMap Dt.ds).map .d))::fM 0 1 L c:=
 (xq hwf hL).here (λ n=>decide (n<2)) (tE L c) (by simp[SV.ax,SV.ok]) (pH _ _ _ _ _ rfl rfl) λ r F' _ h1 h2=>⟨SV.fD (λ n hn=>by simp at hn ⊢;omega) _ h1,Hp.eA (λ n hn=>by simp at hn ⊢;omega) h2⟩
theorem AV {L:(MM Dt ag)}{c:Nat}(hwf:MM.wf L c)(hL:L.length<1000000000):
  SB Tryz.prog slices_Collect_api_Dot.f [.fn (.func maps_Keys_map_api_Dot_api_Op_api_Dot_api_Op_1.f) [] [.ptr 0 0]] (fM 0 1 L c) 2 1
   λ r F=>r= .gs 2 L.length/\∃ l:List Dt,l.Perm (MM.keys L)/\F=(2,.arr 37 2 L.length ((l.flatMap Dt.ds).map .d))::fM 0 1 L c:=by
 refine slices_Collect_api_Dot.enter (by simp[SV.ok,SV.ax]) (pH _ _ _ _ _ rfl rfl) (by simp) ?_;dsimp only[slices_Collect_api_Dot.s,Co.M,Co.J,Co.F,Co.C,Co.S];refine SW.seq (SW.g0 fv Zm aa ?_);refine SW.seq (SW.xU ?_);(repeat (first|refine bq.op aa (h:=?_)|refine bq.dV aa (h:=?_)|refine bq.skip (h:=?_)));refine bq.bC (xu hwf hL) (λ _ _ h=>h) (h:=?_);rintro v F' ⟨rfl,l,hl,rfl⟩;simp only[bU,de,dg,gf,gJ,c_,lk,List.lookup,Nat.reduceBEq,BEq.rfl,beq_self_eq_true,if_true,if_false,reduceIte,Nat.reduceEqDiff,Bool.false_eq_true,Option.isSome_some,Option.isSome_none,Nat.reduceAdd,fM];(repeat (first|refine bq.op aa (h:=?_)|refine bq.dV aa (h:=?_)|refine bq.skip (h:=?_)));refine bq.nil (SW.ret ?_);exact End.mk ((2,.arr 37 2 L.length ((l.flatMap Dt.ds).map .d))::fM 0 1 L c) (h4:=⟨rfl,l,hl,rfl⟩) (h6:=by simp[fM,Hp.ok,Ob.ok,SV.ax,SV.ok,SV.aW,bG])
theorem AW {L:(MM Dt ag)}{c:Nat}(hwf:MM.wf L c)(hL:L.length<1000000000):
  SC Tryz.prog slices_Collect_api_Dot.f [.fn (.func maps_Keys_map_api_Dot_api_Op_api_Dot_api_Op_1.f) [] [.ptr 0 0]] (fM 0 1 L c) 2 1
   λ r F=>r= .gs 2 L.length/\∃ l:List Dt,l.Perm (MM.keys L)/\F=(2,.arr 37 2 L.length ((l.flatMap Dt.ds).map .d))::fM 0 1 L c:=
 (AV hwf hL).here (λ n=>decide (n<2)) (tE L c) (by simp[SV.ax,SV.ok]) (pH _ _ _ _ _ rfl rfl) λ r F' _ h1 h2=>⟨SV.fD (λ n hn=>by simp at hn ⊢;omega) _ h1,Hp.eA (λ n hn=>by simp at hn ⊢;omega) h2⟩
theorem wu {L:(MM Dt ag)}{c:Nat}(hwf:MM.wf L c)(hL:L.length<1000000000):
  SB Tryz.prog slices_SortedFunc_api_Dot.f [.fn (.func maps_Keys_map_api_Dot_api_Op_api_Dot_api_Op_1.f) [] [.ptr 0 0],.fn (.func dot_Compare.f) [] []] (fM 0 1 L c) 2 0
   λ r F=>r=bN (Dt.sorted (MM.keys L))/\F=fM 0 1 L c:=by
 refine slices_SortedFunc_api_Dot.enter (by simp[SV.ok,SV.ax]) (pH _ _ _ _ _ rfl rfl) (by simp) ?_;dsimp only[slices_SortedFunc_api_Dot.s,Co.M,Co.J,Co.F,Co.P,Co.Q,Co.S];refine SW.seq (SW.g0 jn Zm aa ?_);refine SW.seq (SW.xU ?_);(repeat (first|refine bq.op aa (h:=?_)|refine bq.dV aa (h:=?_)|refine bq.skip (h:=?_)));refine bq.bC (AW hwf hL) (λ _ _ h=>h) (h:=?_);rintro v F' ⟨rfl,l,hl,rfl⟩;simp only[bU,de,dg,gf,gJ,c_,lk,List.lookup,Nat.reduceBEq,BEq.rfl,beq_self_eq_true,if_true,if_false,reduceIte,Nat.reduceEqDiff,Bool.false_eq_true,Option.isSome_some,Option.isSome_none,Nat.reduceAdd,fM];(repeat (first|refine bq.op aa (h:=?_)|refine bq.dV aa (h:=?_)|refine bq.skip (h:=?_)));refine bq.nil ?_;have hlen:l.length=L.length:=by rw[hl.length_eq];simp[MM.keys]
 refine SW.seq (SW.xU ?_);(repeat (first|refine bq.op aa (h:=?_)|refine bq.dV aa (h:=?_)|refine bq.skip (h:=?_)));rw[<- hlen];refine bq.o7 aa (pG 2 l (by omega) 3) (h:=?_);refine bq.nil ?_;refine SW.seq (SW.g0 jn Zm aa ?_);have gL:(Dt.sorted l).length=l.length:=(Dt.sorted_perm l).length_eq;have hse:Dt.sorted l=Dt.sorted (MM.keys L):=Dt.jV ((Dt.sorted_perm l).trans hl) (Dt.gp l);refine SW.weak id (st1:=⟨[(4,.gs 2 l.length)],[(2,.arr 37 2 l.length (((Dt.sorted l).flatMap Dt.ds).map .d)),(0,.box 107 [.mp 1]),(1,.map (au Dt.cells ov L) c)],3⟩) (aG.same (by simp) (by simp[aJ,List.lookup,SV.aC,SV.ok]) (by simp[Hp.ok,Ob.ok,SV.ax,SV.ok,SV.aW,bG]) (by simp[af])) ?_;refine SW.freeze 2 ((Dt.sorted l).flatMap Dt.ds) rfl rfl ?_;have e1:k9 2 l.length ((Dt.sorted l).flatMap Dt.ds) [(4,.gs 2 l.length)]=[(4,bN (Dt.sorted (MM.keys L)))]:=by
  rw[<- hse];simp only[k9,List.map_cons,List.map_nil,SV.iJ,if_true,bN,gL]
 show Go.Sl.SW _ _ _ _ ⟨k9 2 l.length ((Dt.sorted l).flatMap Dt.ds) [(4,.gs 2 l.length)],fM 0 1 L c,3⟩ _;rw[e1];refine SW.ret ?_;exact End.mk (fM 0 1 L c) (h3:=λ _ _ h=>h) (h4:=⟨rfl,rfl⟩) (h5:=rfl) (h6:=pH _ _ _ _ _ rfl rfl)
theorem wv {L:(MM Dt ag)}{c:Nat}(hwf:MM.wf L c)(hL:L.length<1000000000)(k:Nat)(b m:Nat)(MB:b≠m):
  aH Tryz.prog slices_SortedFunc_api_Dot.f [.fn (.func maps_Keys_map_api_Dot_api_Op_api_Dot_api_Op_1.f) [] [.ptr b 0],.fn (.func dot_Compare.f) [] []] (fM b m L c) k 0 (bN (Dt.sorted (MM.keys L))) (fM b m L c):=by
 have h:=SB.lR [b,m] (wu hwf hL) (by simp[MB]) (λ i hi=>tE L c i (by simpa using hi)) k
 simpa[SV.aN,SV.aC,eu,fM,Hp.aC,Ob.aC,cG] using h
theorem Ht (L:(MM Dt ag))(c:Nat):SB Tryz.prog maps_Keys_map_api_Dot_api_Op_api_Dot_api_Op.f [.mp 0] [(0,.map (au Dt.cells ov L) c)] 1 1 λ r F=>r= .fn (.func maps_Keys_map_api_Dot_api_Op_api_Dot_api_Op_1.f) [] [.ptr 1 0]/\F=[(1,.box 107 [.mp 0]),(0,.map (au Dt.cells ov L) c)]:=by
 refine maps_Keys_map_api_Dot_api_Op_api_Dot_api_Op.enter rfl (by simp[Hp.ok,Ob.ok,bG]) (by simp) ?_;dsimp only[maps_Keys_map_api_Dot_api_Op_api_Dot_api_Op.s,Co.M,Co.J,Co.F,Co.x,Co.S];(repeat (first|refine SW.seq ?_|refine SW.block ?_|refine SW.g0 du Zm aa ?_|refine SW.skip ?_|refine SW.exit ?_|refine SW.ret ?_|refine SW.ai rfl ?_|refine SW.an rfl ?_));exact End.mk [(1,.box 107 [.mp 0]),(0,.map (au Dt.cells ov L) c)] (h4:=⟨rfl,rfl⟩) (h6:=by simp[Hp.ok,Ob.ok,SV.ax,SV.ok,bG])
theorem Hu (L:(MM Dt ag))(c:Nat)(n k:Nat):aH Tryz.prog maps_Keys_map_api_Dot_api_Op_api_Dot_api_Op.f [.mp n] [(n,.map (au Dt.cells ov L) c)] k 1 (.fn (.func maps_Keys_map_api_Dot_api_Op_api_Dot_api_Op_1.f) [] [.ptr k 0]) [(k,.box 107 [.mp n]),(n,.map (au Dt.cells ov L) c)]:=by
 have h:=SB.lR [n] (Ht L c) (by simp) (λ i hi=>by cases i with|zero=>simp[af]|succ i=>simp at hi) k
 simpa[SV.aN,SV.aC,eu,Hp.aC,Ob.aC,cG] using h
end Go.Proofs.YtaelhkkjgfobhaaGreat
namespace Go.Proofs.YtaelhkkjgfobhaaGreat
open Go.Sl Go.Proofs
section
theorem dw.J3 {l:List ag}{S:Sh}(h:dw l S):Dt.sorted (MM.keys S.ops)=Dt.set (l.map (·.dot)):=
 Dt.iz (Dt.sq h.base.ops.wf.keys) (Dt.iA _) λ v=>by
  rw[(Dt.sorted_perm _).mem_iff,Dt.mem_set,<- MM.iu,h.base.has,oq,List.mem_map]
theorem dw.fV {l:List ag}{S:Sh}(h:dw l S):S.ops.length<=l.length:=by
 have:=h.base.ops.wf.keys.length_le_of_subset (l₂:=l.map (·.dot)) λ d hd=>by
  rw[<- MM.iu,h.base.has,oq] at hd;obtain⟨o,ho,e⟩:=hd;exact List.mem_map.2 ⟨o,ho,e⟩
 simpa[MM.keys] using this
section
attribute [local irreducible] SW RW aH SC aj ak
set_option maxHeartbeats 4000000 in
theorem Hv (S:Sh)(hwf:MM.wf S.ops S.co)(hL:S.ops.length<1000000000):SB Tryz.prog shape_Shape_Dots.f [.ptr 0 0] S.h0 7 0 λ r F=>r=bN (Dt.sorted (MM.keys S.ops))/\F=S.h0:=by
 refine shape_Shape_Dots.enter (by simp[SV.ax,SV.ok]) (S.ok (Nat.le_refl 7)) (by simp) ?_;dsimp only[shape_Shape_Dots.s,Co.M,Co.J,Co.F,Co.C,Co.T,Co.P,Co.D,Co.A,Co.S];refine SW.seq (SW.g0 dE Zm aa ?_);refine SW.seq (SW.seq (SW.g1 dE Zm aa (uR S) ?_));refine SW.an rfl (SW.skip (SW.seq ?_));have cS:∀ k,aH Tryz.prog slices_SortedFunc_api_Dot.f [.fn (.func maps_Keys_map_api_Dot_api_Op_api_Dot_api_Op_1.f) [] [.ptr 7 0],.fn (.func dot_Compare.f) [] []] [(7,.box 107 [.mp 1]),(1,.map (au Dt.cells ov S.ops) S.co)] k 0 (bN (Dt.sorted (MM.keys S.ops))) [(7,.box 107 [.mp 1]),(1,.map (au Dt.cells ov S.ops) S.co)]:=λ k=>wv hwf hL k 7 1 (by decide)
 have cK:=Hu S.ops S.co 1;refine SW.g2 dE Zm aa cK cS ?_;refine SW.ret ?_;exact End.mk S.h0 (h4:=⟨rfl,rfl⟩) (h6:=S.ok (Nat.le_refl 7))
theorem dw.Hw {l:List ag}{S:Sh}(h:dw l S)(hl:l.length<=80)(k:Nat):aH Tryz.prog shape_Shape_Dots.f [.ptr 10 0] S.lS k 0 (bN (Dt.set (l.map (·.dot)))) S.lS:=by
 have:=S.at_ (args:=[]) (Hv S h.base.ops.wf (by have:=h.fV;omega)) (λ _=>rfl) (λ _=>rfl) n10 zh k;rw[h.J3] at this;exact this
end
end
section
theorem qA {l:List ag}(hl:l.length<=80)(hd:∀ o,o∈l->o.mC/\o.cl.length<=140737488351232):∀ i,i<=l.length->0<=f_ l i/\f_ l i<=i*140737488351232/\∀ j,j<i->∀ o,l[j]? =some o->(o.cl.length:Int)<=f_ l i
 | 0,_=>⟨Int.le_refl _,by simp[f_],λ j h=>by omega⟩
 | i +1,hi=>by
  obtain⟨h1,h2,h3⟩:=qA hl hd i (by omega);obtain⟨x,hx⟩:=aX (show i<l.length by omega);obtain⟨k1,k2⟩:=hd x (List.mem_of_getElem? hx);have hn:y7 x=x.cl.length:=by unfold y7;rw[k1.eq]
  have e:f_ l (i+1)=f_ l i+(x.cl.length:Int):=by
   simp only[f_,hx,Option.map_some,Option.getD_some,hn];exact wrap_i64 _ (by omega)
  rw[e];refine⟨by omega,by omega,λ j hj o ho=> ?_⟩
  by_cases hji:j=i
  .subst hji;rw[hx] at ho;cases ho;omega
  .have:=h3 j (by omega) o ho;omega
theorem ud {l:List ag}(h:jk l=false)(hd:∀ o,o∈l->o.mC/\o.cl.length<=140737488351232):∀ o,o∈l->o.cl.length<=1048576:=λ o ho=>by
 have hl:=s_ h;unfold jk at h;simp only[Bool.or_eq_false_iff,decide_eq_false_iff_not] at h;obtain⟨i,hi,rfl⟩:=List.getElem_of_mem ho;have:=(qA hl hd l.length (Nat.le_refl _)).2.2 i hi _ (List.getElem?_eq_getElem hi);rw[show min l.length 100=l.length by omega] at h;omega
end
end Go.Proofs.YtaelhkkjgfobhaaGreat
