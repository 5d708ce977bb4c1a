/-
 Shapes: what is well-formed names what it needs (plain).
-/
import Derived.Test.YtaelhkkjgfobhaaGreatUE
set_option linter.unusedSectionVars false
set_option linter.unusedVariables false
set_option linter.unusedSimpArgs false
namespace Go.Proofs.YtaelhkkjgfobhaaGreat
open Go.Sl Go.Proofs
section
section
variable {l:List ag} {o:ag} (hw:kf l o=0)
include hw
theorem vq (hk:o.kind≠0):∃ c,MM.get (bh l).at_ o.aM=some c/\c.aK=o.aK/\c.hold=o.who/\oq c o.kind=false:=by
 unfold kf yB at hw;obtain ⟨_,_,h3,_,_⟩:=vi.1 hw;obtain ⟨e1,e2,e3⟩:=h3 hk;obtain ⟨c,a,h1,_,_,_,h5⟩:=rJ.1 e1;rw [h1] at e2 e3;exact ⟨c,h1,h5,Int.ofNat_inj.1 e2,e3⟩
theorem Di:Dc l (bh l).at_ (bh l).made o (lG (bh l).at_ o.aM o.at_ (m_ (bh l).at_ o.at_))=true:=by
 unfold kf yB at hw;exact (vi.1 hw).2.2.2.2
theorem zW (hk:o.kind=2):lG (bh l).at_ o.aM o.at_ (m_ (bh l).at_ o.at_)=true:=by
 have:=Di hw;unfold Dc at this;rw [if_pos hk,Bool.and_eq_true] at this;exact this.2
end
end
section
end
section
section
attribute [local irreducible] SW RW aJ SC ai an
theorem F8 (S:Sh):SB Tryz.prog shape_Shape_Tree.f [.ptr 0 0] S.h0 7 0 λ r F=>r= .ptr 4 0/\F=S.h0:=by
 refine shape_Shape_Tree.enter (by simp [SV.ay,SV.ok]) (S.ok (Nat.le_refl 7)) (by simp) ?_;dsimp only [shape_Shape_Tree.s,Co.M,Co.J,Co.F,Co.T,Co.P,Co.D,Co.A,Co.S];(repeat (first | refine SW.seq ?_ | refine SW.block ?_ | refine SW.g1 [0,2,4] Zm af (rE S) ?_ | refine SW.skip ?_ | refine SW.exit ?_ | refine SW.ret ?_ | refine SW.aj rfl ?_ | refine SW.au rfl ?_));exact End.mk S.h0 (h4:=⟨rfl,rfl⟩) (h6:=S.ok (Nat.le_refl 7))
theorem bS.IV (S:Sh)(k:Nat):aJ Tryz.prog shape_Shape_Tree.f [.ptr 10 0] S.j5 k 0 (.ptr 2 0) S.j5:=by
 have:=SB.nM n10.nl (F8 S) (by decide) (λ i hi=>S.Fj i hi) k;rw [S.Fi n10 k] at this;exact this
end
end
section
end
section
section
attribute [local irreducible] SW RW aJ SC ai an j9
variable (l:List ag) (hl:l.length<1000000000)
include hl
variable (hr:∀ x,x∈l->x.bp<256)
include hr
end
section
attribute [local irreducible] SW RW aJ SC ai an
end
section
attribute [local irreducible] SW RW aJ SC ai an j9
variable (l:List ag) (hl:l.length<1000000000) (hr:∀ x,x∈l->x.bp<256)
include hl hr
end
end
end Go.Proofs.YtaelhkkjgfobhaaGreat
namespace Go.Proofs.YtaelhkkjgfobhaaGreat
open Go.Sl Go.Proofs
section
section
attribute [local irreducible] SW RW aJ SC ai an
variable (l:List ag) (hl:l.length<1000000000) (hr:∀ x,x∈l->x.bp<256)
include hl hr
end
end
section
theorem l7 {l:List Cm}{i:Nat}{x:Cm}(h:l[i]? =some x):List.take 2 (List.drop (i*4) (List.map SV.d (l.flatMap Cm.ds)))=x.line.cells:=by
 have:=uj h;rw [<- x.s0,<- this,List.take_take];rfl
theorem Ba {l:List Cm}{i:Nat}{x:Cm}(h:l[i]? =some x):List.take 2 (List.drop (i*4+2) (List.map SV.d (l.flatMap Cm.ds)))=x.jD.cells:=by
 have:=uj h;rw [<- x.s2,<- this,List.drop_take,List.take_take,List.drop_drop];rfl
section
attribute [local irreducible] SW RW aJ SC ai an
variable (l:List ag) (hl:l.length<1000000000) (hr:∀ x,x∈l->x.bp<256)
include hl hr
end
end
section
section
attribute [local irreducible] SW RW aJ SC ai an
variable (l:List ag) (hl:l.length<=80) (hd:∀ x,x∈l->x.bp<256/\x.mW/\x.dot.wf)
include hl hd
end
end
end Go.Proofs.YtaelhkkjgfobhaaGreat
namespace Go.Proofs.YtaelhkkjgfobhaaGreat
open Go.Sl Go.Proofs
section
attribute [local irreducible] SW RW aJ SC ai an
structure F9 {σ:Type}(Fh:σ->Hp)(Step:σ->Dt->σ->Prop)(go:σ->Bool)(aP b m k:Nat)(L:(MM Dt ag))(s0 s:σ)(xs:(MM Dt ag))(kk:Nat):Prop where
 p1:lK Step s0 (MM.keys xs) s
 p2:go s=true
 p3:∀ x,x∈xs->x∈L
 p4:(xs.map (·.1)).Nodup
 p5:k+1<=kk
 p6:kk<=k+1+xs.length*(1+aP)
 p7:(Fh s).ok (λ n=>decide (n<kk))=true
 p8:lk (Fh s) b=none
 p9:lk (Fh s) m=none
 Df:lk (Fh s) k=none
set_option maxHeartbeats 1000000 in
theorem Dj {σ:Type}{Fh:σ->Hp}{Step:σ->Dt->σ->Prop}{go:σ->Bool}{aP y b m k c:Nat}{L:(MM Dt ag)}(hwf:MM.wf L c)(s0:σ)(hy:pQ Tryz.prog y (λ x:Dt=> .agg x.cells) aP Fh Step go s0 L.length)(h0:(Fh s0).ok (λ n=>decide (n<k))=true)
  (hb:b<k) (hm:m<k) (IJ:b≠m) (hdb:lk (Fh s0) b=none) (Nf:lk (Fh s0) m=none) (vV:go s0=true):
  SB Tryz.prog maps_Keys_map_api_Dot_api_Op_api_Dot_api_Op_1.f [.yl y,.ptr b 0] ((b,.box 107 [.mp m])::(m,.map (ah Dt.cells ov L) c)::Fh s0) k (1+L.length*(1+aP))
   λ r F=>r= .eu []/\∃ (xs:(MM Dt ag)) (s':σ),lK Step s0 (MM.keys xs) s'/\(∀ x,x∈xs->x∈L)/\(xs.map (·.1)).Nodup/\(go s'=true->∀ x,x∈L->x∈xs)/\(lk (Fh s') b=none/\lk (Fh s') m=none)/\F=(b,.box 107 [.mp m])::(m,.map (ah Dt.cells ov L) c)::Fh s':=by
 have hyk:y<k:=by
  obtain ⟨ob,ho⟩:=Option.ne_none_iff_exists'.1 (hy.uT s0)
  simpa using (Hp.eF h0 ho).1
 refine maps_Keys_map_api_Dot_api_Op_api_Dot_api_Op_1.enter (by simp [SV.ok,SV.ay];omega) (by simp only [Hp.ok,List.all_cons,Ob.ok,SV.ay,SV.ok,a_,Bool.and_true,Bool.and_eq_true,decide_eq_true_eq];exact ⟨⟨hb,hm⟩,hm,h0⟩) (by simp) ?_;dsimp only [maps_Keys_map_api_Dot_api_Op_api_Dot_api_Op_1.s,Co.M,Co.J,Co.F,Co.b8,Co.aB,Co.T,Co.K,Co.E,Co.W,Co.O,Co.S];have f1:=b_ (show m≠b by omega);have f2:=b_ (show k≠b by omega);have f3:=b_ (show k≠m by omega);have f4:List.lookup k (Fh s0)=none:=by
  cases hh:lk (Fh s0) k with
  | none=>exact hh
  | some ob=>have:=(Hp.eF h0 hh).1;simp at this
 refine SW.seq ?_;refine SW.g0 [0,1,3,5,7,13] Zm (Zq f1 (Zq f2 (Zq f3 f4))) ?_;refine SW.block (SW.pR (es:=λ _=>ah Dt.cells ov L) (c:=λ _=>c) (ud:=λ _=>k) (nm:=λ _=>m) (since:=λ _=>c) (AN:=λ _=>c)
  (α:={i:σ×(MM Dt ag)×Nat // F9 Fh Step go aP b m k L s0 i.1 i.2.1 i.2.2})
  (λ i=>⟨[(5,.it k),(0,.yl y),(1,.ptr b 0)],(k,.iter (some m) c (i.1.2.1.map (·.1)) c)::(b,.box 107 [.mp m])::(m,.map (ah Dt.cells ov L) c)::Fh i.1.1,i.1.2.2⟩)
  (λ i=>gw (ah Dt.cells ov L) (i.1.2.1.map (·.1))) ⟨(s0,[],k+1),⟨.nil,vV,by simp,by simp,by simp,by simp,Hp.bw (by simp) h0,hdb,Nf,f4⟩⟩ id (seen:=λ i=>i.1.2.1.map (·.1)) ?_ (λ i=>by simp [List.lookup]) (λ i=>by simp [aa]) (λ i=> ?_) (λ i=>by omega) (λ i e he=> ?_) (λ i=>Nat.le_refl _) (λ i hall=> ?_) (λ i e he hs=> ?_))
 .refine aI.same (by simp) (by simp [aL,mB,List.lookup,SV.aA,SV.ok];omega) ?_ ?_
  .simp only [Hp.ok,List.all_cons,Ob.ok,SV.ay,SV.ok,a_,Bool.and_true,Bool.and_eq_true,decide_eq_true_eq]
   exact ⟨⟨by omega,by omega⟩,⟨by omega,by omega⟩,by omega,Hp.bw (by simp) h0⟩
  .intro x hx
   simp only [List.mem_cons] at hx;rcases hx with rfl | rfl | rfl | hx
   .simp [aa]
   .simp [aa,f1,f2,f3]
   .simp [aa,f1,f2,f3]
   .have:=hy.nd s0 x hx
    have h1:x.1≠k:=λ e=>by rw [e] at this;rw [show lk (Fh s0) k=none from f4] at this;cases this
    have h2:x.1≠b:=λ e=>by rw [e,hdb] at this;cases this
    have h3:x.1≠m:=λ e=>by rw [e,Nf] at this;cases this
    simp [aa,h1,h2,h3,this]
 .simp [aa,f1,f2,f3]
 .obtain ⟨x,hx,rfl⟩:=eV he
  exact hwf.old x hx
 .obtain ⟨⟨s,xs,kk⟩,hi⟩:=i
  have hi:F9 Fh Step go aP b m k L s0 s xs kk:=hi;have hi':=hi;obtain ⟨p1,p2,p3,p4,p5,p6,p7,p8,p9,Df⟩:=hi';dsimp only at*;have hsub:xs.length<=L.length:=by
   have:=p4.length_le_of_subset (l₂:=L.map (·.1)) (λ t ht=>by
    obtain ⟨x,hx,rfl⟩:=List.mem_map.1 ht;exact List.mem_map.2 ⟨x,p3 x hx,rfl⟩)
   simpa using this
  have hmul:xs.length*(1+aP)<=L.length*(1+aP):=Nat.mul_le_mul_right _ hsub;have hhp:∀ kx,kk<=kx->Hp.ok (λ n=>decide (n<kx)) ((b,Ob.box 107 [.mp m])::(m,.map (ah Dt.cells ov L) c)::Fh s)=true:=λ kx hkx=>by
   simp only [Hp.ok,List.all_cons,Ob.ok,SV.ay,SV.ok,a_,Bool.and_true,Bool.and_eq_true,decide_eq_true_eq];exact ⟨⟨by omega,by omega⟩,by omega,Hp.bw hkx p7⟩
  refine ⟨⟨[],(b,.box 107 [.mp m])::(m,.map (ah Dt.cells ov L) c)::Fh s,k+(1+L.length*(1+aP))⟩,id,aI.same (Nat.le_add_right _ _) trivial (hhp _ (by show kk<=k+(1+L.length*(1+aP));omega)) ?_,?_⟩
  .intro x hx
   simp only [List.mem_cons] at hx;rcases hx with rfl | rfl | hx
   .simp [aa,f1,f2,f3]
   .simp [aa,f1,f2,f3]
   .have:=hy.nd s x hx
    have h1:x.1≠k:=λ e=>by rw [e,Df] at this;cases this
    have h2:x.1≠b:=λ e=>by rw [e,p8] at this;cases this
    have h3:x.1≠m:=λ e=>by rw [e,p9] at this;cases this
    simp [aa,h1,h2,h3,this]
  .rw [if_pos rfl]
   refine End.mk ((b,.box 107 [.mp m])::(m,.map (ah Dt.cells ov L) c)::Fh s) (h3:=λ _ _ h=>h) (h4:=⟨rfl,xs,s,p1,p3,p4,λ _ x hx=> ?_,⟨p8,p9⟩,rfl⟩) (h6:=hhp _ (by omega)) (h7:=Nat.le_refl _);have:=hall _ (List.mem_map.2 ⟨x,hx,rfl⟩);simp only [List.contains_iff_mem] at this;obtain ⟨z,hz,e⟩:=List.mem_map.1 this;have:z=x:=MM.ry hwf.times (p3 z hz) hx e;rw [<- this];exact hz
 .obtain ⟨⟨s,xs,kk⟩,hi⟩:=i
  have hi:F9 Fh Step go aP b m k L s0 s xs kk:=hi;have hi':=hi;obtain ⟨p1,p2,p3,p4,p5,p6,p7,p8,p9,Df⟩:=hi';dsimp only at*;obtain ⟨x,hx,rfl⟩:=eV he;dsimp only at hs;have g1:=b_ (show kk≠k by omega);have g2:=b_ (show kk≠b by omega);have g3:=b_ (show kk≠m by omega);have g4:List.lookup kk (Fh s)=none:=Hp.out p7 (Nat.le_refl _);have g5:(xs.map (·.1)++[x.1]).getLast? =some x.1:=by simp
  have g6:=kM (kc:=Dt.cells) (vs:=ov) hwf.times hx;rw [iS];dsimp only;refine SW.block (SW.seq (SW.g0 [0,1,3,5,7,13] Zm (Zq f1 (Zq f2 (Zq f3 (Zq g1 (Zq g2 (Zq g3 (Zq g4 (Zq g5 g6)))))))) ?_));refine SW.seq (SW.tP ?_);(repeat (first | refine aV.op (Zq g1 (Zq g2 g3)) (h:= ?_) | refine aV.dQ (Zq g1 (Zq g2 g3)) (h:= ?_) | refine aV.skip (h:= ?_)));have hokk:(Fh s).ok (λ n=>decide (n<kk+1))=true:=Hp.bw (by omega) p7;have ny:∀ s',(∀ n,lk (Fh s') n≠none->lk (Fh s) n≠none\/(kk+1<=n/\n<kk+1+aP))->lk (Fh s') b=none/\lk (Fh s') m=none/\lk (Fh s') k=none:=λ s' h=>by
   refine ⟨?_,?_,?_⟩
   .exact Classical.byContradiction λ hn=>(h b hn).elim (λ h=>h p8) (λ h=>by omega)
   .exact Classical.byContradiction λ hn=>(h m hn).elim (λ h=>h p9) (λ h=>by omega)
   .exact Classical.byContradiction λ hn=>(h k hn).elim (λ h=>h Df) (λ h=>by omega)
  have hxs:x∉xs:=λ h=>by
   have:(xs.map (·.1)).contains x.1=true:=by simp only [List.contains_iff_mem];exact List.mem_map.2 ⟨x,h,rfl⟩
   rw [this] at hs;cases hs
  have hxt:x.1∉xs.map (·.1):=λ h=>by
   have:(xs.map (·.1)).contains x.1=true:=by simpa only [List.contains_iff_mem] using h
   rw [this] at hs;cases hs
  have q3:∀ z,z∈xs++[x]->z∈L:=λ z hz=>by
   rcases List.mem_append.1 hz with hz | hz
   .exact p3 z hz
   .rw [List.mem_singleton.1 hz];exact hx
  have q4:((xs++[x]).map (·.1)).Nodup:=by
   rw [List.map_append,List.nodup_append];refine ⟨p4,by simp,λ a ha b' hb'=> ?_⟩;simp only [List.map_cons,List.map_nil,List.mem_singleton] at hb';intro e;exact hxt (by rw [<- hb',<- e];exact ha)
  have hsub2:(xs++[x]).length<=L.length:=by
   have:=q4.length_le_of_subset (l₂:=L.map (·.1)) (λ t ht=>by
    obtain ⟨z,hz,rfl⟩:=List.mem_map.1 ht;exact List.mem_map.2 ⟨z,q3 z hz,rfl⟩)
   simpa using this
  have hlt:(MM.keys xs).length<L.length:=by
   simp only [List.length_append,List.length_singleton] at hsub2;simp only [MM.keys,List.length_map];omega
  have hsub:HSub (Fh s) ((kk,Ob.box 37 x.2.1.cells)::(k,Ob.iter (some m) c (xs.map (·.1)++[x.1]) c)::(b,Ob.box 107 [.mp m])::(m,.map (ah Dt.cells ov L) c)::Fh s):=λ n ob hn=>by
   have h1:n≠k:=λ e=>by rw [e,Df] at hn;cases hn
   have h2:n≠b:=λ e=>by rw [e,p8] at hn;cases hn
   have h3:n≠m:=λ e=>by rw [e,p9] at hn;cases hn
   have h4:n≠kk:=λ e=>by rw [e,show lk (Fh s) kk=none from g4] at hn;cases hn
   simp [aa,h1,h2,h3,h4,hn]
  refine aV.yield (by simp only [ev,List.lookup,Nat.reduceBEq] <;> rfl) (by simp only [ev,qu,List.lookup,Nat.reduceBEq] <;> rfl) (hy.uT s) (hy.call s _ x.2.1 (kk+1) p1 hlt hokk p2) hsub ?_;rintro v F' ⟨s',hstep,rfl,rfl,hok',hnm⟩;obtain ⟨n1,n2,n3⟩:=ny s' hnm;rw [jb];show aV Tryz.prog 14 k _ ⟨(12,.d (.bool (go s')))::_,_,_⟩ _;(repeat (first | refine aV.op af (h:= ?_) | refine aV.dQ af (h:= ?_) | refine aV.skip (h:= ?_)));refine aV.nil ?_;have hlk:=h_ (ro:=false) hsub (F':=Fh s') (λ h=>by cases h);have hhp:∀ kx,kk+1+aP<=kx->Hp.ok (λ n=>decide (n<kx)) ((b,Ob.box 107 [.mp m])::(m,.map (ah Dt.cells ov L) c)::Fh s')=true:=λ kx hkx=>by
   simp only [Hp.ok,List.all_cons,Ob.ok,SV.ay,SV.ok,a_,Bool.and_true,Bool.and_eq_true,decide_eq_true_eq];exact ⟨⟨by omega,by omega⟩,by omega,Hp.bw hkx hok'⟩
  have hin:∀ z,z∈((b,Ob.box 107 [.mp m])::(m,.map (ah Dt.cells ov L) c)::Fh s')->Ay (lk ((kk,Ob.box 37 x.2.1.cells)::(k,Ob.iter (some m) c (xs.map (·.1)++[x.1]) c)::(b,Ob.box 107 [.mp m])::(m,.map (ah Dt.cells ov L) c)::Fh s)) (lk (Fh s)) (lk (Fh s')) z.1=some z.2:=by
   intro z hz;simp only [List.mem_cons] at hz;rcases hz with rfl | rfl | hz
   .rw [dz p8 n1];simp [aa,f1,f2,f3,g1,g2,g3]
   .rw [dz p9 n2];simp [aa,f1,f2,f3,g1,g2,g3]
   .have:=hy.nd s' z hz
    rw [eM (.inr (by rw [this];simp)),this]
  have q1:lK Step s0 (MM.keys (xs++[x])) s':=by
   have:=lK.snoc p1 hstep
   simpa [MM.keys] using this
  have q6:kk+1+aP<=k+1+(xs++[x]).length*(1+aP):=by
   have e:(xs++[x]).length*(1+aP)=xs.length*(1+aP)+(1+aP):=by rw [List.length_append,List.length_singleton,Nat.add_mul,Nat.one_mul]
   rw [e];omega
  have hmul:(xs++[x]).length*(1+aP)<=L.length*(1+aP):=Nat.mul_le_mul_right _ hsub2;cases hg:go s' with
  | true=>
   refine SW.au (by simp [ev,List.lookup,hg]) (SW.skip ?_);refine ⟨⟨(s',xs++[x],kk+1+aP),q1,hg,q3,q4,by show k+1<=kk+1+aP;omega,q6,hok',n1,n2,n3⟩,id,?_,aI.same (by show k<=kk+1+aP;omega) (by simp [aL,List.lookup,SV.aA,SV.ok];omega) ?_ ?_⟩
   .have:=kO he hs
    simpa using this
   .have:=hhp (kk+1+aP) (Nat.le_refl _)
    simp only [Hp.ok,List.all_cons,Ob.ok,Bool.and_eq_true,decide_eq_true_eq] at this ⊢;exact ⟨⟨by omega,by omega⟩,this⟩
   .intro z hz
    rcases List.mem_cons.1 hz with rfl | hz
    .have:lk (bR false ((kk,Ob.box 37 x.2.1.cells)::(k,Ob.iter (some m) c (xs.map (·.1)++[x.1]) c)::(b,Ob.box 107 [.mp m])::(m,.map (ah Dt.cells ov L) c)::Fh s) (Fh s) (Fh s')) k=some (.iter (some m) c (xs.map (·.1)++[x.1]) c):=by
      rw [hlk,dz Df n3];simp [aa,g1]
     simpa [bR] using this
    .have:lk (bR false ((kk,Ob.box 37 x.2.1.cells)::(k,Ob.iter (some m) c (xs.map (·.1)++[x.1]) c)::(b,Ob.box 107 [.mp m])::(m,.map (ah Dt.cells ov L) c)::Fh s) (Fh s) (Fh s')) z.1=some z.2:=by
      rw [hlk];exact hin z hz
     exact this
  | false=>
   refine SW.aj (by simp [ev,List.lookup,hg]) ?_;refine SW.weak id (st1:=⟨[],(b,.box 107 [.mp m])::(m,.map (ah Dt.cells ov L) c)::Fh s',k+(1+L.length*(1+aP))⟩) (aI.same (Nat.le_add_right _ _) trivial (hhp _ (by show kk+1+aP<=k+(1+L.length*(1+aP));omega)) λ z hz=> ?_) (SW.ret ?_)
   .have:lk (bR false ((kk,Ob.box 37 x.2.1.cells)::(k,Ob.iter (some m) c (xs.map (·.1)++[x.1]) c)::(b,Ob.box 107 [.mp m])::(m,.map (ah Dt.cells ov L) c)::Fh s) (Fh s) (Fh s')) z.1=some z.2:=by
     rw [hlk];exact hin z hz
    exact this
   .refine End.mk ((b,.box 107 [.mp m])::(m,.map (ah Dt.cells ov L) c)::Fh s') (h3:=λ _ _ h=>h) (h4:=⟨rfl,xs++[x],s',q1,q3,q4,λ (h:go s'=true)=>absurd h (by rw [hg];decide),⟨n1,n2⟩,rfl⟩) (h6:=hhp _ (by omega)) (h7:=Nat.le_refl _)
end
section
attribute [local irreducible] SW RW aJ SC ai an
theorem v8 {L xs:(MM Dt ag)}{c:Nat}(hwf:MM.wf L c)(h1:∀ x,x∈xs->x∈L)(h2:(xs.map (·.1)).Nodup)(h3:∀ x,x∈L->x∈xs):(MM.keys xs).Perm (MM.keys L):=
 ((List.perm_ext_iff_of_nodup (jc _ h2) (jc _ hwf.times)).2 λ a=>⟨h1 a,h3 a⟩).map _
def dP (b m:Nat)(L:(MM Dt ag))(c:Nat):Hp:=[(b,.box 107 [.mp m]),(m,.map (ah Dt.cells ov L) c)]
set_option maxHeartbeats 1000000 in
theorem v_ {L:(MM Dt ag)}{c:Nat}(hwf:MM.wf L c)(hL:L.length<1000000000):
  SB Tryz.prog slices_AppendSeq_Lapi_Dot_api_Dot.f [.d .aN,.fn (.func maps_Keys_map_api_Dot_api_Op_api_Dot_api_Op_1.f) [] [.ptr 0 0]] (dP 0 1 L c) 2 1
   λ r F=>r= .gs 2 L.length/\∃ l:List Dt,l.Perm (MM.keys L)/\F=(2,.arr 37 2 L.length ((l.flatMap Dt.ds).map .d))::dP 0 1 L c:=by
 refine slices_AppendSeq_Lapi_Dot_api_Dot.enter (by simp [SV.ok,SV.ay]) (by simp [dP,Hp.ok,Ob.ok,SV.ay,SV.ok,a_]) (by simp) ?_;dsimp only [slices_AppendSeq_Lapi_Dot_api_Dot.s,Co.M,Co.J,Co.F,Co.b8,Co.aB,Co.T,Co.K,Co.x,Co.W,Co.S];refine SW.oD 0 37 2 rfl ?_;simp only [dP];refine SW.seq (SW.g0 [0,1,2,4,5,6,7] Zm af ?_);refine SW.seq (SW.seq (SW.g0 [0,1,2,4,5,6,7] Zm af ?_));refine SW.block (SW.qZ (nk:=1+L.length*(1+2)) [2] [.ptr 3 0] rfl ⟨rfl,trivial⟩ λ ca cb hca hcb=> ?_)
 let s0:Dg 4 3:=⟨[],2,by decide,by decide⟩
 have hy:=vn (y:=4) (bx:=3) (B:=L.length) (by decide) s0 (by simp [s0];omega) hca hcb;have hsb:=Dj (y:=4) (b:=0) (m:=1) (k:=5) hwf s0 hy (by simp [eL,s0,Hp.ok,Ob.ok,SV.ay,SV.ok]) (by decide) (by decide) (by decide) (by simp [eL,s0,aa,bD]) (by simp [eL,s0,aa,bD]) rfl;have hsubF:HSub ((0,.box 107 [.mp 1])::(1,.map (ah Dt.cells ov L) c)::eL 4 3 13 [2] [7] ca cb s0) ((4,.oU 13 [2] [.ptr 3 0] [7] ca cb .ready none)::[(3,.box 31 [.gs 2 0]),(2,.arr 37 2 0 []),(0,.box 107 [.mp 1]),(1,.map (ah Dt.cells ov L) c)]):=by
  intro n ob hn
  match n with
  | 0 | 1 | 2 | 3 | 4=>simpa [eL,s0,aa] using hn
  | n+5=>simp [eL,s0,aa,bD] at hn
 have hsc:=(hsb.here (λ n=>decide (n<5)) (λ n hn=> ?_) (by simp [SV.ay,SV.ok]) (by simp [eL,s0,Hp.ok,Ob.ok,SV.ay,SV.ok,a_]) ?_).frame hsubF
 .refine hsc.mono ?_
  rintro r F' ⟨F1,⟨rfl,xs,s',hon,hin,ny,hall,⟨hn0,hn1⟩,rfl⟩,rfl⟩;have hl:=zR hon;have hperm:=v8 hwf hin ny (hall rfl);obtain ⟨l,rn,hr1,hr2⟩:=s';have hl:l=MM.keys xs:=by simpa [s0] using hl
  have hn0:rn≠0:=λ e=>by simp [eL,e,aa] at hn0
  have hn1:rn≠1:=λ e=>by simp [eL,e,aa] at hn1
  have hll:l.length=L.length:=by rw [hl,hperm.length_eq];simp [MM.keys]
  rw [<- hl] at hperm;have hlk:=h_ (ro:=false) (h:=(4,.oU 13 [2] [.ptr 3 0] [7] ca cb .ready none)::[(3,.box 31 [.gs 2 0]),(2,.arr 37 2 0 []),(0,.box 107 [.mp 1]),(1,.map (ah Dt.cells ov L) c)]) (F:=(0,.box 107 [.mp 1])::(1,.map (ah Dt.cells ov L) c)::eL 4 3 13 [2] [7] ca cb s0) (F':=(0,.box 107 [.mp 1])::(1,.map (ah Dt.cells ov L) c)::eL 4 3 13 [2] [7] ca cb ⟨l,rn,hr1,hr2⟩) hsubF (λ h=>by cases h);generalize bR false _ _ _=G at hlk;have hG:∀ n ob,lk ((0,Ob.box 107 [.mp 1])::(1,.map (ah Dt.cells ov L) c)::eL 4 3 13 [2] [7] ca cb ⟨l,rn,hr1,hr2⟩) n=some ob->lk G n=some ob:=λ n ob h=>by
   rw [hlk,eM (.inr (by rw [h];simp)),h]
  refine ⟨none,hG 4 _ (by simp [eL,aa,lV]),?_⟩;refine SW.weak (λ n=>if n=2 then rn else n) (st1:=⟨[(2,.ptr 3 0)],[(3,.box 31 [.gs 2 L.length]),(2,.arr 37 2 L.length ((l.flatMap Dt.ds).map .d)),(0,.box 107 [.mp 1]),(1,.map (ah Dt.cells ov L) c)],6⟩) ?_ ?_
  .have q3:=hG 3 (.box 31 [.gs rn l.length]) (by simp [eL,aa])
   have q2:=hG rn (.arr 37 2 l.length ((l.flatMap Dt.ds).map .d)) (by simp [eL,aa,hn0,hn1,hr1,hr2]);have q0:=hG 0 (.box 107 [.mp 1]) (by simp [aa]);have q1:=hG 1 (.map (ah Dt.cells ov L) c) (by simp [aa]);rw [hll] at q3 q2;refine ⟨by show 2<=6;omega,λ n hn=>if_neg (by omega),?_,?_,?_⟩
   .simp [aL,List.lookup,SV.aA,SV.ok]
   .simp [uK,dg,Ob.aA,SV.aQ,SV.aA,SV.eE,SV.bg,Ob.ok,SV.ay,SV.ok,q3,q2,q0,q1,hr1,bA,a_]
   .intro a ha b hb e
    simp only [List.map_cons,List.map_nil,List.mem_cons,List.not_mem_nil,or_false] at ha hb;rcases ha with rfl | rfl | rfl | rfl <;> rcases hb with rfl | rfl | rfl | rfl <;> simp at e <;> first | rfl | omega
  ·(repeat (first | refine SW.seq ?_ | refine SW.block ?_ | refine SW.g0 [0,1,2,4,5,6,7] Zm af ?_ | refine SW.skip ?_ | refine SW.exit ?_ | refine SW.ret ?_ | refine SW.aj rfl ?_ | refine SW.au rfl ?_))
   exact End.mk ((2,.arr 37 2 L.length ((l.flatMap Dt.ds).map .d))::dP 0 1 L c) (h4:=⟨rfl,l,hperm,rfl⟩) (h6:=by simp [dP,Hp.ok,Ob.ok,SV.ay,SV.ok,SV.bg,a_])
 .match n,hn with
  | 0,_ | 1,_ | 2,_ | 3,_ | 4,_=>simp [eL,s0,aa]
  | n +5,h=>
    have:n+5<5:=by simpa using h
    omega
 .rintro r F' _ h1 h2
  refine ⟨SV.eW (λ n hn=> ?_) _ h1,Hp.dH (λ n hn=> ?_) h2⟩ <;> (simp at hn ⊢;omega)
end
end Go.Proofs.YtaelhkkjgfobhaaGreat
namespace Go.Proofs.YtaelhkkjgfobhaaGreat
open Go.Sl Go.Proofs Go.Sort
attribute [local irreducible] SW RW aJ SC ai an
theorem pZ (L:(MM Dt ag))(c n:Nat)(h:decide (n<2)=true):lk (dP 0 1 L c) n≠none:=by
 match n,h with
 | 0,_ | 1,_=>simp [dP,aa]
 | n +2,h=>
   have:n+2<2:=by simpa using h
   omega
theorem ni (q:Nat->Bool)(b m:Nat)(L:(MM Dt ag))(c:Nat)(hb:q b=true)(hm:q m=true):(dP b m L c).ok q=true:=by
 simp [dP,Hp.ok,Ob.ok,SV.ay,SV.ok,a_,hb,hm]
theorem we {L:(MM Dt ag)}{c:Nat}(hwf:MM.wf L c)(hL:L.length<1000000000):
  SC Tryz.prog slices_AppendSeq_Lapi_Dot_api_Dot.f [.d .aN,.fn (.func maps_Keys_map_api_Dot_api_Op_api_Dot_api_Op_1.f) [] [.ptr 0 0]] (dP 0 1 L c) 2 1
   λ r F=>r= .gs 2 L.length/\∃ l:List Dt,l.Perm (MM.keys L)/\F=(2,.arr 37 2 L.length ((l.flatMap Dt.ds).map .d))::dP 0 1 L c:=
 (v_ hwf hL).here (λ n=>decide (n<2)) (pZ L c) (by simp [SV.ay,SV.ok]) (ni _ _ _ _ _ rfl rfl) λ r F' _ h1 h2=>⟨SV.eW (λ n hn=>by simp at hn ⊢;omega) _ h1,Hp.dH (λ n hn=>by simp at hn ⊢;omega) h2⟩
theorem zX {L:(MM Dt ag)}{c:Nat}(hwf:MM.wf L c)(hL:L.length<1000000000):
  SB Tryz.prog slices_Collect_api_Dot.f [.fn (.func maps_Keys_map_api_Dot_api_Op_api_Dot_api_Op_1.f) [] [.ptr 0 0]] (dP 0 1 L c) 2 1
   λ r F=>r= .gs 2 L.length/\∃ l:List Dt,l.Perm (MM.keys L)/\F=(2,.arr 37 2 L.length ((l.flatMap Dt.ds).map .d))::dP 0 1 L c:=by
 refine slices_Collect_api_Dot.enter (by simp [SV.ok,SV.ay]) (ni _ _ _ _ _ rfl rfl) (by simp) ?_;dsimp only [slices_Collect_api_Dot.s,Co.M,Co.J,Co.F,Co.C,Co.S];refine SW.seq (SW.g0 [0,2] Zm af ?_);refine SW.seq (SW.tP ?_);(repeat (first | refine aV.op af (h:= ?_) | refine aV.dQ af (h:= ?_) | refine aV.skip (h:= ?_)));refine aV.bC (we hwf hL) (λ _ _ h=>h) (h:= ?_);rintro v F' ⟨rfl,l,hl,rfl⟩;simp only [bR,cg,cq,gh,gf,cE,lk,List.lookup,Nat.reduceBEq,BEq.rfl,beq_self_eq_true,if_true,if_false,reduceIte,Nat.reduceEqDiff,Bool.false_eq_true,Option.isSome_some,Option.isSome_none,Nat.reduceAdd,dP];(repeat (first | refine aV.op af (h:= ?_) | refine aV.dQ af (h:= ?_) | refine aV.skip (h:= ?_)));refine aV.nil (SW.ret ?_);exact End.mk ((2,.arr 37 2 L.length ((l.flatMap Dt.ds).map .d))::dP 0 1 L c) (h4:=⟨rfl,l,hl,rfl⟩) (h6:=by simp [dP,Hp.ok,Ob.ok,SV.ay,SV.ok,SV.bg,a_])
theorem tF {L:(MM Dt ag)}{c:Nat}(hwf:MM.wf L c)(hL:L.length<1000000000):
  SC Tryz.prog slices_Collect_api_Dot.f [.fn (.func maps_Keys_map_api_Dot_api_Op_api_Dot_api_Op_1.f) [] [.ptr 0 0]] (dP 0 1 L c) 2 1
   λ r F=>r= .gs 2 L.length/\∃ l:List Dt,l.Perm (MM.keys L)/\F=(2,.arr 37 2 L.length ((l.flatMap Dt.ds).map .d))::dP 0 1 L c:=
 (zX hwf hL).here (λ n=>decide (n<2)) (pZ L c) (by simp [SV.ay,SV.ok]) (ni _ _ _ _ _ rfl rfl) λ r F' _ h1 h2=>⟨SV.eW (λ n hn=>by simp at hn ⊢;omega) _ h1,Hp.dH (λ n hn=>by simp at hn ⊢;omega) h2⟩
theorem vr {L:(MM Dt ag)}{c:Nat}(hwf:MM.wf L c)(hL:L.length<1000000000):
  SB Tryz.prog slices_SortedFunc_api_Dot.f [.fn (.func maps_Keys_map_api_Dot_api_Op_api_Dot_api_Op_1.f) [] [.ptr 0 0],.fn (.func dot_Compare.f) [] []] (dP 0 1 L c) 2 0
   λ r F=>r=bq (Dt.sorted (MM.keys L))/\F=dP 0 1 L c:=by
 refine slices_SortedFunc_api_Dot.enter (by simp [SV.ok,SV.ay]) (ni _ _ _ _ _ rfl rfl) (by simp) ?_;dsimp only [slices_SortedFunc_api_Dot.s,Co.M,Co.J,Co.F,Co.P,Co.Q,Co.S];refine SW.seq (SW.g0 [0,1,4,5] Zm af ?_);refine SW.seq (SW.tP ?_);(repeat (first | refine aV.op af (h:= ?_) | refine aV.dQ af (h:= ?_) | refine aV.skip (h:= ?_)));refine aV.bC (tF hwf hL) (λ _ _ h=>h) (h:= ?_);rintro v F' ⟨rfl,l,hl,rfl⟩;simp only [bR,cg,cq,gh,gf,cE,lk,List.lookup,Nat.reduceBEq,BEq.rfl,beq_self_eq_true,if_true,if_false,reduceIte,Nat.reduceEqDiff,Bool.false_eq_true,Option.isSome_some,Option.isSome_none,Nat.reduceAdd,dP];(repeat (first | refine aV.op af (h:= ?_) | refine aV.dQ af (h:= ?_) | refine aV.skip (h:= ?_)));refine aV.nil ?_;have hlen:l.length=L.length:=by rw [hl.length_eq];simp [MM.keys]
 refine SW.seq (SW.tP ?_);(repeat (first | refine aV.op af (h:= ?_) | refine aV.dQ af (h:= ?_) | refine aV.skip (h:= ?_)));rw [<- hlen];refine aV.oo af (l6 2 l (by omega) 3) (h:= ?_);refine aV.nil ?_;refine SW.seq (SW.g0 [0,1,4,5] Zm af ?_);have gD:(Dt.sorted l).length=l.length:=(Dt.sorted_perm l).length_eq;have hse:Dt.sorted l=Dt.sorted (MM.keys L):=Dt.iE ((Dt.sorted_perm l).trans hl) (Dt.eP l);refine SW.weak id (st1:=⟨[(4,.gs 2 l.length)],[(2,.arr 37 2 l.length (((Dt.sorted l).flatMap Dt.ds).map .d)),(0,.box 107 [.mp 1]),(1,.map (ah Dt.cells ov L) c)],3⟩) (aI.same (by simp) (by simp [aL,List.lookup,SV.aA,SV.ok]) (by simp [Hp.ok,Ob.ok,SV.ay,SV.ok,SV.bg,a_]) (by simp [aa])) ?_;refine SW.freeze 2 ((Dt.sorted l).flatMap Dt.ds) rfl rfl ?_;have e1:k_ 2 l.length ((Dt.sorted l).flatMap Dt.ds) [(4,.gs 2 l.length)]=[(4,bq (Dt.sorted (MM.keys L)))]:=by
  rw [<- hse];simp only [k_,List.map_cons,List.map_nil,SV.iB,if_true,bq,gD]
 show Go.Sl.SW _ _ _ _ ⟨k_ 2 l.length ((Dt.sorted l).flatMap Dt.ds) [(4,.gs 2 l.length)],dP 0 1 L c,3⟩ _;rw [e1];refine SW.ret ?_;exact End.mk (dP 0 1 L c) (h3:=λ _ _ h=>h) (h4:=⟨rfl,rfl⟩) (h5:=rfl) (h6:=ni _ _ _ _ _ rfl rfl)
theorem vt {L:(MM Dt ag)}{c:Nat}(hwf:MM.wf L c)(hL:L.length<1000000000)(k:Nat)(b m:Nat)(IJ:b≠m):
  aJ Tryz.prog slices_SortedFunc_api_Dot.f [.fn (.func maps_Keys_map_api_Dot_api_Op_api_Dot_api_Op_1.f) [] [.ptr b 0],.fn (.func dot_Compare.f) [] []] (dP b m L c) k 0 (bq (Dt.sorted (MM.keys L))) (dP b m L c):=by
 have h:=SB.nM [b,m] (vr hwf hL) (by simp [IJ]) (λ i hi=>pZ L c i (by simpa using hi)) k
 simpa [SV.aQ,SV.aA,ff,dP,Hp.aA,Ob.aA,bA] using h
theorem F_ (L:(MM Dt ag))(c:Nat):SB Tryz.prog maps_Keys_map_api_Dot_api_Op_api_Dot_api_Op.f [.mp 0] [(0,.map (ah Dt.cells ov L) c)] 1 1 λ r F=>r= .fn (.func maps_Keys_map_api_Dot_api_Op_api_Dot_api_Op_1.f) [] [.ptr 1 0]/\F=[(1,.box 107 [.mp 0]),(0,.map (ah Dt.cells ov L) c)]:=by
 refine maps_Keys_map_api_Dot_api_Op_api_Dot_api_Op.enter rfl (by simp [Hp.ok,Ob.ok,a_]) (by simp) ?_;dsimp only [maps_Keys_map_api_Dot_api_Op_api_Dot_api_Op.s,Co.M,Co.J,Co.F,Co.x,Co.S];(repeat (first | refine SW.seq ?_ | refine SW.block ?_ | refine SW.g0 [0,1,2] Zm af ?_ | refine SW.skip ?_ | refine SW.exit ?_ | refine SW.ret ?_ | refine SW.aj rfl ?_ | refine SW.au rfl ?_));exact End.mk [(1,.box 107 [.mp 0]),(0,.map (ah Dt.cells ov L) c)] (h4:=⟨rfl,rfl⟩) (h6:=by simp [Hp.ok,Ob.ok,SV.ay,SV.ok,a_])
theorem zY (L:(MM Dt ag))(c:Nat)(n k:Nat):aJ Tryz.prog maps_Keys_map_api_Dot_api_Op_api_Dot_api_Op.f [.mp n] [(n,.map (ah Dt.cells ov L) c)] k 1 (.fn (.func maps_Keys_map_api_Dot_api_Op_api_Dot_api_Op_1.f) [] [.ptr k 0]) [(k,.box 107 [.mp n]),(n,.map (ah Dt.cells ov L) c)]:=by
 have h:=SB.nM [n] (F_ L c) (by simp) (λ i hi=>by cases i with | zero=>simp [aa] | succ i=>simp at hi) k
 simpa [SV.aQ,SV.aA,ff,Hp.aA,Ob.aA,bA] using h
end Go.Proofs.YtaelhkkjgfobhaaGreat
namespace Go.Proofs.YtaelhkkjgfobhaaGreat
open Go.Sl Go.Proofs
section
theorem bS.Ce {l:List ag}{S:Sh}(h:bS l S):Dt.sorted (MM.keys S.ops)=Dt.set (l.map (·.dot)):=
 Dt.fZ (Dt.rN h.base.ops.wf.keys) (Dt.fJ _) λ v=>by
  rw [(Dt.sorted_perm _).mem_iff,Dt.mem_set,<- MM.ia,h.base.has,nQ,List.mem_map]
theorem bS.ja {l:List ag}{S:Sh}(h:bS l S):S.ops.length<=l.length:=by
 have:=h.base.ops.wf.keys.length_le_of_subset (l₂:=l.map (·.dot)) λ d hd=>by
  rw [<- MM.ia,h.base.has,nQ] at hd;obtain ⟨o,ho,e⟩:=hd;exact List.mem_map.2 ⟨o,ho,e⟩
 simpa [MM.keys] using this
section
attribute [local irreducible] SW RW aJ SC ai an
set_option maxHeartbeats 4000000 in
theorem Ga (S:Sh)(hwf:MM.wf S.ops S.co)(hL:S.ops.length<1000000000):SB Tryz.prog shape_Shape_Dots.f [.ptr 0 0] S.h0 7 0 λ r F=>r=bq (Dt.sorted (MM.keys S.ops))/\F=S.h0:=by
 refine shape_Shape_Dots.enter (by simp [SV.ay,SV.ok]) (S.ok (Nat.le_refl 7)) (by simp) ?_;dsimp only [shape_Shape_Dots.s,Co.M,Co.J,Co.F,Co.C,Co.T,Co.P,Co.D,Co.A,Co.S];refine SW.seq (SW.g0 [0,2,4] Zm af ?_);refine SW.seq (SW.seq (SW.g1 [0,2,4] Zm af (rE S) ?_));refine SW.au rfl (SW.skip (SW.seq ?_));have cS:∀ k,aJ Tryz.prog slices_SortedFunc_api_Dot.f [.fn (.func maps_Keys_map_api_Dot_api_Op_api_Dot_api_Op_1.f) [] [.ptr 7 0],.fn (.func dot_Compare.f) [] []] [(7,.box 107 [.mp 1]),(1,.map (ah Dt.cells ov S.ops) S.co)] k 0 (bq (Dt.sorted (MM.keys S.ops))) [(7,.box 107 [.mp 1]),(1,.map (ah Dt.cells ov S.ops) S.co)]:=λ k=>vt hwf hL k 7 1 (by decide)
 have cK:=zY S.ops S.co 1;refine SW.g2 [0,2,4] Zm af cK cS ?_;refine SW.ret ?_;exact End.mk S.h0 (h4:=⟨rfl,rfl⟩) (h6:=S.ok (Nat.le_refl 7))
theorem bS.Bb {l:List ag}{S:Sh}(h:bS l S)(hl:l.length<=80)(k:Nat):aJ Tryz.prog shape_Shape_Dots.f [.ptr 10 0] S.j5 k 0 (bq (Dt.set (l.map (·.dot)))) S.j5:=by
 have:=S.at_ (args:=[]) (Ga S h.base.ops.wf (by have:=h.ja;omega)) (λ _=>rfl) (λ _=>rfl) n10 yA k;rw [h.Ce] at this;exact this
end
end
section
theorem qo {l:List ag}(hl:l.length<=80)(hd:∀ o,o∈l->o.mW/\o.cl.length<=140737488351232):∀ i,i<=l.length->0<=fW l i/\fW l i<=i*140737488351232/\∀ j,j<i->∀ o,l[j]? =some o->(o.cl.length:Int)<=fW l i
 | 0,_=>⟨Int.le_refl _,by simp [fW],λ j h=>by omega⟩
 | i +1,hi=>by
  obtain ⟨h1,h2,h3⟩:=qo hl hd i (by omega);obtain ⟨x,hx⟩:=aZ (show i<l.length by omega);obtain ⟨k1,k2⟩:=hd x (List.mem_of_getElem? hx);have hn:yp x=x.cl.length:=by unfold yp;rw [k1.eq]
  have e:fW l (i+1)=fW l i+(x.cl.length:Int):=by
   simp only [fW,hx,Option.map_some,Option.getD_some,hn];exact wrap_i64 _ (by omega)
  rw [e];refine ⟨by omega,by omega,λ j hj o ho=> ?_⟩
  by_cases hji:j=i
  .subst hji;rw [hx] at ho;cases ho;omega
  .have:=h3 j (by omega) o ho;omega
theorem zZ {l:List ag}(h:jH l=false)(hd:∀ o,o∈l->o.mW/\o.cl.length<=140737488351232):∀ o,o∈l->o.cl.length<=1048576:=λ o ho=>by
 have hl:=xq h;unfold jH at h;simp only [Bool.or_eq_false_iff,decide_eq_false_iff_not] at h;obtain ⟨i,hi,rfl⟩:=List.getElem_of_mem ho;have:=(qo hl hd l.length (Nat.le_refl _)).2.2 i hi _ (List.getElem?_eq_getElem hi);rw [show min l.length 100=l.length by omega] at h;omega
end
end Go.Proofs.YtaelhkkjgfobhaaGreat
