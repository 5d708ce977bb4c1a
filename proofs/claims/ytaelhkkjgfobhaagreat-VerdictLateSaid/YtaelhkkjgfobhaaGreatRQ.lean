/-
 Revoke: rows of dots that grow, one by one.
-/
import Derived.Test.YtaelhkkjgfobhaaGreatRO
set_option linter.unusedSectionVars false
set_option linter.unusedVariables false
set_option linter.unusedSimpArgs false
namespace Go.Proofs.YtaelhkkjgfobhaaGreat
open Go.Sl Go.Proofs
section
attribute [local irreducible] SW RW aH SC aj ak
structure Ew where
 l:List Dt
 rn:Nat
theorem J' (d:Dt):SB Tryz.prog revoke_Index_Threats_1.f [.agg d.cells] [] 0 2 λ r F=>r= .agg d.cells/\F=[]:=by
 refine revoke_Index_Threats_1.enter (by simp[SV.ax,SV.ok]) rfl (by simp) ?_;dsimp only[revoke_Index_Threats_1.s,Co.J,Co.F,Co.b8,Co.aB,Co.K,Co.x,Co.W,Co.S];have s1:b_ [SV.d (.int .u8 0),.d (.int .u32 0)] 0 d.cells=d.cells:=rfl;(repeat (first|refine SW.seq ?_|refine SW.block ?_|refine SW.g0 du Zm s1 ?_|refine SW.skip ?_|refine SW.exit ?_|refine SW.ret ?_|refine SW.ai rfl ?_|refine SW.an rfl ?_));exact End.mk [] (h4:=⟨rfl,rfl⟩)
theorem Ka (d:Dt)(k:Nat):aH Tryz.prog revoke_Index_Threats_1.f [.agg d.cells] [] k 2 (.agg d.cells) []:=by
 have:=SB.new (J' d) k
 simpa[SV.aN,SV.aC,Dt.aq,Hp.aC] using this
def iE (y bx bf:Nat)(ca cb:Code)(s:Ew):Hp:=
 [(y,.qo 17 [5,3] [.ptr bx 0,.ptr bf 0] [8] ca cb .ready none),(bx,.box 31 [.gs s.rn s.l.length]),(bf,.box 123 [.fn (.func revoke_Index_Threats_1.f) [] []]),(s.rn,.arr 37 2 s.l.length ((s.l.flatMap Dt.ds).map .d))]
def OP (y bx bf:Nat)(s:Ew)(j:Nat):Prop:=(s.rn≠y/\s.rn≠bx/\s.rn≠bf)/\s.l.length+j<=100000000000
def OQ (s:Ew)(x:Dt)(k:Nat):Ew:=⟨s.l++[x],k+3⟩
set_option maxHeartbeats 4000000 in
theorem OR {y bx bf:Nat}(h1:y≠bx)(h2:y≠bf)(h3:bx≠bf){ca cb:Code}
    (hca:cK Tryz.prog 17 ca=some (.e_ [⟨some 6,.alloc 37 [.d (.int .u8 0),.d (.int .u32 0)],none⟩,⟨none,.store 2 (.t 6) (.t 8),none⟩] (oD 2) false))
    (hcb:cK Tryz.prog 17 cb=some (.block 1 (.e_ [⟨some 9,.load none (.t 5),none⟩,⟨some 10,.load none (.t 3),none⟩,⟨some 11,.load (some 2) (.t 6),none⟩,⟨some 12,.call (.t 10) [(.t 11)],none⟩,⟨some 13,.mK 37 2 1 [.d (.int .u8 0),.d (.int .u32 0)] [(0,2,.t 12)],none⟩,⟨some 14,.app 37 2 8 (.t 9) (.t 13),none⟩,⟨none,.store 1 (.t 5) (.t 14),none⟩] [0,0,0,6,14,31,63] true))):
    HF Tryz.prog y (λ x:Dt=> .agg x.cells) 4 (iE y bx bf ca cb) OQ (OP y bx bf):=by
  have f1:=bX h1;have f2:=bX h2;have f3:=bX h3;refine⟨λ s=>by simp[iE,af],λ s j hinv x hx=> ?_,λ s j hinv=> ?_,λ s x k j hinv hok=> ?_⟩;rotate_left
  . obtain⟨⟨a1,a2,a3⟩,_⟩:=hinv
    simp[iE,Hp.ok,Ob.ok,SV.ax,SV.ok,SV.aW,af,f1,f2,f3,bX a1,bX a2,bX a3]
  rotate_left
  . obtain⟨⟨a1,a2,a3⟩,_⟩:=hinv
    have g1:=bX a1;have g2:=bX a2;have g3:=bX a3;simp only[iE,List.mem_cons,List.not_mem_nil,or_false] at hx;rcases hx with rfl|rfl|rfl|rfl<;>simp[iE,af,f1,f2,f3,g1,g2,g3]
  . obtain⟨l,rn⟩:=s
    obtain⟨⟨a1,a2,a3⟩,hlen⟩:=hinv;dsimp only at a1 a2 a3 hlen;have g1:=bX a1;have g2:=bX a2;have g3:=bX a3;simp only[iE,Hp.ok,List.all_cons,List.all_nil,Ob.ok,SV.ax,SV.ok,SV.aW,Bool.and_true,Bool.and_eq_true,decide_eq_true_eq] at hok;obtain⟨⟨k1,_⟩,⟨k2,_⟩,k3,k4⟩:=hok;have q1:=bX (show k≠y by omega);have q2:=bX (show k≠bx by omega);have q3:=bX (show k≠bf by omega);have q4:=bX (show k≠rn by omega);have w0:=bX (show k+3≠k by omega);have w1:=bX (show k+3≠y by omega);have w2:=bX (show k+3≠bx by omega);have w3:=bX (show k+3≠bf by omega);have w4:=bX (show k+3≠rn by omega);have ea:k+1+2=k+3:=rfl;have hF :∀ n,lk (iE y bx bf ca cb ⟨l++[x],k+3⟩) n≠none->lk (iE y bx bf ca cb ⟨l,rn⟩) n≠none\/(k<=n/\n<k+4):=λ n hn=>by
      by_cases e1:n=y
      . exact .inl (by simp[iE,af,e1])
      . by_cases e2:n=bx
        . exact .inl (by simp[iE,af,e2,f1])
        . by_cases e3:n=bf
          . exact .inl (by simp[iE,af,e3,f2,f3])
          . refine .inr ?_
            have:n=k+3:=Classical.byContradiction λ hne=>hn (by simp[iE,af,bA,e1,e2,e3,hne])
            omega
    refine⟨?_,⟨⟨by show k+3≠y;omega,by show k+3≠bx;omega,by show k+3≠bf;omega⟩,by show(l++[x]).length+j<=_;rw[List.length_append];show l.length+1+j<=_;omega⟩,?_,hF⟩
    . unfold NW
      refine Fa.here (λ n=>n == y || n == bx || n == bf || n == rn) (Fa.uI (cs:=[.ptr bx 0,.ptr bf 0]) (H:=[(bx,.box 31 [.gs rn l.length]),(bf,.box 123 [.fn (.func revoke_Index_Threats_1.f) [] []]),(rn,.arr 37 2 l.length ((l.flatMap Dt.ds).map .d))]) hca hcb rfl rfl rfl (by simp) k1 (by simp[af,bA,f1,f2,g1]) (by simp[SV.ax,SV.ok,Dt.ah]) (by simp[Hp.ok,Ob.ok,SV.ax,SV.ok,SV.aW];omega) (by simp[SV.ax,SV.ok];omega) ?_) ?_ (by simp[SV.ax,SV.ok,Dt.ah]) (by simp[iE,Hp.ok,Ob.ok,SV.ax,SV.ok,SV.aW]) ?_
      . skip
        show Go.Sl.SW _ _ _ _ ⟨[(8,.agg x.cells),(5,.ptr bx 0),(3,.ptr bf 0)],_,_⟩ _;refine SW.g0 [3,5,6,8] Zm (Zq f1 (Zq f2 (Zq f3 (Zq g1 (Zq g2 (Zq g3 (Zq q1 (Zq q2 (Zq q3 q4))))))))) ?_;refine⟨rfl,SW.block ?_⟩;have hcc:=λ k=>Ka x k
        refine SW.gK [3,5,6,8] Zm (Zq f1 (Zq f2 (Zq f3 (Zq g1 (Zq g2 (Zq g3 (Zq q1 (Zq q2 (Zq q3 (Zq q4 (Zq w0 (Zq w1 (Zq w2 (Zq w3 (Zq w4 ea))))))))))))))) (Zq f1 (Zq f2 (Zq f3 (Zq g1 (Zq g2 (Zq g3 (Zq q1 (Zq q2 (Zq q3 (Zq q4 (Zq w0 (Zq w1 (Zq w2 (Zq w3 w4)))))))))))))) (Zq hcc True.intro) ?_;have e2:((l++[x]).flatMap Dt.ds).map SV.d=(List.flatMap Dt.ds l).map SV.d++x.ds.map SV.d:=by simp
        refine⟨none,true,[(bx,.box 31 [.gs (k+3) (l++[x]).length]),(bf,.box 123 [.fn (.func revoke_Index_Threats_1.f) [] []]),(k+3,.arr 37 2 (l++[x]).length (((l++[x]).flatMap Dt.ds).map .d))],⟨rfl,rfl⟩,?_,?_,by simp,⟨rfl,rfl⟩⟩
        . refine HSub.cons ?_ (HSub.cons ?_ (HSub.cons ?_ (HSub.nil _)))
          . simp[af,f1,f2,f3,g1,g2,g3,q1,q2,q3,q4,w0,w1,w2,w3,w4,b_]
          . simp[af,f1,f2,f3,g1,g2,g3,q1,q2,q3,q4,w0,w1,w2,w3,w4,b_]
          . rw[e2];simp[af,Dt.sX]
        . simp[Hp.ok,Ob.ok,SV.ax,SV.ok,SV.aW,-List.flatMap_append,-List.map_append];omega
      . intro n hn
        simp only[Bool.or_eq_true,beq_iff_eq] at hn;rcases hn with((rfl|rfl)|rfl)|rfl<;>simp[iE,af,f1,f2,f3,g1,g2,g3]
      . rintro r F' ⟨rfl,rfl⟩ _ _
        refine⟨rfl,?_⟩;simp[OQ,iE,Hp.ok,Ob.ok,SV.ax,SV.ok,SV.aW,-List.flatMap_append,-List.map_append]
    . simp[OQ,iE,Hp.ok,Ob.ok,SV.ax,SV.ok,SV.aW,-List.flatMap_append,-List.map_append]
      omega
theorem QE {s0 s:Ew}{xs:List Dt}(h:lU (OO OQ) s0 xs s):s.l=s0.l++xs:=by
 induction h with
 | nil=>simp
 | snoc _ h ih=>
  obtain⟨k,rfl⟩:=h;show _++[_]=_;rw[ih];simp
end
section
attribute [local irreducible] SW RW aH SC aj ak js
theorem HI (k:Nat):aH Tryz.prog dot_Sort.f [.d .aL] [] k 0 (bN (Dt.set [])) []:=by
 have:=zm [] (by simp) k;unfold aH at this ⊢;refine SC.args (λ p μ M vs h=> ?_) this;obtain⟨u,us,e,h1,h2⟩:=aS.aD.1 h;exact aS.aD.2 ⟨u,us,e,pU _ _ _ _ h1,h2⟩
theorem HJ (L:List Dt)(hl:L.length<1000000000)(k:Nat):aH Tryz.prog dot_Sort.f [dn L] [] k 0 (bN (Dt.set L)) []:=by
 cases L with
 | nil=>exact HI k
 | cons d L=>exact zm (d::L) hl k
theorem uU (X:Ix)(hX:X.small)(o:ag):(X.jm o).length<=1000000:=by
 unfold Ix.jm;rw[List.length_flatMap];have hl:=hX.ch o.dot;have key:∀ l:List Dt,(l.map λ c=>((X.rM c).filter λ t=> !o.before (X.op t)).length).sum<=l.length*1000:=λ l=>by
  induction l with
  | nil=>simp
  | cons c l ih=>
   rw[List.map_cons,List.sum_cons,List.length_cons,Nat.add_mul,Nat.one_mul];have h1:=List.length_filter_le (λ t=> !o.before (X.op t)) (X.rM c);have h2:=hX.rv c;omega
 exact Nat.le_trans (key _) (Nat.le_trans (Nat.mul_le_mul_right 1000 hl) (by decide))
theorem HK {q:Nat->Bool}{A B:Hp}(h1:A.ok q=true)(h2:B.ok q=true):(A++B:Hp).ok q=true:=by
 unfold Hp.ok at*;rw[List.all_append,h1,h2];rfl
abbrev IS (X:Ix)(o:ag):Hp:=TG X o 4 5
theorem zu (X:Ix)(o:ag){k:Nat}(h:6<=k):(IS X o).ok (λ n=>decide (n<k))=true:=
 aA (by simp;omega) (by simp[Ob.ok,SV.ax,SV.ok];omega) (aA (by simp;omega) (by simp[Ob.ok,ag.ah]) (X.zq (by omega)))
end
section
attribute [local irreducible] SW RW aH SC aj ak js
theorem kX {X:Ix}{d:Dt}(hh:MM.has X.ops d=true):MM.get X.ops d=some (X.op d):=by
 obtain⟨o,ho⟩:=Option.isSome_iff_exists.1 (show(MM.get X.ops d).isSome=true from hh);unfold Ix.op;rw[ho];rfl
theorem HL (X:Ix)(hX:X.small)(d:Dt)(k:Nat):aH Tryz.prog revoke_Index_Level.f [.ptr 0 0,.agg d.cells] X.h0 k 2 (mE X d) X.h0:=by
 have:=SB.lR [0,1,2,3] (Er X hX d) (by decide) X.OM k;rw[show X.h0.aC (eu [0,1,2,3] k)=X.h0 by simp[Hp.aC,Ob.aC,SV.aN,SV.aC,eu,cG,h_],show(mE X d).aC (eu [0,1,2,3] k)=mE X d by unfold mE;split<;>simp[SV.aN,SV.aC]] at this
 simpa[SV.aN,SV.aC,eu,Dt.aq] using this
theorem Ex (X:Ix)(o:ag)(k:Nat):aH Tryz.prog revoke_Index_threats.f [.ptr 0 0,.agg o.cells] X.h0 k 2 (.fn (.func revoke_Index_threats_1.f) [] [.ptr k 0,.ptr (k+1) 0]) ((k+1,.box 43 o.cells)::(k,.box 27 [.ptr 0 0])::X.h0):=by
 have:=SB.lR [0,1,2,3] (Ca X o) (by decide) X.OM k;have e0:eu [0,1,2,3] k 4=k:=by simp[eu]
 have e1:eu [0,1,2,3] k 5=k+1:=by simp[eu];omega
 simp[SV.aN,SV.aC,e0,e1,eu,ag.aq,Hp.aC,Ob.aC,cG,h_] at this;rw[Nat.add_comm 1 k] at this;exact this
end
end Go.Proofs.YtaelhkkjgfobhaaGreat
namespace Go.Proofs.YtaelhkkjgfobhaaGreat
open Go.Sl Go.Proofs
section
attribute [local irreducible] SW RW aH SC aj ak js
section
variable {σ:Type} {Fh:σ->Hp} {nx:σ->ag->Nat->σ} {inv:σ->Nat->Prop} {aV y z b5 b3 b2:Nat}
end
end
section
attribute [local irreducible] SW RW aH SC aj ak js
def sG (aV:Nat):Nat:=2+1000*(4+js (1+aV))
section
variable {σ:Type} {Fh:σ->Hp} {nx:σ->ag->Nat->σ} {inv:σ->Nat->Prop} {aV y k:Nat}
theorem Dv (q:Nat->Bool)(m:Nat)(a:Nat)(l:List Nat)(b:Nat)(h:q m=true):(Ob.iter (some m) a l b).ok q=true:=h
end
end
section
attribute [local irreducible] SW RW aH SC aj ak js sG
end
end Go.Proofs.YtaelhkkjgfobhaaGreat
namespace Go.Proofs.YtaelhkkjgfobhaaGreat
open Go.Sl Go.Proofs
section
def q1:ag:=⟨⟨0,1⟩,ay.zero,1,1,⟨0,1⟩,0,⟨0,0⟩,0,0,0,0,⟨0,0⟩,⟨0,0⟩,0,0,0,.aL⟩
def q2:ag:=⟨⟨0,2⟩,xk 1,2,1,⟨0,1⟩,1,⟨0,1⟩,2,2,0,9,⟨0,0⟩,⟨0,0⟩,0,0,0,.aL⟩
def q3:ag:=⟨⟨0,3⟩,xk 2,3,2,⟨0,1⟩,3,⟨0,2⟩,0,0,0,0,⟨0,0⟩,⟨0,0⟩,0,1,0,.aL⟩
def q4:ag:=⟨⟨0,4⟩,xk 3,4,2,⟨0,1⟩,4,⟨0,2⟩,0,0,0,0,⟨0,3⟩,⟨0,0⟩,0,2,0,.aL⟩
def q5:ag:=⟨⟨1,1⟩,xk 3,4,1,⟨0,1⟩,2,⟨0,1⟩,0,0,0,0,⟨0,2⟩,⟨0,0⟩,0,0,0,.aL⟩
def p1:ag:=q1.nz
def p2:ag:=q2.nz
def p3:ag:=q3.nz
def p4:ag:=q4.nz
def p5:ag:=q5.nz
def bp:List ag:=[p1,p2,p3,p4,p5]
set_option maxRecDepth 100000 in
theorem PM {P:Program}{env:List (Nat×SV)}{hp:Hp}{k d p q s v w:Nat}{r:List SI}{K:St->List (Bool×List Nat)->Prop}(a b c e g:ag){z:List SV}(hz:z=BH++(BH++(BH++(BH++BH))))
  (ha:env.lookup p=some (.agg a.cells)) (hb:env.lookup q=some (.agg b.cells)) (hc:env.lookup s=some (.agg c.cells)) (he:env.lookup v=some (.agg e.cells)) (hg:env.lookup w=some (.agg g.cells))
  (h:RW P r ⟨(d,ops [a,b,c,e,g])::env,hp,k⟩ λ st' ts=>K st' ((false,[])::ts)):RW P (⟨some d,.mK 43 29 5 z [(0,29,.t p),(29,29,.t q),(58,29,.t s),(87,29,.t v),(116,29,.t w)],none⟩::r) ⟨env,hp,k⟩ K:=by
 subst hz;refine RW.cons (e:=⟨ops [a,b,c,e,g],[],[],0,((29=29/\0+29<=145/\29=29/\29+29<=145/\29=29/\58+29<=145/\29=29/\87+29<=145/\29=29/\116+29<=145/\True))⟩) (λ dK=>⟨.iJ::dK,fW (.inl rfl) ?_⟩) (by show 29=29/\0+29<=145/\29=29/\29+29<=145/\29=29/\58+29<=145/\29=29/\87+29<=145/\29=29/\116+29<=145/\True;decide) ?_
 .have h1:zK (λ t=>env.lookup t) [(0,29,X.t p),(29,29,X.t q),(58,29,X.t s),(87,29,X.t v),(116,29,X.t w)]=some [(0,29,.agg a.cells),(29,29,.agg b.cells),(58,29,.agg c.cells),(87,29,.agg e.cells),(116,29,.agg g.cells)]:=by
   simp only[zK,ev,ha,hb,hc,he,hg]
  have h2:nB (BH++(BH++(BH++(BH++BH)))) [(0,29,.agg a.cells),(29,29,.agg b.cells),(58,29,.agg c.cells),(87,29,.agg e.cells),(116,29,.agg g.cells)]=some (a.cells++(b.cells++(c.cells++(e.cells++g.cells))),((29=29/\0+29<=145/\29=29/\29+29<=145/\29=29/\58+29<=145/\29=29/\87+29<=145/\29=29/\116+29<=145/\True))):=rfl;have h3:fF (a.cells++(b.cells++(c.cells++(e.cells++g.cells))))=some ([a,b,c,e,g].flatMap ag.ds):=rfl;have h4:(a.cells++(b.cells++(c.cells++(e.cells++g.cells)))).all SV.dX=true:=rfl;simp only[fA,dI,h1,h2,h3,h4,if_true,Bool.false_or];rfl
 .exact h
theorem RW.wE {P:Program}{d:Nat}{z:List SV}{parts:List (Nat×Nat×X)}{r:List SI}{K:St->List (Bool×List Nat)->Prop}{env:List (Nat×SV)}{hp:Hp}{k:Nat}(cs:List SV){ps:List (Nat×Nat×SV)}{ob:Prop}(h1:zK (λ t=>env.lookup t) parts=some ps)(h2:nB z ps=some (cs,ob))(bt:ob)
  (h:Go.Sl.RW P r ⟨(d,.agg cs)::env,hp,k⟩ λ st' ts=>K st' ((true,[])::ts)):Go.Sl.RW P (⟨some d,.fC z parts,none⟩::r) ⟨env,hp,k⟩ K:=
 RW.FP (F:=[]) (F':=[]) (nk:=0) (ob:=ob) rfl rfl rfl (.inl rfl) (by simp only[fA,dI,h1,h2]) bt rfl h
section
attribute [local irreducible] SW RW aH SC aj ak js sG
end
theorem Lm:(bg bp).at_=[(0,⟨0,1⟩,hc1),(1,⟨0,2⟩,IP)]:=by kernel_rfl
theorem Ln:pg (bg bp).at_ (MM.get (bg bp).at_ ⟨0,1⟩) [hc1]:=by
 rw[Lm];exact .root hc1 (by decide)
theorem HM:pg (bg bp).at_ (MM.get (bg bp).at_ ⟨0,2⟩) [IP,hc1]:=by
 rw[Lm];exact .more IP _ (by decide) (.root hc1 (by decide))
theorem Lo:jQ bp p1=0:=by kernel_rfl
theorem Lp:jQ bp p2=0:=by kernel_rfl
theorem Lq:jQ bp p3=0:=by kernel_rfl
theorem Lr:jQ bp p4=0:=by kernel_rfl
theorem Ls:jQ bp p5=0:=JR HM (by kernel_rfl)
theorem AZ:∀ o,o∈bp->o.kind<256/\o.mC/\o.cl.length<=1048576:=λ o ho=>by
 simp only[bp,List.mem_cons,List.not_mem_nil,or_false] at ho;rcases ho with rfl|rfl|rfl|rfl|rfl
 all_goals exact⟨by decide,PF rfl,by decide⟩
end
section
theorem qV (l:List Dt):(Dt.set l).Nodup:=(Dt.sorted_perm _).nodup_iff.2 (uS l).keys
section
variable {l:List ag} {S:Sh} (h:dw l S) (hl:l.length<=80)
include h
theorem dw.OS {d:Dt}(hg:S.good d=true):∃ o,a_ l d=some o/\jQ l o=0/\S.op d=o/\o.dot=d/\d∈Dt.set (l.map (·.dot)):=by
 rw[h.good] at hg;cases hf:a_ l d with
 | none=>rw[hf] at hg;cases hg
 | some o=>
  rw[hf] at hg;have hd:=fK hf;refine⟨o,rfl,of_decide_eq_true hg,?_,hd,?_⟩
  .rw[h.base.op,bD hf]
  .rw[Dt.mem_set]
   exact List.mem_map.2 ⟨o,tg hf,hd⟩
theorem dw.HN {d:Dt}:(d∈Dt.set (l.map (·.dot))/\S.good d=true)↔S.good d=true:=⟨λ h=>h.2,λ hg=>⟨(h.OS hg).elim λ _ h=>h.2.2.2.2,hg⟩⟩
noncomputable abbrev dw.X (_:dw l S):Ix:=wW S (Dt.set (l.map (·.dot)))
theorem dw.MO:MF S (Dt.set (l.map (·.dot))) h.X:=Hz _ _
theorem dw.HO (d:Dt):MM.has h.X.ops d=S.good d:=by
 unfold MM.has;rw[h.MO.ops];simp only[h.HN];cases S.good d<;>rfl
theorem dw.Qd {d:Dt}(hg:S.good d=true):h.X.op d=S.op d:=by
 unfold Ix.op;rw[h.MO.ops,if_pos (h.HN.2 hg)];rfl
theorem dw.Kb {d:Dt}(hg:S.good d=true):h.X.qg d=S.qg (S.op d):=by
 unfold Ix.qg;rw[h.MO.ch,if_pos (h.HN.2 hg)];rfl
theorem dw.Lt {d:Dt}(hg:S.good d=false):h.X.qg d=[]:=by
 unfold Ix.qg;rw[h.MO.ch,if_neg (λ hh=>by rw[hg] at hh;cases hh.2)];rfl
theorem dw.OU (c:Dt):h.X.rM c=(Dt.set (l.map (·.dot))).filter (S.rv c):=h.MO.me c
theorem dw.Dw (o:ag):(S.qg o).length<=9:=by
 unfold Sh.qg
 split
 .simp
 .obtain⟨L,h1,h2⟩:=h.base.ux o.aP
  rw[List.length_map,gI h1];exact h2
include hl
theorem dw.nJ:(Dt.set (l.map (·.dot))).length<=80:=by
 have:=(qV (l.map (·.dot))).length_le_of_subset (l₂:=l.map (·.dot)) λ d hd=>Dt.mem_set.1 hd
 simpa using Nat.le_trans this (by simpa using hl)
theorem dw.small:h.X.small:=by
 have hd:=h.nJ hl;refine⟨λ d=> ?_,λ c=> ?_,?_,h.MO.wo⟩
 .cases hg:S.good d with
  | false=>rw[h.Lt hg];simp
  | true=>rw[h.Kb hg];have:=h.Dw (S.op d);omega
 .rw[h.OU]
  have:=List.length_filter_le (S.rv c) (Dt.set (l.map (·.dot)));omega
 .have:=h.MO.wo.keys.length_le_of_subset (l₂:=Dt.set (l.map (·.dot))) λ d hd'=>by
   rw[<- MM.iu,h.HO] at hd';exact(h.HN.2 hd').1
  have e:(MM.keys h.X.ops).length=h.X.ops.length:=by simp[MM.keys]
  omega
omit hl
theorem dw.PN {d:Dt}(hg:S.good d=true):h.X.jm (S.op d)=S.jm (Dt.set (l.map (·.dot))) (S.op d):=by
 obtain⟨o,_,_,e1,e2,_⟩:=h.OS hg;unfold Ix.jm Sh.jm;rw[e1,e2,h.Kb hg,e1]
 congr 1
 funext c
 rw[h.OU];refine List.filter_congr λ t ht=> ?_
 have:S.good t=true:=by
  have:=(List.mem_filter.1 ht).2;unfold Sh.rv at this;rw[Bool.and_eq_true] at this;exact this.1
 rw[h.Qd this]
end
theorem Dt.zw {a b:List Dt}(h:∀ v,v∈a↔v∈b):Dt.set a=Dt.set b:=Dt.iz (Dt.iA _) (Dt.iA _) λ v=>by rw[Dt.mem_set,Dt.mem_set,h]
theorem Lu:Dt.set (bp.map (·.dot))=[⟨0,1⟩,⟨0,2⟩,⟨0,3⟩,⟨0,4⟩,⟨1,1⟩]:=(Dt.Dp _).symm.trans (by kernel_rfl)
section
variable {S:Sh} (h:dw bp S)
include h
end
end
section
attribute [local irreducible] SW RW aH SC aj ak js sG
theorem Dx (S:Sh)(n:Nat):(lk S.lS n).isSome=true↔n∈[10,7,8,9,2,0,1]:=by
 rw[Option.isSome_iff_ne_none];constructor
 .intro hn
  obtain⟨ob,ho⟩:=Option.ne_none_iff_exists'.1 hn;have:=(List.mem_map (f:=λ x:Nat×Ob=>x.1)).2 ⟨(n,ob),kV ho,rfl⟩
  simpa using this
 .intro hn
  simp only[List.mem_cons,List.not_mem_nil,or_false] at hn;rcases hn with rfl|rfl|rfl|rfl|rfl|rfl|rfl<;>simp[af]
theorem MP (S:Sh)(X:Ix)(q:Nat->Bool)(h:∀ n,n∈[0,1,2,7,8,9,10,11,12,13,14]->q n=true):(hX S X).ok q=true:=by
 have a:=λ n hn=>h n hn
 refine aA (h 14 (by decide)) ?_ (aA (h 13 (by decide)) (fE _ _) (aA (h 12 (by decide)) (fE _ _) (aA (h 11 (by decide)) (bG _ _) (aA (h 10 (by decide)) ?_ (aA (h 7 (by decide)) (bG _ _) (aA (h 8 (by decide)) (bL _ _) (aA (h 9 (by decide)) (pq _ _) (aA (h 2 (by decide)) ?_ (aA (h 0 (by decide)) (kG _ _) (aA (h 1 (by decide)) (bG _ _) rfl))))))))))
 .simp[Ob.ok,SV.ax,SV.ok,h 11,h 12,h 13]
 .simp[Ob.ok,SV.ax,SV.ok,h 2,h 7,h 8,h 9]
 .simp[Ob.ok,SV.ax,SV.ok,h 0,h 1]
theorem Kc (S:Sh)(q:Nat->Bool)(h:∀ n,n∈[0,1,2,7,8,9,10]->q n=true):S.lS.ok q=true:=by
 refine aA (h 10 (by decide)) ?_ (aA (h 7 (by decide)) (bG _ _) (aA (h 8 (by decide)) (bL _ _) (aA (h 9 (by decide)) (pq _ _) (aA (h 2 (by decide)) ?_ (aA (h 0 (by decide)) (kG _ _) (aA (h 1 (by decide)) (bG _ _) rfl))))))
 .simp[Ob.ok,SV.ax,SV.ok,h 2,h 7,h 8,h 9]
 .simp[Ob.ok,SV.ax,SV.ok,h 0,h 1]
theorem dw.PO {l:List ag}{S:Sh}(h:dw l S)(hl:l.length<=80)(hs:pE S):aH Tryz.prog revoke_New.f [.ptr 10 0] S.lS 11 4 (.ptr 14 0) (hX S h.X):=by
 unfold aH;refine(J5 S _ h.base.ux hs (by have:=h.nJ hl;omega) (h.Hw hl)).here (λ n=>(lk S.lS n).isSome) (λ n hn=>Option.isSome_iff_ne_none.1 hn) (by simp[SV.ax,SV.ok,af]) (Kc S _ λ n hn=>(Dx S n).2 (by revert hn;simp;omega)) ?_;rintro r F' ⟨rfl,rfl⟩ _ _;refine⟨by simp[SV.ok],MP S _ _ λ n hn=> ?_⟩;rw[Bool.or_eq_true]
 by_cases lS:n∈[10,7,8,9,2,0,1]
 .exact .inl ((Dx S n).2 lS)
 .refine .inr ?_
  simp at hn lS ⊢;omega
section
variable {S:Sh} (h:dw bp S)
include h
end
end
section
attribute [local irreducible] SW RW aH SC aj ak js sG
theorem e9:b_ (Dt.mk 0 0).cells 1 [.d (.int .u32 9)]=(Dt.mk 0 9).cells:=rfl
theorem e1:b_ (Dt.mk 0 0).cells 1 [.d (.int .u32 1)]=(Dt.mk 0 1).cells:=rfl
theorem e2:b_ (Dt.mk 0 0).cells 1 [.d (.int .u32 2)]=(Dt.mk 0 2).cells:=rfl
theorem Qe:b_ (b_ (Dt.mk 0 0).cells 0 [.d (.int .u8 1)]) 1 [.d (.int .u32 1)]=(Dt.mk 1 1).cells:=rfl
end
section
theorem Dt.Cb (l:List Dt):(Dt.set l).length<=l.length:=(qV l).length_le_of_subset λ d hd=>Dt.mem_set.1 hd
section
variable {l:List ag} {S:Sh} (h:dw l S) (hl:l.length<=80)
include h
include hl
theorem dw.uU (o:ag):(Dt.set (h.X.jm o)).length<1000000000:=by
 have h1:=Dt.Cb (h.X.jm o);have h2:=Go.Proofs.YtaelhkkjgfobhaaGreat.uU h.X (h.small hl) o;omega
end
end
section
end
end Go.Proofs.YtaelhkkjgfobhaaGreat
namespace Go.Proofs.YtaelhkkjgfobhaaGreat
open Go.Sl Go.Proofs
section
attribute [local irreducible] SW RW aH SC aj ak
noncomputable def dD (l:List ag)(d:Dt):Bool:=match a_ l d with
 | some o=>decide (jQ l o=0)
 | none=>false
section
variable {l:List ag} (hl:l.length<=80) (hd:∀ x,x∈l->x.bn<256/\x.mC/\x.dot.wf)
include hl hd
noncomputable def zx (l:List ag)(r o:ag):Bool:=decide (r.kind=2) && (decide (r.at_∈jt l o) && !o.before r)
end
end
section
attribute [local irreducible] SW RW aH SC aj ak
theorem Ke (s:List Dt)(x:Dt):(s++[x]).length=s.length+ [x].length:=by simp
theorem MQ (s:List Dt)(x:Dt):List.map SV.d ((s++[x]).flatMap Dt.ds)=List.map SV.d (s.flatMap Dt.ds)++List.map SV.d ([x].flatMap Dt.ds):=by simp
noncomputable def A1 (l:List ag):List Dt:=(l.filter λ o=>dD l o.dot).map (·.dot)
noncomputable def kC (l:List ag):List Dt:=Dt.set (A1 l)
theorem jR {l:List ag}{d:Dt}:d∈kC l↔dD l d=true:=by
 unfold kC A1;rw[Dt.mem_set,List.mem_map];constructor
 .rintro⟨o,ho,rfl⟩
  exact(List.mem_filter.1 ho).2
 .intro h
  unfold dD at h;cases hf:a_ l d with
  | none=>rw[hf] at h;cases h
  | some o=>
   have hd:=fK hf;refine⟨o,List.mem_filter.2 ⟨tg hf,?_⟩,hd⟩;rw[hd];unfold dD;rw[hf] at h ⊢;exact h
section
variable {l:List ag} (hl:l.length<=80) (hd:∀ x,x∈l->x.bn<256/\x.mC/\x.dot.wf)
include hl hd
end
end
section
attribute [local irreducible] SW RW aH SC aj ak
noncomputable def wF (l:List ag)(d:Dt)(v:Dt):Bool:=zx l (uy l v) (uy l d)
section
variable {l:List ag} (hl:l.length<=80) (hd:∀ x,x∈l->x.bn<256/\x.mC/\x.dot.wf)
include hl hd
end
end
end Go.Proofs.YtaelhkkjgfobhaaGreat
