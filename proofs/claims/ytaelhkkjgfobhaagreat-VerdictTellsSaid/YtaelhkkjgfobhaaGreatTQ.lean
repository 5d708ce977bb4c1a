/-
 Revoke: rows of dots that grow, one by one.
-/
import Derived.Test.YtaelhkkjgfobhaaGreatTO
set_option linter.unusedSectionVars false
set_option linter.unusedVariables false
set_option linter.unusedSimpArgs false
namespace Go.Proofs.YtaelhkkjgfobhaaGreat
open Go.Sl Go.Proofs
section
attribute [local irreducible] SW RW aF SC ai ak
structure Dy where
 l:List Dt
 rn:Nat
theorem JH (d:Dt):SB Tryz.prog revoke_Index_Threats_1.f [.agg d.cells] [] 0 2 λ r F=>r= .agg d.cells/\F=[]:=by
 refine revoke_Index_Threats_1.enter (by simp[SV.au,SV.ok]) rfl (by simp) ?_;dsimp only[revoke_Index_Threats_1.s,Co.J,Co.F,Co.b8,Co.ay,Co.K,Co.x,Co.W,Co.S];have s1:cq [SV.d (.int .u8 0),.d (.int .u32 0)] 0 d.cells=d.cells:=rfl;(repeat (first|refine SW.seq ?_|refine SW.block ?_|refine SW.g0 eJ Zm s1 ?_|refine SW.skip ?_|refine SW.exit ?_|refine SW.ret ?_|refine SW.an rfl ?_|refine SW.ah rfl ?_));exact End.mk [] (h4:=⟨rfl,rfl⟩)
theorem JI (d:Dt)(k:Nat):aF Tryz.prog revoke_Index_Threats_1.f [.agg d.cells] [] k 2 (.agg d.cells) []:=by
 have:=SB.new (JH d) k
 simpa[SV.aU,SV.aC,Dt.aA,Hp.aC] using this
def iB (y bx bf:Nat)(ca cb:Code)(s:Dy):Hp:=
 [(y,.p0 17 [5,3] [.ptr bx 0,.ptr bf 0] [8] ca cb .ready none),(bx,.box 31 [.gs s.rn s.l.length]),(bf,.box 123 [.fn (.func revoke_Index_Threats_1.f) [] []]),(s.rn,.arr 37 2 s.l.length ((s.l.flatMap Dt.ds).map .d))]
def Od (y bx bf:Nat)(s:Dy)(j:Nat):Prop:=(s.rn≠y/\s.rn≠bx/\s.rn≠bf)/\s.l.length+j<=100000000000
def Oe (s:Dy)(x:Dt)(k:Nat):Dy:=⟨s.l++[x],k+3⟩
set_option maxHeartbeats 4000000 in
theorem Of {y bx bf:Nat}(h1:y≠bx)(h2:y≠bf)(h3:bx≠bf){ca cb:Code}
    (hca:cK Tryz.prog 17 ca=some (.fD [⟨some 6,.alloc 37 [.d (.int .u8 0),.d (.int .u32 0)],none⟩,⟨none,.store 2 (.t 6) (.t 8),none⟩] (oo 2) false))
    (hcb:cK Tryz.prog 17 cb=some (.block 1 (.fD [⟨some 9,.load none (.t 5),none⟩,⟨some 10,.load none (.t 3),none⟩,⟨some 11,.load (some 2) (.t 6),none⟩,⟨some 12,.call (.t 10) [(.t 11)],none⟩,⟨some 13,.kK 37 2 1 [.d (.int .u8 0),.d (.int .u32 0)] [(0,2,.t 12)],none⟩,⟨some 14,.app 37 2 8 (.t 9) (.t 13),none⟩,⟨none,.store 1 (.t 5) (.t 14),none⟩] [0,0,0,6,14,31,63] true))):
    GL Tryz.prog y (λ x:Dt=> .agg x.cells) 4 (iB y bx bf ca cb) Oe (Od y bx bf):=by
  have f1:=bX h1;have f2:=bX h2;have f3:=bX h3;refine⟨λ s=>by simp[iB,aa],λ s j hinv x hx=> ?_,λ s j hinv=> ?_,λ s x k j hinv hok=> ?_⟩;rotate_left
  . obtain⟨⟨a1,a2,a3⟩,_⟩:=hinv
    simp[iB,Hp.ok,Ob.ok,SV.au,SV.ok,SV.aZ,aa,f1,f2,f3,bX a1,bX a2,bX a3]
  rotate_left
  . obtain⟨⟨a1,a2,a3⟩,_⟩:=hinv
    have g1:=bX a1;have g2:=bX a2;have g3:=bX a3;simp only[iB,List.mem_cons,List.not_mem_nil,or_false] at hx;rcases hx with rfl|rfl|rfl|rfl<;>simp[iB,aa,f1,f2,f3,g1,g2,g3]
  . obtain⟨l,rn⟩:=s
    obtain⟨⟨a1,a2,a3⟩,hlen⟩:=hinv;dsimp only at a1 a2 a3 hlen;have g1:=bX a1;have g2:=bX a2;have g3:=bX a3;simp only[iB,Hp.ok,List.all_cons,List.all_nil,Ob.ok,SV.au,SV.ok,SV.aZ,Bool.and_true,Bool.and_eq_true,decide_eq_true_eq] at hok;obtain⟨⟨k1,_⟩,⟨k2,_⟩,k3,k4⟩:=hok;have q1:=bX (show k≠y by omega);have q2:=bX (show k≠bx by omega);have q3:=bX (show k≠bf by omega);have q4:=bX (show k≠rn by omega);have w0:=bX (show k+3≠k by omega);have w1:=bX (show k+3≠y by omega);have w2:=bX (show k+3≠bx by omega);have w3:=bX (show k+3≠bf by omega);have w4:=bX (show k+3≠rn by omega);have ea:k+1+2=k+3:=rfl;have hF :∀ n,lk (iB y bx bf ca cb ⟨l++[x],k+3⟩) n≠none->lk (iB y bx bf ca cb ⟨l,rn⟩) n≠none\/(k<=n/\n<k+4):=λ n hn=>by
      by_cases e1:n=y
      . exact .inl (by simp[iB,aa,e1])
      . by_cases e2:n=bx
        . exact .inl (by simp[iB,aa,e2,f1])
        . by_cases e3:n=bf
          . exact .inl (by simp[iB,aa,e3,f2,f3])
          . refine .inr ?_
            have:n=k+3:=Classical.byContradiction λ hne=>hn (by simp[iB,aa,bA,e1,e2,e3,hne])
            omega
    refine⟨?_,⟨⟨by show k+3≠y;omega,by show k+3≠bx;omega,by show k+3≠bf;omega⟩,by show(l++[x]).length+j<=_;rw[List.length_append];show l.length+1+j<=_;omega⟩,?_,hF⟩
    . unfold Np
      refine Ef.here (λ n=>n == y || n == bx || n == bf || n == rn) (Ef.ua (cs:=[.ptr bx 0,.ptr bf 0]) (H:=[(bx,.box 31 [.gs rn l.length]),(bf,.box 123 [.fn (.func revoke_Index_Threats_1.f) [] []]),(rn,.arr 37 2 l.length ((l.flatMap Dt.ds).map .d))]) hca hcb rfl rfl rfl (by simp) k1 (by simp[aa,bA,f1,f2,g1]) (by simp[SV.au,SV.ok,Dt.aj]) (by simp[Hp.ok,Ob.ok,SV.au,SV.ok,SV.aZ];omega) (by simp[SV.au,SV.ok];omega) ?_) ?_ (by simp[SV.au,SV.ok,Dt.aj]) (by simp[iB,Hp.ok,Ob.ok,SV.au,SV.ok,SV.aZ]) ?_
      . skip
        show Go.Sl.SW _ _ _ _ ⟨[(8,.agg x.cells),(5,.ptr bx 0),(3,.ptr bf 0)],_,_⟩ _;refine SW.g0 [3,5,6,8] Zm (Zq f1 (Zq f2 (Zq f3 (Zq g1 (Zq g2 (Zq g3 (Zq q1 (Zq q2 (Zq q3 q4))))))))) ?_;refine⟨rfl,SW.block ?_⟩;have hcc:=λ k=>JI x k
        refine SW.gK [3,5,6,8] Zm (Zq f1 (Zq f2 (Zq f3 (Zq g1 (Zq g2 (Zq g3 (Zq q1 (Zq q2 (Zq q3 (Zq q4 (Zq w0 (Zq w1 (Zq w2 (Zq w3 (Zq w4 ea))))))))))))))) (Zq f1 (Zq f2 (Zq f3 (Zq g1 (Zq g2 (Zq g3 (Zq q1 (Zq q2 (Zq q3 (Zq q4 (Zq w0 (Zq w1 (Zq w2 (Zq w3 w4)))))))))))))) (Zq hcc True.intro) ?_;have e2:((l++[x]).flatMap Dt.ds).map SV.d=(List.flatMap Dt.ds l).map SV.d++x.ds.map SV.d:=by simp
        refine⟨none,true,[(bx,.box 31 [.gs (k+3) (l++[x]).length]),(bf,.box 123 [.fn (.func revoke_Index_Threats_1.f) [] []]),(k+3,.arr 37 2 (l++[x]).length (((l++[x]).flatMap Dt.ds).map .d))],⟨rfl,rfl⟩,?_,?_,by simp,⟨rfl,rfl⟩⟩
        . refine HSub.cons ?_ (HSub.cons ?_ (HSub.cons ?_ (HSub.nil _)))
          . simp[aa,f1,f2,f3,g1,g2,g3,q1,q2,q3,q4,w0,w1,w2,w3,w4,cq]
          . simp[aa,f1,f2,f3,g1,g2,g3,q1,q2,q3,q4,w0,w1,w2,w3,w4,cq]
          . rw[e2];simp[aa,Dt.kS]
        . simp[Hp.ok,Ob.ok,SV.au,SV.ok,SV.aZ,-List.flatMap_append,-List.map_append];omega
      . intro n hn
        simp only[Bool.or_eq_true,beq_iff_eq] at hn;rcases hn with((rfl|rfl)|rfl)|rfl<;>simp[iB,aa,f1,f2,f3,g1,g2,g3]
      . rintro r F' ⟨rfl,rfl⟩ _ _
        refine⟨rfl,?_⟩;simp[Oe,iB,Hp.ok,Ob.ok,SV.au,SV.ok,SV.aZ,-List.flatMap_append,-List.map_append]
    . simp[Oe,iB,Hp.ok,Ob.ok,SV.au,SV.ok,SV.aZ,-List.flatMap_append,-List.map_append]
      omega
theorem Qb {s0 s:Dy}{xs:List Dt}(h:lY (Oc Oe) s0 xs s):s.l=s0.l++xs:=by
 induction h with
 | nil=>simp
 | snoc _ h ih=>
  obtain⟨k,rfl⟩:=h;show _++[_]=_;rw[ih];simp
end
section
attribute [local irreducible] SW RW aF SC ai ak jN
theorem GN (k:Nat):aF Tryz.prog dot_Sort.f [.d .aG] [] k 0 (bg (Dt.set [])) []:=by
 have:=yD [] (by simp) k;unfold aF at this ⊢;refine SC.args (λ p μ M vs h=> ?_) this;obtain⟨u,us,e,h1,h2⟩:=aV.aD.1 h;exact aV.aD.2 ⟨u,us,e,l_ _ _ _ _ h1,h2⟩
theorem GO (L:List Dt)(hl:L.length<1000000000)(k:Nat):aF Tryz.prog dot_Sort.f [dn L] [] k 0 (bg (Dt.set L)) []:=by
 cases L with
 | nil=>exact GN k
 | cons d L=>exact yD (d::L) hl k
theorem um (X:Ix)(hX:X.small)(o:ag):(X.ig o).length<=1000000:=by
 unfold Ix.ig;rw[List.length_flatMap];have hl:=hX.ch o.dot;have key:∀ l:List Dt,(l.map λ c=>((X.rj c).filter λ t=> !o.before (X.op t)).length).sum<=l.length*1000:=λ l=>by
  induction l with
  | nil=>simp
  | cons c l ih=>
   rw[List.map_cons,List.sum_cons,List.length_cons,Nat.add_mul,Nat.one_mul];have h1:=List.length_filter_le (λ t=> !o.before (X.op t)) (X.rj c);have h2:=hX.rv c;omega
 exact Nat.le_trans (key _) (Nat.le_trans (Nat.mul_le_mul_right 1000 hl) (by decide))
theorem GP {q:Nat->Bool}{A B:Hp}(h1:A.ok q=true)(h2:B.ok q=true):(A++B:Hp).ok q=true:=by
 unfold Hp.ok at*;rw[List.all_append,h1,h2];rfl
abbrev HT (X:Ix)(o:ag):Hp:=TG X o 4 5
theorem yL (X:Ix)(o:ag){k:Nat}(h:6<=k):(HT X o).ok (λ n=>decide (n<k))=true:=
 ax (by simp;omega) (by simp[Ob.ok,SV.au,SV.ok];omega) (ax (by simp;omega) (by simp[Ob.ok,ag.aj]) (X.yK (by omega)))
end
section
attribute [local irreducible] SW RW aF SC ai ak jN
theorem kR {X:Ix}{d:Dt}(hh:MM.has X.ops d=true):MM.get X.ops d=some (X.op d):=by
 obtain⟨o,ho⟩:=Option.isSome_iff_exists.1 (show(MM.get X.ops d).isSome=true from hh);unfold Ix.op;rw[ho];rfl
theorem GQ (X:Ix)(hX:X.small)(d:Dt)(k:Nat):aF Tryz.prog revoke_Index_Level.f [.ptr 0 0,.agg d.cells] X.h0 k 2 (mE X d) X.h0:=by
 have:=SB.nB [0,1,2,3] (Du X hX d) (by decide) X.N9 k;rw[show X.h0.aC (fz [0,1,2,3] k)=X.h0 by simp[Hp.aC,Ob.aC,SV.aU,SV.aC,fz,cQ,gY],show(mE X d).aC (fz [0,1,2,3] k)=mE X d by unfold mE;split<;>simp[SV.aU,SV.aC]] at this
 simpa[SV.aU,SV.aC,fz,Dt.aA] using this
theorem Dz (X:Ix)(o:ag)(k:Nat):aF Tryz.prog revoke_Index_threats.f [.ptr 0 0,.agg o.cells] X.h0 k 2 (.fn (.func revoke_Index_threats_1.f) [] [.ptr k 0,.ptr (k+1) 0]) ((k+1,.box 43 o.cells)::(k,.box 27 [.ptr 0 0])::X.h0):=by
 have:=SB.nB [0,1,2,3] (Bn X o) (by decide) X.N9 k;have e0:fz [0,1,2,3] k 4=k:=by simp[fz]
 have e1:fz [0,1,2,3] k 5=k+1:=by simp[fz];omega
 simp[SV.aU,SV.aC,e0,e1,fz,ag.aA,Hp.aC,Ob.aC,cQ,gY] at this;rw[Nat.add_comm 1 k] at this;exact this
end
end Go.Proofs.YtaelhkkjgfobhaaGreat
namespace Go.Proofs.YtaelhkkjgfobhaaGreat
open Go.Sl Go.Proofs
section
attribute [local irreducible] SW RW aF SC ai ak jN
section
variable {σ:Type} {Fh:σ->Hp} {nx:σ->ag->Nat->σ} {inv:σ->Nat->Prop} {aX y z b5 b3 b2:Nat}
end
end
section
attribute [local irreducible] SW RW aF SC ai ak jN
def tF (aX:Nat):Nat:=2+1000*(4+jN (1+aX))
section
variable {σ:Type} {Fh:σ->Hp} {nx:σ->ag->Nat->σ} {inv:σ->Nat->Prop} {aX y k:Nat}
theorem Cj (q:Nat->Bool)(m:Nat)(a:Nat)(l:List Nat)(b:Nat)(h:q m=true):(Ob.iter (some m) a l b).ok q=true:=h
end
end
section
attribute [local irreducible] SW RW aF SC ai ak jN tF
end
end Go.Proofs.YtaelhkkjgfobhaaGreat
namespace Go.Proofs.YtaelhkkjgfobhaaGreat
open Go.Sl Go.Proofs
section
def q1:ag:=⟨⟨0,1⟩,aB.zero,1,1,⟨0,1⟩,0,⟨0,0⟩,0,0,0,0,⟨0,0⟩,⟨0,0⟩,0,0,0,.aG⟩
def q2:ag:=⟨⟨0,2⟩,wu 1,2,1,⟨0,1⟩,1,⟨0,1⟩,2,2,0,9,⟨0,0⟩,⟨0,0⟩,0,0,0,.aG⟩
def q3:ag:=⟨⟨0,3⟩,wu 2,3,2,⟨0,1⟩,3,⟨0,2⟩,0,0,0,0,⟨0,0⟩,⟨0,0⟩,0,1,0,.aG⟩
def q4:ag:=⟨⟨0,4⟩,wu 3,4,2,⟨0,1⟩,4,⟨0,2⟩,0,0,0,0,⟨0,3⟩,⟨0,0⟩,0,2,0,.aG⟩
def q5:ag:=⟨⟨1,1⟩,wu 3,4,1,⟨0,1⟩,2,⟨0,1⟩,0,0,0,0,⟨0,2⟩,⟨0,0⟩,0,0,0,.aG⟩
def p1:ag:=q1.nz
def p2:ag:=q2.nz
def p3:ag:=q3.nz
def p4:ag:=q4.nz
def p5:ag:=q5.nz
def bp:List ag:=[p1,p2,p3,p4,p5]
set_option maxRecDepth 100000 in
theorem Pg {P:Program}{env:List (Nat×SV)}{hp:Hp}{k d p q s v w:Nat}{r:List SI}{K:St->List (Bool×List Nat)->Prop}(a b c e g:ag){z:List SV}(hz:z=Eg++(Eg++(Eg++(Eg++Eg))))
  (ha:env.lookup p=some (.agg a.cells)) (hb:env.lookup q=some (.agg b.cells)) (hc:env.lookup s=some (.agg c.cells)) (he:env.lookup v=some (.agg e.cells)) (hg:env.lookup w=some (.agg g.cells))
  (h:RW P r ⟨(d,ops [a,b,c,e,g])::env,hp,k⟩ λ st' ts=>K st' ((false,[])::ts)):RW P (⟨some d,.kK 43 29 5 z [(0,29,.t p),(29,29,.t q),(58,29,.t s),(87,29,.t v),(116,29,.t w)],none⟩::r) ⟨env,hp,k⟩ K:=by
 subst hz;refine RW.cons (e:=⟨ops [a,b,c,e,g],[],[],0,((29=29/\0+29<=145/\29=29/\29+29<=145/\29=29/\58+29<=145/\29=29/\87+29<=145/\29=29/\116+29<=145/\True))⟩) (λ dQ=>⟨.gz::dQ,f_ (.inl rfl) ?_⟩) (by show 29=29/\0+29<=145/\29=29/\29+29<=145/\29=29/\58+29<=145/\29=29/\87+29<=145/\29=29/\116+29<=145/\True;decide) ?_
 .have h1:wL (λ t=>env.lookup t) [(0,29,X.t p),(29,29,X.t q),(58,29,X.t s),(87,29,X.t v),(116,29,X.t w)]=some [(0,29,.agg a.cells),(29,29,.agg b.cells),(58,29,.agg c.cells),(87,29,.agg e.cells),(116,29,.agg g.cells)]:=by
   simp only[wL,ev,ha,hb,hc,he,hg]
  have h2:mK (Eg++(Eg++(Eg++(Eg++Eg)))) [(0,29,.agg a.cells),(29,29,.agg b.cells),(58,29,.agg c.cells),(87,29,.agg e.cells),(116,29,.agg g.cells)]=some (a.cells++(b.cells++(c.cells++(e.cells++g.cells))),((29=29/\0+29<=145/\29=29/\29+29<=145/\29=29/\58+29<=145/\29=29/\87+29<=145/\29=29/\116+29<=145/\True))):=rfl;have h3:e_ (a.cells++(b.cells++(c.cells++(e.cells++g.cells))))=some ([a,b,c,e,g].flatMap ag.ds):=rfl;have h4:(a.cells++(b.cells++(c.cells++(e.cells++g.cells)))).all SV.dR=true:=rfl;simp only[fu,dK,h1,h2,h3,h4,if_true,Bool.false_or];rfl
 .exact h
theorem RW.Bo {P:Program}{d:Nat}{z:List SV}{parts:List (Nat×Nat×X)}{r:List SI}{K:St->List (Bool×List Nat)->Prop}{env:List (Nat×SV)}{hp:Hp}{k:Nat}(cs:List SV){ps:List (Nat×Nat×SV)}{ob:Prop}(h1:wL (λ t=>env.lookup t) parts=some ps)(h2:mK z ps=some (cs,ob))(br:ob)
  (h:Go.Sl.RW P r ⟨(d,.agg cs)::env,hp,k⟩ λ st' ts=>K st' ((true,[])::ts)):Go.Sl.RW P (⟨some d,.fV z parts,none⟩::r) ⟨env,hp,k⟩ K:=
 RW.ET (F:=[]) (F':=[]) (nk:=0) (ob:=ob) rfl rfl rfl (.inl rfl) (by simp only[fu,dK,h1,h2]) br rfl h
section
attribute [local irreducible] SW RW aF SC ai ak jN tF
end
theorem KT:(av bp).at_=[(0,⟨0,1⟩,hc1),(1,⟨0,2⟩,HR)]:=by kernel_rfl
theorem KU:mC (av bp).at_ (MM.get (av bp).at_ ⟨0,1⟩) [hc1]:=by
 rw[KT];exact .root hc1 (by decide)
theorem GR:mC (av bp).at_ (MM.get (av bp).at_ ⟨0,2⟩) [HR,hc1]:=by
 rw[KT];exact .more HR _ (by decide) (.root hc1 (by decide))
theorem KV:fB bp p1=0:=by kernel_rfl
theorem KW:fB bp p2=0:=by kernel_rfl
theorem KX:fB bp p3=0:=by kernel_rfl
theorem KY:fB bp p4=0:=by kernel_rfl
theorem KZ:fB bp p5=0:=Jd GR (by kernel_rfl)
theorem Al:∀ o,o∈bp->o.kind<256/\o.mZ/\o.cl.length<=1048576:=λ o ho=>by
 simp only[bp,List.mem_cons,List.not_mem_nil,or_false] at ho;rcases ho with rfl|rfl|rfl|rfl|rfl
 all_goals exact⟨by decide,O_ rfl,by decide⟩
end
section
theorem qG (l:List Dt):(Dt.set l).Nodup:=(Dt.sorted_perm _).nodup_iff.2 (uj l).keys
section
variable {l:List ag} {S:Sh} (h:dG l S) (hl:l.length<=80)
include h
theorem dG.Og {d:Dt}(hg:S.good d=true):∃ o,aJ l d=some o/\fB l o=0/\S.op d=o/\o.dot=d/\d∈Dt.set (l.map (·.dot)):=by
 rw[h.good] at hg;cases hf:aJ l d with
 | none=>rw[hf] at hg;cases hg
 | some o=>
  rw[hf] at hg;have hd:=eW hf;refine⟨o,rfl,of_decide_eq_true hg,?_,hd,?_⟩
  .rw[h.base.op,bI hf]
  .rw[Dt.mem_set]
   exact List.mem_map.2 ⟨o,sN hf,hd⟩
theorem dG.GS {d:Dt}:(d∈Dt.set (l.map (·.dot))/\S.good d=true)↔S.good d=true:=⟨λ h=>h.2,λ hg=>⟨(h.Og hg).elim λ _ h=>h.2.2.2.2,hg⟩⟩
noncomputable abbrev dG.X (_:dG l S):Ix:=vZ S (Dt.set (l.map (·.dot)))
theorem dG.Mv:Mn S (Dt.set (l.map (·.dot))) h.X:=GF _ _
theorem dG.GU (d:Dt):MM.has h.X.ops d=S.good d:=by
 unfold MM.has;rw[h.Mv.ops];simp only[h.GS];cases S.good d<;>rfl
theorem dG.PI {d:Dt}(hg:S.good d=true):h.X.op d=S.op d:=by
 unfold Ix.op;rw[h.Mv.ops,if_pos (h.GS.2 hg)];rfl
theorem dG.JJ {d:Dt}(hg:S.good d=true):h.X.pV d=S.pV (S.op d):=by
 unfold Ix.pV;rw[h.Mv.ch,if_pos (h.GS.2 hg)];rfl
theorem dG.K4 {d:Dt}(hg:S.good d=false):h.X.pV d=[]:=by
 unfold Ix.pV;rw[h.Mv.ch,if_neg (λ hh=>by rw[hg] at hh;cases hh.2)];rfl
theorem dG.Oh (c:Dt):h.X.rj c=(Dt.set (l.map (·.dot))).filter (S.rv c):=h.Mv.mg c
theorem dG.Ck (o:ag):(S.pV o).length<=9:=by
 unfold Sh.pV
 split
 .simp
 .obtain⟨L,h1,h2⟩:=h.base.sP o.aN
  rw[List.length_map,fI h1];exact h2
include hl
theorem dG.kT:(Dt.set (l.map (·.dot))).length<=80:=by
 have:=(qG (l.map (·.dot))).length_le_of_subset (l₂:=l.map (·.dot)) λ d hd=>Dt.mem_set.1 hd
 simpa using Nat.le_trans this (by simpa using hl)
theorem dG.small:h.X.small:=by
 have hd:=h.kT hl;refine⟨λ d=> ?_,λ c=> ?_,?_,h.Mv.wo⟩
 .cases hg:S.good d with
  | false=>rw[h.K4 hg];simp
  | true=>rw[h.JJ hg];have:=h.Ck (S.op d);omega
 .rw[h.Oh]
  have:=List.length_filter_le (S.rv c) (Dt.set (l.map (·.dot)));omega
 .have:=h.Mv.wo.keys.length_le_of_subset (l₂:=Dt.set (l.map (·.dot))) λ d hd'=>by
   rw[<- MM.ir,h.GU] at hd';exact(h.GS.2 hd').1
  have e:(MM.keys h.X.ops).length=h.X.ops.length:=by simp[MM.keys]
  omega
omit hl
theorem dG.Ph {d:Dt}(hg:S.good d=true):h.X.ig (S.op d)=S.ig (Dt.set (l.map (·.dot))) (S.op d):=by
 obtain⟨o,_,_,e1,e2,_⟩:=h.Og hg;unfold Ix.ig Sh.ig;rw[e1,e2,h.JJ hg,e1]
 congr 1
 funext c
 rw[h.Oh];refine List.filter_congr λ t ht=> ?_
 have:S.good t=true:=by
  have:=(List.mem_filter.1 ht).2;unfold Sh.rv at this;rw[Bool.and_eq_true] at this;exact this.1
 rw[h.PI this]
end
theorem Dt.yM {a b:List Dt}(h:∀ v,v∈a↔v∈b):Dt.set a=Dt.set b:=Dt.iy (Dt.iz _) (Dt.iz _) λ v=>by rw[Dt.mem_set,Dt.mem_set,h]
theorem K5:Dt.set (bp.map (·.dot))=[⟨0,1⟩,⟨0,2⟩,⟨0,3⟩,⟨0,4⟩,⟨1,1⟩]:=(Dt.rP _).symm.trans (by kernel_rfl)
section
variable {S:Sh} (h:dG bp S)
include h
end
end
section
attribute [local irreducible] SW RW aF SC ai ak jN tF
theorem Cl (S:Sh)(n:Nat):(lk S.lU n).isSome=true↔n∈[10,7,8,9,2,0,1]:=by
 rw[Option.isSome_iff_ne_none];constructor
 .intro hn
  obtain⟨ob,ho⟩:=Option.ne_none_iff_exists'.1 hn;have:=(List.mem_map (f:=λ x:Nat×Ob=>x.1)).2 ⟨(n,ob),kQ ho,rfl⟩
  simpa using this
 .intro hn
  simp only[List.mem_cons,List.not_mem_nil,or_false] at hn;rcases hn with rfl|rfl|rfl|rfl|rfl|rfl|rfl<;>simp[aa]
theorem Mw (S:Sh)(X:Ix)(q:Nat->Bool)(h:∀ n,n∈[0,1,2,7,8,9,10,11,12,13,14]->q n=true):(hX S X).ok q=true:=by
 have a:=λ n hn=>h n hn
 refine ax (h 14 (by decide)) ?_ (ax (h 13 (by decide)) (fJ _ _) (ax (h 12 (by decide)) (fJ _ _) (ax (h 11 (by decide)) (bF _ _) (ax (h 10 (by decide)) ?_ (ax (h 7 (by decide)) (bF _ _) (ax (h 8 (by decide)) (bP _ _) (ax (h 9 (by decide)) (oP _ _) (ax (h 2 (by decide)) ?_ (ax (h 0 (by decide)) (kB _ _) (ax (h 1 (by decide)) (bF _ _) rfl))))))))))
 .simp[Ob.ok,SV.au,SV.ok,h 11,h 12,h 13]
 .simp[Ob.ok,SV.au,SV.ok,h 2,h 7,h 8,h 9]
 .simp[Ob.ok,SV.au,SV.ok,h 0,h 1]
theorem JK (S:Sh)(q:Nat->Bool)(h:∀ n,n∈[0,1,2,7,8,9,10]->q n=true):S.lU.ok q=true:=by
 refine ax (h 10 (by decide)) ?_ (ax (h 7 (by decide)) (bF _ _) (ax (h 8 (by decide)) (bP _ _) (ax (h 9 (by decide)) (oP _ _) (ax (h 2 (by decide)) ?_ (ax (h 0 (by decide)) (kB _ _) (ax (h 1 (by decide)) (bF _ _) rfl))))))
 .simp[Ob.ok,SV.au,SV.ok,h 2,h 7,h 8,h 9]
 .simp[Ob.ok,SV.au,SV.ok,h 0,h 1]
theorem dG.Pj {l:List ag}{S:Sh}(h:dG l S)(hl:l.length<=80)(hs:oR S):aF Tryz.prog revoke_New.f [.ptr 10 0] S.lU 11 4 (.ptr 14 0) (hX S h.X):=by
 unfold aF;refine(JB S _ h.base.sP hs (by have:=h.kT hl;omega) (h.GC hl)).here (λ n=>(lk S.lU n).isSome) (λ n hn=>Option.isSome_iff_ne_none.1 hn) (by simp[SV.au,SV.ok,aa]) (JK S _ λ n hn=>(Cl S n).2 (by revert hn;simp;omega)) ?_;rintro r F' ⟨rfl,rfl⟩ _ _;refine⟨by simp[SV.ok],Mw S _ _ λ n hn=> ?_⟩;rw[Bool.or_eq_true]
 by_cases lU:n∈[10,7,8,9,2,0,1]
 .exact .inl ((Cl S n).2 lU)
 .refine .inr ?_
  simp at hn lU ⊢;omega
section
variable {S:Sh} (h:dG bp S)
include h
end
end
section
attribute [local irreducible] SW RW aF SC ai ak jN tF
theorem e9:cq (Dt.mk 0 0).cells 1 [.d (.int .u32 9)]=(Dt.mk 0 9).cells:=rfl
theorem e1:cq (Dt.mk 0 0).cells 1 [.d (.int .u32 1)]=(Dt.mk 0 1).cells:=rfl
theorem e2:cq (Dt.mk 0 0).cells 1 [.d (.int .u32 2)]=(Dt.mk 0 2).cells:=rfl
theorem PJ:cq (cq (Dt.mk 0 0).cells 0 [.d (.int .u8 1)]) 1 [.d (.int .u32 1)]=(Dt.mk 1 1).cells:=rfl
end
section
theorem Dt.qH (l:List Dt):(Dt.set l).length<=l.length:=(qG l).length_le_of_subset λ d hd=>Dt.mem_set.1 hd
section
variable {l:List ag} {S:Sh} (h:dG l S) (hl:l.length<=80)
include h
include hl
theorem dG.um (o:ag):(Dt.set (h.X.ig o)).length<1000000000:=by
 have h1:=Dt.qH (h.X.ig o);have h2:=Go.Proofs.YtaelhkkjgfobhaaGreat.um h.X (h.small hl) o;omega
end
end
section
end
end Go.Proofs.YtaelhkkjgfobhaaGreat
namespace Go.Proofs.YtaelhkkjgfobhaaGreat
open Go.Sl Go.Proofs
section
attribute [local irreducible] SW RW aF SC ai ak
theorem DA {a:MM Dt Cr}{d:Dt}{L:List Cr}(hL:mC a (MM.get a d) L):gW a d L= .de [dn (L.map (·.dot)),.d (.int .i64 (if MM.has a d then 0 else 7))]:=by
 unfold gW MM.has;cases hg:MM.get a d with
 | none=>
  rw[hg] at hL;cases hL;rfl
 | some c=>
  rw[hg] at hL;cases L with
  | nil=>cases hL
  | cons x L=>simp[dn,bg]
noncomputable def bJ (l:List ag)(d:Dt):Bool:=match aJ l d with
 | some o=>decide (fB l o=0)
 | none=>false
theorem SC.Pk {P:Program}{f:FuncId}{a b:List SV}{F:Hp}{k nk:Nat}{Q:SV->Hp->Prop}(L:List Dt)(h:SC P f (a++bg L::b) F k nk Q):SC P f (a++dn L::b) F k nk Q:=by
 cases L with
 | cons d L=>exact h
 | nil=>
  refine SC.args (λ p μ M vs hv=> ?_) h;clear h
  induction a generalizing vs with
  | nil=>
   obtain⟨u,us,e,h1,h2⟩:=aV.aD.1 hv;exact aV.aD.2 ⟨u,us,e,l_ _ _ _ _ h1,h2⟩
  | cons x a ih=>
   obtain⟨u,us,e,h1,h2⟩:=aV.aD.1 hv;exact aV.aD.2 ⟨u,us,e,h1,ih us h2⟩
theorem JL (L:List Dt)(d:Dt)(hl:L.length<1000000000)(k:Nat):aF Tryz.prog ref03_In.f [dn L,.agg d.cells] [] k 0 (.d (.bool (decide (d∈L)))) []:=by
 have:=jq L d hl k;unfold aF at this ⊢;exact SC.Pk (a:=[]) L this
section
variable {l:List ag} (hl:l.length<=80) (hd:∀ x,x∈l->x.aT<256/\x.mZ/\x.dot.wf)
include hl hd
theorem Mx (o:ag):Go.Sl.Pure Tryz.prog ref18_Chain.f [ops l,.agg o.cells] (dn (gZ l o)):=by
 obtain⟨L,hL,Jo,_⟩:=(dF l).sP o.aN;have hc:=xE (by omega) (λ x hx=>(hd x hx).1) (dF l) o.aN L hL (by omega);rw[DA hL] at hc;have e1:gZ l o=if o.kind=0 then [] else L.map (·.dot):=by unfold gZ;rw[fI hL]
 obtain⟨e,he⟩:∃ e:Int,(if MM.has (av l).at_ o.aN then (0:Int) else 7)=e:=⟨_,rfl⟩;rw[he] at hc;rw[e1];have o14:o.cells[14]? =some (.d (.int .u8 o.kind)):=rfl;have o15:List.take 2 (List.drop 15 o.cells)=o.aN.cells:=rfl;refine ref18_Chain.enter (by first|rfl|simp[SV.ok,SV.au]) (by first|rfl|simp[Hp.ok,Ob.ok,SV.ok,SV.au,aB.aj]) (by simp) ?_;dsimp only[ref18_Chain.s,Co.M,Co.J,Co.F,Co.b8,Co.T,Co.K,Co.E,Co.Q,Co.x,Co.D,Co.S]
 by_cases hk:o.kind=0
 .have z:(((o.kind:Nat):Int) == 0)=true:=by rw[hk];rfl
  rw[if_pos hk];(repeat (first|refine SW.seq ?_|refine SW.block ?_|refine SW.g0 [0,1,3,4,5,9] Zm (Zq o14 z) ?_|refine SW.skip ?_|refine SW.exit ?_|refine SW.ret ?_|refine SW.an rfl ?_|refine SW.ah rfl ?_));exact End.mk [] (h4:=⟨rfl,rfl⟩)
 .have z:(((o.kind:Nat):Int) == 0)=false:=by simpa using hk
  rw[if_neg hk];(repeat (first|refine SW.seq ?_|refine SW.block ?_|refine SW.g1 [0,1,3,4,5,9] Zm (Zq o14 (Zq o15 z)) hc ?_|refine SW.skip ?_|refine SW.exit ?_|refine SW.ret ?_|refine SW.an rfl ?_|refine SW.ah rfl ?_));exact End.mk [] (h4:=⟨rfl,rfl⟩) (h5:=Ai _ _)
theorem GV (o:ag)(k:Nat):aF Tryz.prog ref18_Chain.f [ops l,.agg o.cells] [] k 0 (dn (gZ l o)) []:=(Mx hl hd o).sc (Ai _ _) k
theorem rS (o:ag):(gZ l o).length<=9:=by
 obtain⟨L,hL,Jo,_⟩:=(dF l).sP o.aN;unfold gZ;rw[fI hL]
 split
 .simp
 .rw[List.length_map];exact Jo
theorem vD (d:Dt)(k:Nat):aF Tryz.prog ref17_Good.f [ops l,.agg d.cells] [] k 0 (bl (bJ l d)) []:=Dp l hl hd d k
noncomputable def s6 (l:List ag)(r o:ag):Bool:=decide (r.kind=2) && (decide (r.at_∈gZ l o) && !o.before r)
theorem GW (r o:ag):Go.Sl.Pure Tryz.prog ref18_Threatens.f [ops l,.agg r.cells,.agg o.cells] (bl (s6 l r o)):=by
 have r14:r.cells[14]? =some (.d (.int .u8 r.kind)):=rfl;have KO:List.take 2 (List.drop 21 r.cells)=r.at_.cells:=rfl;have hc:=GV hl hd o;have hi:=JL (gZ l o) r.at_ (by have:=rS hl hd o;omega);have hb:=cg o r;refine ref18_Threatens.enter (by first|rfl|simp[SV.ok,SV.au]) (by first|rfl|simp[Hp.ok,Ob.ok,SV.ok,SV.au,aB.aj]) (by simp) ?_;dsimp only[ref18_Threatens.s,Co.M,Co.G,Co.J,Co.H,Co.F,Co.C,Co.B,Co.b8,Co.T,Co.x,Co.U,Co.D,Co.S];refine SW.seq (SW.g0 gS Zm af ?_);refine SW.seq ?_
 by_cases hk:r.kind=2
 .have z:(((r.kind:Nat):Int) == 2)=true:=by rw[hk];rfl
  have e1:s6 l r o=(decide (r.at_∈gZ l o) && !o.before r):=by unfold s6;rw[hk];rfl
  rw[e1];rcases hx:decide (r.at_∈gZ l o) with _|_
  .rw[hx] at hi
   refine SW.g2 gS Zm (Zq r14 (Zq KO z)) hc hi ?_;refine SW.ret ?_;exact End.mk [] (h4:=⟨rfl,rfl⟩)
  .rw[hx] at hi
   refine SW.g4 gS Zm (Zq r14 (Zq KO z)) hc hi hb trivial ?_;refine SW.ret ?_;exact End.mk [] (h4:=⟨rfl,rfl⟩)
 .have z:(((r.kind:Nat):Int) == 2)=false:=by simp;omega
  have e1:s6 l r o=false:=by unfold s6;rw[decide_eq_false hk];rfl
  rw[e1];refine SW.g0 gS Zm (Zq r14 z) ?_;refine SW.ret ?_;exact End.mk [] (h4:=⟨rfl,rfl⟩)
theorem Am (r o:ag)(k:Nat):aF Tryz.prog ref18_Threatens.f [ops l,.agg r.cells,.agg o.cells] [] k 0 (bl (s6 l r o)) []:=(GW hl hd r o).sc rfl k
end
end
section
attribute [local irreducible] SW RW aF SC ai ak
theorem rT (s:List Dt)(x:Dt):(s++[x]).length=s.length+ [x].length:=by simp
theorem vE (s:List Dt)(x:Dt):List.map SV.d ((s++[x]).flatMap Dt.ds)=List.map SV.d (s.flatMap Dt.ds)++List.map SV.d ([x].flatMap Dt.ds):=by simp
noncomputable def ow (l:List ag):List Dt:=(l.filter λ o=>bJ l o.dot).map (·.dot)
noncomputable def bn (l:List ag):List Dt:=Dt.set (ow l)
theorem jh {l:List ag}{d:Dt}:d∈bn l↔bJ l d=true:=by
 unfold bn ow;rw[Dt.mem_set,List.mem_map];constructor
 .rintro⟨o,ho,rfl⟩
  exact(List.mem_filter.1 ho).2
 .intro h
  unfold bJ at h;cases hf:aJ l d with
  | none=>rw[hf] at h;cases h
  | some o=>
   have hd:=eW hf;refine⟨o,List.mem_filter.2 ⟨sN hf,?_⟩,hd⟩;rw[hd];unfold bJ;rw[hf] at h ⊢;exact h
section
variable {l:List ag} (hl:l.length<=80) (hd:∀ x,x∈l->x.aT<256/\x.mZ/\x.dot.wf)
include hl hd
theorem s7:(bn l).length<=80:=by
 have h1:=Dt.qH (ow l);have h2:(ow l).length<=l.length:=by unfold ow;rw[List.length_map];exact List.length_filter_le _ _
 unfold bn;omega
set_option maxHeartbeats 4000000 in
theorem DB:Go.Sl.Pure Tryz.prog ref18_Good.f [ops l] (bg (bn l)):=by
 refine ref18_Good.enter (by first|rfl|simp[SV.ok,SV.au]) (by first|rfl|simp[Hp.ok,Ob.ok,SV.ok,SV.au,aB.aj]) (by simp) ?_;dsimp only[ref18_Good.s,Co.M,Co.J,Co.F,Co.Z,Co.b8,Co.ay,Co.K,Co.L,Co.P,Co.Q,Co.Y,Co.V,Co.D,Co.I,Co.S];refine SW.seq (SW.g0 ft Zm af ?_);refine SW.seq (SW.g0 ft Zm af ?_);refine SW.iN 3 37 2 rfl ?_;refine SW.seq (SW.seq (SW.g0 ft Zm af ?_));refine SW.block (SW.lG (α:={i:Nat // i<=l.length}) (λ i=>⟨[(4,i64 i.1),(3,.gs 0 (((l.take i.1).filter λ o=>bJ l o.dot).map (·.dot)).length),(0,ops l)],[(0,.arr 37 2 (((l.take i.1).filter λ o=>bJ l o.dot).map (·.dot)).length (((((l.take i.1).filter λ o=>bJ l o.dot).map (·.dot)).flatMap Dt.ds).map .d))],1⟩) (λ i=>l.length - i.1) ⟨0,by omega⟩ id af (round:= ?_));rintro⟨i,hi⟩;dsimp only
 by_cases h:i<l.length
 .obtain⟨x,hx⟩:=aP h
  have h1:decide ((i:Int)<l.length)=true:=by simp only[decide_eq_true_eq];omega
  have e2:IntKind.i64.wrap ((i:Int)+1)=((i+1:Nat):Int):=wrap_i64 _ (by omega);have hg:=vD hl hd x.dot;have fq:(((l.take i).filter λ o=>bJ l o.dot).map (·.dot)).length<=80:=by
   rw[List.length_map];have:=List.length_filter_le (λ o=>bJ l o.dot) (l.take i);have h3:(l.take i).length<=l.length:=by rw[List.length_take];omega
   omega
  refine SW.seq (SW.seq (SW.g0 ft Zm h1 ?_));refine SW.an rfl (SW.skip (SW.seq (SW.block (SW.seq ?_))));rcases hgx:bJ l x.dot with _|_
  .rw[hgx] at hg
   have hsn:(((l.take (i+1)).filter λ o=>bJ l o.dot).map (·.dot))=((l.take i).filter λ o=>bJ l o.dot).map (·.dot):=by rw[bt hx,List.filter_append,List.map_append];simp[hgx]
   generalize ((l.take i).filter λ o=>bJ l o.dot).map (·.dot)=s at hsn fq ⊢;refine SW.g1 ft Zm (Zq (n_ hx) (lJ hx)) hg ?_;refine SW.ah rfl (SW.skip (SW.g0 ft Zm e2 ?_));refine⟨⟨i+1,by omega⟩,id,by show l.length - (i+1)<_;omega,?_⟩;dsimp only;rw[hsn];exact aH.mk af
  .rw[hgx] at hg
   have hsn:(((l.take (i+1)).filter λ o=>bJ l o.dot).map (·.dot))=((l.take i).filter λ o=>bJ l o.dot).map (·.dot)++[x.dot]:=by rw[bt hx,List.filter_append,List.map_append];simp[hgx]
   generalize ((l.take i).filter λ o=>bJ l o.dot).map (·.dot)=s at hsn fq ⊢;refine SW.g1 ft Zm (Zq (n_ hx) (lJ hx)) hg ?_;refine SW.an rfl (SW.g0 ft Zm (Zq (n_ hx) (lJ hx)) ?_);refine SW.g0 ft Zm e2 ?_;refine⟨⟨i+1,by omega⟩,λ n=>if n=0 then 1 else n,by show l.length - (i+1)<_;omega,?_⟩;dsimp only;rw[hsn];exact aH.mk (Zq (rT s x.dot) (vE s x.dot))
 .have h1:decide ((i:Int)<l.length)=false:=by simp only[decide_eq_false_iff_not];omega
  have h2:i=l.length:=by omega
  subst h2;rw[List.take_length];have hs:=z7 (ow l) (by unfold ow;rw[List.length_map];have:=List.length_filter_le (λ o=>bJ l o.dot) l;omega) (λ v hv=>by
   unfold ow at hv;obtain⟨o,ho,rfl⟩:=List.mem_map.1 hv;exact(hd o (List.mem_filter.1 ho).1).2.2)
  refine SW.seq (SW.seq (SW.g0 ft Zm h1 ?_));refine SW.ah rfl (SW.exit (SW.freeze 0 ((ow l).flatMap Dt.ds) rfl rfl ?_));simp only[iM,SV.gz,List.map_cons,List.map_nil,if_true,if_false,reduceIte,bY,Nat.reduceEqDiff];refine SW.seq (SW.g1 ft Zm af hs ?_);refine SW.ret ?_;exact End.mk [] (h4:=⟨rfl,rfl⟩)
theorem s8 (k:Nat):aF Tryz.prog ref18_Good.f [ops l] [] k 0 (bg (bn l)) []:=(DB hl hd).sc rfl k
end
end
section
attribute [local irreducible] SW RW aF SC ai ak
noncomputable def rU (l:List ag)(d:Dt)(v:Dt):Bool:=decide ((j4 l v).kind=2) && decide ((j4 l v).at_=d)
noncomputable def j7 (l:List ag)(d:Dt)(v:Dt):Bool:=s6 l (j4 l v) (j4 l d)
noncomputable def mq (l:List ag)(d:Dt):SV:=if bJ l d then .de [.d (.int .i64 (((gZ l (j4 l d)).length:Int) - 1)),bl true] else .de [i64 0,bl false]
noncomputable def tG (l:List ag)(d:Dt):SV:=if bJ l d then .de [bg ((bn l).filter (j7 l d)),bl true] else .de [.d .aG,bl false]
theorem rV (l:List ag)(hl:l.length<4611686018427387904)(d:Dt)(k:Nat):aF Tryz.prog ref10_Find.f [ops l,.agg d.cells] [] k 0 (.de [.agg (j4 l d).cells,bl (aJ l d).isSome]) []:=pO l hl d k
section
variable {l:List ag} (hl:l.length<=80) (hd:∀ x,x∈l->x.aT<256/\x.mZ/\x.dot.wf)
include hl hd
theorem DC (d:Dt):Go.Sl.Pure Tryz.prog ref18_Level.f [ops l,.agg d.cells] (mq l d):=by
 have hg:=vD hl hd d;have hf:=rV l (by omega) d;have hc:=GV hl hd (j4 l d);have lV:=rS hl hd (j4 l d);refine ref18_Level.enter (by first|rfl|simp[SV.ok,SV.au]) (by first|rfl|simp[Hp.ok,Ob.ok,SV.ok,SV.au,aB.aj]) (by simp) ?_;dsimp only[ref18_Level.s,Co.M,Co.J,Co.F,Co.Z,Co.B,Co.bC,Co.K,Co.E,Co.L,Co.Q,Co.x,Co.W,Co.Y,Co.O,Co.S];refine SW.seq (SW.g0 gt Zm af ?_);refine SW.seq (SW.seq ?_);rcases hgd:bJ l d with _|_
 .rw[hgd] at hg
  have e1:mq l d= .de [i64 0,bl false]:=by unfold mq;rw[hgd];rfl
  rw[e1];refine SW.g1 gt Zm af hg ?_;refine SW.an rfl (SW.seq (SW.g0 gt Zm af ?_));refine SW.ret ?_;exact End.mk [] (h4:=⟨rfl,rfl⟩)
 .rw[hgd] at hg
  have e1:mq l d= .de [.d (.int .i64 (((gZ l (j4 l d)).length:Int) - 1)),bl true]:=by unfold mq;rw[hgd];rfl
  rw[e1];generalize j4 l d=o at hf hc lV ⊢;generalize gZ l o=L at hc lV ⊢;refine SW.g1 gt Zm af hg ?_;refine SW.ah rfl (SW.skip (SW.seq (SW.g1 gt Zm af hf ?_)));refine SW.seq ?_;have hw:IntKind.i64.wrap ((L.length:Int) - 1)=(L.length:Int) - 1:=wrap_i64 _ (by omega);cases L with
  | nil=>
   change ∀ k,aF Tryz.prog ref18_Chain.f [ops l,.agg o.cells] [] k 0 (.d .aG) [] at hc;refine SW.g1 gt Zm af hc ?_;refine SW.ret ?_;exact End.mk [] (h4:=⟨by simp[ez],rfl⟩)
  | cons c L=>
   change ∀ k,aF Tryz.prog ref18_Chain.f [ops l,.agg o.cells] [] k 0 (bg (c::L)) [] at hc;refine SW.g1 gt Zm hw hc ?_;refine SW.ret ?_;exact End.mk [] (h4:=⟨by simp[ez],rfl⟩)
theorem DD (d:Dt)(k:Nat):aF Tryz.prog ref18_Level.f [ops l,.agg d.cells] [] k 0 (mq l d) []:=(DC hl hd d).sc (by unfold mq;split<;>rfl) k
set_option maxHeartbeats 4000000 in
theorem My (d:Dt):Go.Sl.Pure Tryz.prog ref18_Revokes.f [ops l,.agg d.cells] (bg ((bn l).filter (rU l d))):=by
  refine ref18_Revokes.enter (by first|rfl|simp[SV.ok,SV.au]) (by first|rfl|simp[Hp.ok,Ob.ok,SV.ok,SV.au,aB.aj]) (by simp) ?_;dsimp only[ref18_Revokes.s,Co.M,Co.J,Co.H,Co.F,Co.Z,Co.b8,Co.ay,Co.bC,Co.T,Co.K,Co.E,Co.L,Co.P,Co.Q,Co.x,Co.W,Co.Y,Co.V,Co.U,Co.D,Co.I,Co.S];refine SW.seq (SW.g0 dd Zm af ?_);refine SW.seq ?_;have sx:=s8 hl hd;refine SW.g1 dd Zm af sx ?_;refine SW.seq (SW.g0 dd Zm af ?_);refine SW.iN 6 37 2 rfl ?_;refine SW.seq (SW.seq (SW.g0 dd Zm af ?_));refine SW.block ?_;have hgl:=s7 hl hd;refine SW.lG (α:={i:Nat // i<=(bn l).length}) (λ i=>⟨[(7,i64 i.1),(6,.gs 1 (((bn l).take i.1).filter (rU l d)).length),(5,bg (bn l)),(3,.ptr 0 0),(0,ops l)],[(1,.arr 37 2 (((bn l).take i.1).filter (rU l d)).length (((((bn l).take i.1).filter (rU l d)).flatMap Dt.ds).map .d)),(0,.box 37 d.cells)],2⟩) (λ i=>(bn l).length - i.1) ⟨0,by omega⟩ id af (round:= ?_);rintro⟨i,hi⟩;dsimp only
  by_cases h:i<(bn l).length
  . obtain⟨v,hx⟩:=aP h
    have h1:decide ((i:Int)<(bn l).length)=true:=by simp only[decide_eq_true_eq];omega
    have e2:IntKind.i64.wrap ((i:Int)+1)=((i+1:Nat):Int):=wrap_i64 _ (by omega);have hfv:=rV l (by omega) v;have fq:(((bn l).take i).filter (rU l d)).length<=80:=by
      have h2:=List.length_filter_le (rU l d) ((bn l).take i);have h3:((bn l).take i).length<=(bn l).length:=by rw[List.length_take];omega
      omega
    refine SW.seq (SW.seq (SW.g0 dd Zm h1 ?_));refine SW.an rfl (SW.skip (SW.seq (SW.block (SW.seq ?_))));rcases hp:rU l d v with _|_
    . have hsn:((bn l).take (i+1)).filter (rU l d)=((bn l).take i).filter (rU l d):=by rw[bt hx,List.filter_append];simp[hp]
      generalize ((bn l).take i).filter (rU l d)=s at hsn fq ⊢;have hpe:(decide ((j4 l v).kind=2) && decide ((j4 l v).at_=d))=false:=hp;generalize j4 l v=r at hfv hpe;have r14:r.cells[14]? =some (.d (.int .u8 r.kind)):=rfl;have KO:List.take 2 (List.drop 21 r.cells)=r.at_.cells:=rfl;refine SW.g1 dd Zm (b_ hx) hfv ?_;refine SW.cut (stM:=⟨[(35,bl false),(7,i64 i),(6,.gs 1 s.length),(5,bg (bn l)),(3,.ptr 0 0),(0,ops l)],[(1,.arr 37 2 s.length ((s.flatMap Dt.ds).map .d)),(0,.box 37 d.cells)],3⟩) id ?_ ?_
      . by_cases hk:r.kind=2
        . have z:(((r.kind:Nat):Int) == 2)=true:=by rw[hk];rfl
          have f:decide (r.at_=d)=false:=by rw[hk] at hpe;exact hpe
          refine SW.g0 dd Zm (Zq r14 (Zq KO (Zq z f))) ?_;exact aH.mk af
        . have z:(((r.kind:Nat):Int) == 2)=false:=by simp;omega
          refine SW.g0 dd Zm (Zq r14 (Zq KO z)) ?_;exact aH.mk af
      refine SW.ah rfl (SW.skip (SW.g0 dd Zm e2 ?_));refine⟨⟨i+1,by omega⟩,id,by show(bn l).length - (i+1)<_;omega,?_⟩;dsimp only;rw[hsn];exact aH.mk af
    . have hsn:((bn l).take (i+1)).filter (rU l d)=((bn l).take i).filter (rU l d)++[v]:=by rw[bt hx,List.filter_append];simp[hp]
      generalize ((bn l).take i).filter (rU l d)=s at hsn fq ⊢;have hpe:(decide ((j4 l v).kind=2) && decide ((j4 l v).at_=d))=true:=hp;generalize j4 l v=r at hfv hpe;have r14:r.cells[14]? =some (.d (.int .u8 r.kind)):=rfl;have KO:List.take 2 (List.drop 21 r.cells)=r.at_.cells:=rfl;refine SW.g1 dd Zm (b_ hx) hfv ?_;refine SW.seq ?_;rw[Bool.and_eq_true,decide_eq_true_eq] at hpe;have z:(((r.kind:Nat):Int) == 2)=true:=by rw[hpe.1];rfl
      have f:=hpe.2;refine SW.g0 dd Zm (Zq r14 (Zq KO (Zq z f))) ?_;refine SW.an rfl (SW.g0 dd Zm (b_ hx) ?_);refine SW.g0 dd Zm e2 ?_;refine⟨⟨i+1,by omega⟩,λ n=>if n=1 then 3 else n,by show(bn l).length - (i+1)<_;omega,?_⟩;dsimp only;rw[hsn];exact aH.mk (Zq (rT s v) (vE s v))
  . have h1:decide ((i:Int)<(bn l).length)=false:=by simp only[decide_eq_false_iff_not];omega
    have h2:i=(bn l).length:=by omega
    subst h2;rw[List.take_length];refine SW.seq (SW.seq (SW.g0 dd Zm h1 ?_));refine SW.ah rfl (SW.exit (SW.freeze 1 (((bn l).filter (rU l d)).flatMap Dt.ds) rfl rfl ?_));simp only[iM,SV.gz,List.map_cons,List.map_nil,if_true,if_false,reduceIte,bY,Nat.reduceEqDiff];refine SW.seq (SW.g0 dd Zm af ?_);refine SW.ret ?_;exact End.mk [] (h4:=⟨rfl,rfl⟩)
set_option maxHeartbeats 4000000 in
theorem DE (d:Dt):Go.Sl.Pure Tryz.prog ref18_Threats.f [ops l,.agg d.cells] (tG l d):=by
 have hg:=vD hl hd d;have hf:=rV l (by omega) d;refine ref18_Threats.enter (by first|rfl|simp[SV.ok,SV.au]) (by first|rfl|simp[Hp.ok,Ob.ok,SV.ok,SV.au,aB.aj]) (by simp) ?_;dsimp only[ref18_Threats.s,Co.M,Co.J,Co.F,Co.Z,Co.B,Co.b8,Co.ay,Co.bC,Co.K,Co.E,Co.L,Co.P,Co.Q,Co.R,Co.x,Co.W,Co.Y,Co.V,Co.O,Co.I,Co.S];refine SW.seq (SW.g0 bv Zm af ?_);refine SW.seq (SW.seq ?_);rcases hgd:bJ l d with _|_
 .rw[hgd] at hg
  have e1:tG l d= .de [.d .aG,bl false]:=by unfold tG;rw[hgd];rfl
  rw[e1];refine SW.g1 bv Zm af hg ?_;refine SW.an rfl (SW.seq (SW.g0 bv Zm af ?_));refine SW.ret ?_;exact End.mk [] (h4:=⟨rfl,rfl⟩)
 rw[hgd] at hg;have e1:tG l d= .de [bg ((bn l).filter (j7 l d)),bl true]:=by unfold tG;rw[hgd];rfl
 rw[e1];refine SW.g1 bv Zm af hg ?_;refine SW.ah rfl (SW.skip (SW.seq (SW.g1 bv Zm af hf ?_)));refine SW.seq ?_;have sx:=s8 hl hd;refine SW.g1 bv Zm af sx ?_;refine SW.seq (SW.g0 bv Zm af ?_);refine SW.iN 9 37 2 rfl ?_;refine SW.seq (SW.seq (SW.g0 bv Zm af ?_));refine SW.block ?_;have hgl:=s7 hl hd;refine SW.lG (α:={i:Nat // i<=(bn l).length}) (λ i=>⟨[(10,i64 i.1),(9,.gs 2 (((bn l).take i.1).filter (j7 l d)).length),(8,bg (bn l)),(6,.ptr 1 0),(0,ops l)],[(2,.arr 37 2 (((bn l).take i.1).filter (j7 l d)).length (((((bn l).take i.1).filter (j7 l d)).flatMap Dt.ds).map .d)),(1,.box 43 (j4 l d).cells)],3⟩) (λ i=>(bn l).length - i.1) ⟨0,by omega⟩ id af (round:= ?_);rintro⟨i,hi⟩;dsimp only
 by_cases h:i<(bn l).length
 .obtain⟨v,hx⟩:=aP h
  have h1:decide ((i:Int)<(bn l).length)=true:=by simp only[decide_eq_true_eq];omega
  have e2:IntKind.i64.wrap ((i:Int)+1)=((i+1:Nat):Int):=wrap_i64 _ (by omega);have hfv:=rV l (by omega) v;have fq:(((bn l).take i).filter (j7 l d)).length<=80:=by
   have h2:=List.length_filter_le (j7 l d) ((bn l).take i);have h3:((bn l).take i).length<=(bn l).length:=by rw[List.length_take];omega
   omega
  refine SW.seq (SW.seq (SW.g0 bv Zm h1 ?_));refine SW.an rfl (SW.skip (SW.seq (SW.block (SW.seq ?_))));rcases hp:j7 l d v with _|_
  .have hsn:((bn l).take (i+1)).filter (j7 l d)=((bn l).take i).filter (j7 l d):=by rw[bt hx,List.filter_append];simp[hp]
   generalize ((bn l).take i).filter (j7 l d)=s at hsn fq ⊢;have hT:=Am hl hd (j4 l v) (j4 l d);rw[show s6 l (j4 l v) (j4 l d)=false from hp] at hT;refine SW.g2 bv Zm (b_ hx) hfv hT ?_;refine SW.seq (SW.g2 bv Zm af hfv hT ?_);refine SW.ah rfl (SW.skip (SW.g0 bv Zm e2 ?_));refine⟨⟨i+1,by omega⟩,id,by show(bn l).length - (i+1)<_;omega,?_⟩;dsimp only;rw[hsn];exact aH.mk af
  .have hsn:((bn l).take (i+1)).filter (j7 l d)=((bn l).take i).filter (j7 l d)++[v]:=by rw[bt hx,List.filter_append];simp[hp]
   generalize ((bn l).take i).filter (j7 l d)=s at hsn fq ⊢;have hT:=Am hl hd (j4 l v) (j4 l d);rw[show s6 l (j4 l v) (j4 l d)=true from hp] at hT;refine SW.g2 bv Zm (b_ hx) hfv hT ?_;refine SW.seq (SW.g2 bv Zm af hfv hT ?_);refine SW.an rfl (SW.g0 bv Zm (b_ hx) ?_);refine SW.g0 bv Zm e2 ?_;refine⟨⟨i+1,by omega⟩,λ n=>if n=2 then 4 else n,by show(bn l).length - (i+1)<_;omega,?_⟩;dsimp only;rw[hsn];exact aH.mk (Zq (rT s v) (vE s v))
 .have h1:decide ((i:Int)<(bn l).length)=false:=by simp only[decide_eq_false_iff_not];omega
  have h2:i=(bn l).length:=by omega
  subst h2;rw[List.take_length];refine SW.seq (SW.seq (SW.g0 bv Zm h1 ?_));refine SW.ah rfl (SW.exit (SW.freeze 2 (((bn l).filter (j7 l d)).flatMap Dt.ds) rfl rfl ?_));simp only[iM,SV.gz,List.map_cons,List.map_nil,if_true,if_false,reduceIte,bY,Nat.reduceEqDiff];refine SW.seq (SW.g0 bv Zm af ?_);refine SW.ret ?_;exact End.mk [] (h4:=⟨rfl,rfl⟩)
theorem DF (d:Dt)(k:Nat):aF Tryz.prog ref18_Threats.f [ops l,.agg d.cells] [] k 0 (tG l d) []:=(DE hl hd d).sc (by unfold tG;split<;>rfl) k
end
end
end Go.Proofs.YtaelhkkjgfobhaaGreat
