/-
 Revoke: rows of dots that grow, one by one.
-/
import Derived.Test.YtaelhkkjgfobhaaGreatUO
set_option linter.unusedSectionVars false
set_option linter.unusedVariables false
set_option linter.unusedSimpArgs false
namespace Go.Proofs.YtaelhkkjgfobhaaGreat
open Go.Sl Go.Proofs
section
attribute [local irreducible] SW RW aG SC ai ak
structure CQ where
 l:List Dt
 rn:Nat
theorem IL (d:Dt):SB Tryz.prog revoke_Index_Threats_1.f [.agg d.cells] [] 0 2 λ r F=>r= .agg d.cells/\F=[]:=by
 refine revoke_Index_Threats_1.enter (by simp [SV.av,SV.ok]) rfl (by simp) ?_;dsimp only [revoke_Index_Threats_1.s,Co.J,Co.F,Co.b8,Co.ay,Co.K,Co.x,Co.W,Co.S];have s1:bX [SV.d (.int .u8 0),.d (.int .u32 0)] 0 d.cells=d.cells:=rfl;(repeat (first | refine SW.seq ?_ | refine SW.block ?_ | refine SW.g0 [0,1,2] Zm s1 ?_ | refine SW.skip ?_ | refine SW.exit ?_ | refine SW.ret ?_ | refine SW.an rfl ?_ | refine SW.ah rfl ?_));exact End.mk [] (h4:=⟨rfl,rfl⟩)
theorem IN (d:Dt)(k:Nat):aG Tryz.prog revoke_Index_Threats_1.f [.agg d.cells] [] k 2 (.agg d.cells) []:=by
 have:=SB.new (IL d) k
 simpa [SV.aR,SV.aC,Dt.aA,Hp.aC] using this
def ia (y bx bf:Nat)(ca cb:Code)(s:CQ):Hp:=
 [(y,.pJ 17 [5,3] [.ptr bx 0,.ptr bf 0] [8] ca cb .ready none),(bx,.box 31 [.gs s.rn s.l.length]),(bf,.box 123 [.fn (.func revoke_Index_Threats_1.f) [] []]),(s.rn,.arr 37 2 s.l.length ((s.l.flatMap Dt.ds).map .d))]
def M7 (y bx bf:Nat)(s:CQ)(j:Nat):Prop:=(s.rn≠y/\s.rn≠bx/\s.rn≠bf)/\s.l.length+j<=100000000000
def M8 (s:CQ)(x:Dt)(k:Nat):CQ:=⟨s.l++[x],k+3⟩
set_option maxHeartbeats 4000000 in
theorem M9 {y bx bf:Nat}(h1:y≠bx)(h2:y≠bf)(h3:bx≠bf){ca cb:Code}
    (hca:cK Tryz.prog 17 ca=some (.fG [⟨some 6,.alloc 37 [.d (.int .u8 0),.d (.int .u32 0)],none⟩,⟨none,.store 2 (.t 6) (.t 8),none⟩] (nR 2) false))
    (hcb:cK Tryz.prog 17 cb=some (.block 1 (.fG [⟨some 9,.load none (.t 5),none⟩,⟨some 10,.load none (.t 3),none⟩,⟨some 11,.load (some 2) (.t 6),none⟩,⟨some 12,.call (.t 10) [(.t 11)],none⟩,⟨some 13,.od 37 2 1 [.d (.int .u8 0),.d (.int .u32 0)] [(0,2,.t 12)],none⟩,⟨some 14,.app 37 2 8 (.t 9) (.t 13),none⟩,⟨none,.store 1 (.t 5) (.t 14),none⟩] [0,0,0,6,14,31,63] true))):
    FX Tryz.prog y (λ x:Dt=> .agg x.cells) 4 (ia y bx bf ca cb) M8 (M7 y bx bf):=by
  have f1:=bT h1;have f2:=bT h2;have f3:=bT h3;refine ⟨λ s=>by simp [ia,aa],λ s j hinv x hx=> ?_,λ s j hinv=> ?_,λ s x k j hinv hok=> ?_⟩;rotate_left
  . obtain ⟨⟨a1,a2,a3⟩,_⟩:=hinv
    simp [ia,Hp.ok,Ob.ok,SV.av,SV.ok,SV.aX,aa,f1,f2,f3,bT a1,bT a2,bT a3]
  rotate_left
  . obtain ⟨⟨a1,a2,a3⟩,_⟩:=hinv
    have g1:=bT a1;have g2:=bT a2;have g3:=bT a3;simp only [ia,List.mem_cons,List.not_mem_nil,or_false] at hx;rcases hx with rfl | rfl | rfl | rfl <;> simp [ia,aa,f1,f2,f3,g1,g2,g3]
  . obtain ⟨l,rn⟩:=s
    obtain ⟨⟨a1,a2,a3⟩,hlen⟩:=hinv;dsimp only at a1 a2 a3 hlen;have g1:=bT a1;have g2:=bT a2;have g3:=bT a3;simp only [ia,Hp.ok,List.all_cons,List.all_nil,Ob.ok,SV.av,SV.ok,SV.aX,Bool.and_true,Bool.and_eq_true,decide_eq_true_eq] at hok;obtain ⟨⟨k1,_⟩,⟨k2,_⟩,k3,k4⟩:=hok;have q1:=bT (show k≠y by omega);have q2:=bT (show k≠bx by omega);have q3:=bT (show k≠bf by omega);have q4:=bT (show k≠rn by omega);have w0:=bT (show k+3≠k by omega);have w1:=bT (show k+3≠y by omega);have w2:=bT (show k+3≠bx by omega);have w3:=bT (show k+3≠bf by omega);have w4:=bT (show k+3≠rn by omega);have ea:k+1+2=k+3:=rfl;have hF :∀ n,lk (ia y bx bf ca cb ⟨l++[x],k+3⟩) n≠none->lk (ia y bx bf ca cb ⟨l,rn⟩) n≠none\/(k<=n/\n<k+4):=λ n hn=>by
      by_cases e1:n=y
      . exact .inl (by simp [ia,aa,e1])
      . by_cases e2:n=bx
        . exact .inl (by simp [ia,aa,e2,f1])
        . by_cases e3:n=bf
          . exact .inl (by simp [ia,aa,e3,f2,f3])
          . refine .inr ?_
            have:n=k+3:=Classical.byContradiction λ hne=>hn (by simp [ia,aa,bt,e1,e2,e3,hne])
            omega
    refine ⟨?_,⟨⟨by show k+3≠y;omega,by show k+3≠bx;omega,by show k+3≠bf;omega⟩,by show (l++[x]).length+j<=_;rw [List.length_append];show l.length+1+j<=_;omega⟩,?_,hF⟩
    . unfold Mh
      refine Dv.here (λ n=>n == y || n == bx || n == bf || n == rn) (Dv.tu (cs:=[.ptr bx 0,.ptr bf 0]) (H:=[(bx,.box 31 [.gs rn l.length]),(bf,.box 123 [.fn (.func revoke_Index_Threats_1.f) [] []]),(rn,.arr 37 2 l.length ((l.flatMap Dt.ds).map .d))]) hca hcb rfl rfl rfl (by simp) k1 (by simp [aa,bt,f1,f2,g1]) (by simp [SV.av,SV.ok,Dt.aj]) (by simp [Hp.ok,Ob.ok,SV.av,SV.ok,SV.aX];omega) (by simp [SV.av,SV.ok];omega) ?_) ?_ (by simp [SV.av,SV.ok,Dt.aj]) (by simp [ia,Hp.ok,Ob.ok,SV.av,SV.ok,SV.aX]) ?_
      . skip
        show Go.Sl.SW _ _ _ _ ⟨[(8,.agg x.cells),(5,.ptr bx 0),(3,.ptr bf 0)],_,_⟩ _;refine SW.g0 [3,5,6,8] Zm (Zq f1 (Zq f2 (Zq f3 (Zq g1 (Zq g2 (Zq g3 (Zq q1 (Zq q2 (Zq q3 q4))))))))) ?_;refine ⟨rfl,SW.block ?_⟩;have hcc:=λ k=>IN x k
        refine SW.gK [3,5,6,8] Zm (Zq f1 (Zq f2 (Zq f3 (Zq g1 (Zq g2 (Zq g3 (Zq q1 (Zq q2 (Zq q3 (Zq q4 (Zq w0 (Zq w1 (Zq w2 (Zq w3 (Zq w4 ea))))))))))))))) (Zq f1 (Zq f2 (Zq f3 (Zq g1 (Zq g2 (Zq g3 (Zq q1 (Zq q2 (Zq q3 (Zq q4 (Zq w0 (Zq w1 (Zq w2 (Zq w3 w4)))))))))))))) (Zq hcc True.intro) ?_;have e2:((l++[x]).flatMap Dt.ds).map SV.d=(List.flatMap Dt.ds l).map SV.d++x.ds.map SV.d:=by simp
        refine ⟨none,true,[(bx,.box 31 [.gs (k+3) (l++[x]).length]),(bf,.box 123 [.fn (.func revoke_Index_Threats_1.f) [] []]),(k+3,.arr 37 2 (l++[x]).length (((l++[x]).flatMap Dt.ds).map .d))],⟨rfl,rfl⟩,?_,?_,by simp,⟨rfl,rfl⟩⟩
        . refine HSub.cons ?_ (HSub.cons ?_ (HSub.cons ?_ (HSub.nil _)))
          . simp [aa,f1,f2,f3,g1,g2,g3,q1,q2,q3,q4,w0,w1,w2,w3,w4,bX]
          . simp [aa,f1,f2,f3,g1,g2,g3,q1,q2,q3,q4,w0,w1,w2,w3,w4,bX]
          . rw [e2];simp [aa,Dt.oq]
        . simp [Hp.ok,Ob.ok,SV.av,SV.ok,SV.aX,-List.flatMap_append,-List.map_append];omega
      . intro n hn
        simp only [Bool.or_eq_true,beq_iff_eq] at hn;rcases hn with ((rfl | rfl) | rfl) | rfl <;> simp [ia,aa,f1,f2,f3,g1,g2,g3]
      . rintro r F' ⟨rfl,rfl⟩ _ _
        refine ⟨rfl,?_⟩;simp [M8,ia,Hp.ok,Ob.ok,SV.av,SV.ok,SV.aX,-List.flatMap_append,-List.map_append]
    . simp [M8,ia,Hp.ok,Ob.ok,SV.av,SV.ok,SV.aX,-List.flatMap_append,-List.map_append]
      omega
theorem OX {s0 s:CQ}{xs:List Dt}(h:lz (M6 M8) s0 xs s):s.l=s0.l++xs:=by
 induction h with
 | nil=>simp
 | snoc _ h ih=>
  obtain ⟨k,rfl⟩:=h;show _++[_]=_;rw [ih];simp
end
section
attribute [local irreducible] SW RW aG SC ai ak jQ
theorem FZ (k:Nat):aG Tryz.prog dot_Sort.f [.d .aN] [] k 0 (bE (Dt.set [])) []:=by
 have:=xG [] (by simp) k;unfold aG at this ⊢;refine SC.args (λ p μ M vs h=> ?_) this;obtain ⟨u,us,e,h1,h2⟩:=aS.aD.1 h;exact aS.aD.2 ⟨u,us,e,mW _ _ _ _ h1,h2⟩
theorem F3 (L:List Dt)(hl:L.length<1000000000)(k:Nat):aG Tryz.prog dot_Sort.f [dn L] [] k 0 (bE (Dt.set L)) []:=by
 cases L with
 | nil=>exact FZ k
 | cons d L=>exact xG (d::L) hl k
theorem tG (X:Ix)(hX:X.small)(o:ag):(X.jb o).length<=1000000:=by
 unfold Ix.jb;rw [List.length_flatMap];have hl:=hX.ch o.dot;have key:∀ l:List Dt,(l.map λ c=>((X.qI c).filter λ t=> !o.before (X.op t)).length).sum<=l.length*1000:=λ l=>by
  induction l with
  | nil=>simp
  | cons c l ih=>
   rw [List.map_cons,List.sum_cons,List.length_cons,Nat.add_mul,Nat.one_mul];have h1:=List.length_filter_le (λ t=> !o.before (X.op t)) (X.qI c);have h2:=hX.rv c;omega
 exact Nat.le_trans (key _) (Nat.le_trans (Nat.mul_le_mul_right 1000 hl) (by decide))
theorem F4 {q:Nat->Bool}{A B:Hp}(h1:A.ok q=true)(h2:B.ok q=true):(A++B:Hp).ok q=true:=by
 unfold Hp.ok at*;rw [List.all_append,h1,h2];rfl
abbrev GR (X:Ix)(o:ag):Hp:=TG X o 4 5
theorem xN (X:Ix)(o:ag){k:Nat}(h:6<=k):(GR X o).ok (λ n=>decide (n<k))=true:=
 ax (by simp;omega) (by simp [Ob.ok,SV.av,SV.ok];omega) (ax (by simp;omega) (by simp [Ob.ok,ag.aj]) (X.xM (by omega)))
end
section
attribute [local irreducible] SW RW aG SC ai ak jQ
theorem kF {X:Ix}{d:Dt}(hh:MM.has X.ops d=true):MM.get X.ops d=some (X.op d):=by
 obtain ⟨o,ho⟩:=Option.isSome_iff_exists.1 (show (MM.get X.ops d).isSome=true from hh);unfold Ix.op;rw [ho];rfl
theorem F5 (X:Ix)(hX:X.small)(d:Dt)(k:Nat):aG Tryz.prog revoke_Index_Level.f [.ptr 0 0,.agg d.cells] X.h0 k 2 (lV X d) X.h0:=by
 have:=SB.mX [0,1,2,3] (CM X hX d) (by decide) X.M4 k;rw [show X.h0.aC (eP [0,1,2,3] k)=X.h0 by simp [Hp.aC,Ob.aC,SV.aR,SV.aC,eP,cg,gL],show (lV X d).aC (eP [0,1,2,3] k)=lV X d by unfold lV;split <;> simp [SV.aR,SV.aC]] at this
 simpa [SV.aR,SV.aC,eP,Dt.aA] using this
theorem CS (X:Ix)(o:ag)(k:Nat):aG Tryz.prog revoke_Index_threats.f [.ptr 0 0,.agg o.cells] X.h0 k 2 (.fn (.func revoke_Index_threats_1.f) [] [.ptr k 0,.ptr (k+1) 0]) ((k+1,.box 43 o.cells)::(k,.box 27 [.ptr 0 0])::X.h0):=by
 have:=SB.mX [0,1,2,3] (AG X o) (by decide) X.M4 k;have e0:eP [0,1,2,3] k 4=k:=by simp [eP]
 have e1:eP [0,1,2,3] k 5=k+1:=by simp [eP];omega
 simp [SV.aR,SV.aC,e0,e1,eP,ag.aA,Hp.aC,Ob.aC,cg,gL] at this;rw [Nat.add_comm 1 k] at this;exact this
end
end Go.Proofs.YtaelhkkjgfobhaaGreat
namespace Go.Proofs.YtaelhkkjgfobhaaGreat
open Go.Sl Go.Proofs
section
attribute [local irreducible] SW RW aG SC ai ak jQ
section
variable {σ:Type} {Fh:σ->Hp} {nx:σ->ag->Nat->σ} {inv:σ->Nat->Prop} {aU y z b5 b3 b2:Nat}
end
end
section
attribute [local irreducible] SW RW aG SC ai ak jQ
def tH (aU:Nat):Nat:=2+1000*(4+jQ (1+aU))
section
variable {σ:Type} {Fh:σ->Hp} {nx:σ->ag->Nat->σ} {inv:σ->Nat->Prop} {aU y k:Nat}
theorem BK (q:Nat->Bool)(m:Nat)(a:Nat)(l:List Nat)(b:Nat)(h:q m=true):(Ob.iter (some m) a l b).ok q=true:=h
end
end
section
attribute [local irreducible] SW RW aG SC ai ak jQ tH
end
end Go.Proofs.YtaelhkkjgfobhaaGreat
namespace Go.Proofs.YtaelhkkjgfobhaaGreat
open Go.Sl Go.Proofs
section
def q1:ag:=⟨⟨0,1⟩,aB.zero,1,1,⟨0,1⟩,0,⟨0,0⟩,0,0,0,0,⟨0,0⟩,⟨0,0⟩,0,0,0,.aN⟩
def q2:ag:=⟨⟨0,2⟩,vt 1,2,1,⟨0,1⟩,1,⟨0,1⟩,2,2,0,9,⟨0,0⟩,⟨0,0⟩,0,0,0,.aN⟩
def q3:ag:=⟨⟨0,3⟩,vt 2,3,2,⟨0,1⟩,3,⟨0,2⟩,0,0,0,0,⟨0,0⟩,⟨0,0⟩,0,1,0,.aN⟩
def q4:ag:=⟨⟨0,4⟩,vt 3,4,2,⟨0,1⟩,4,⟨0,2⟩,0,0,0,0,⟨0,3⟩,⟨0,0⟩,0,2,0,.aN⟩
def q5:ag:=⟨⟨1,1⟩,vt 3,4,1,⟨0,1⟩,2,⟨0,1⟩,0,0,0,0,⟨0,2⟩,⟨0,0⟩,0,0,0,.aN⟩
def p1:ag:=q1.nz
def p2:ag:=q2.nz
def p3:ag:=q3.nz
def p4:ag:=q4.nz
def p5:ag:=q5.nz
def bh:List ag:=[p1,p2,p3,p4,p5]
set_option maxRecDepth 100000 in
theorem N3 {P:Program}{env:List (Nat×SV)}{hp:Hp}{k d p q s v w:Nat}{r:List SI}{K:St->List (Bool×List Nat)->Prop}(a b c e g:ag){z:List SV}(hz:z=Bb++(Bb++(Bb++(Bb++Bb))))
  (ha:env.lookup p=some (.agg a.cells)) (hb:env.lookup q=some (.agg b.cells)) (hc:env.lookup s=some (.agg c.cells)) (he:env.lookup v=some (.agg e.cells)) (hg:env.lookup w=some (.agg g.cells))
  (h:RW P r ⟨(d,ops [a,b,c,e,g])::env,hp,k⟩ λ st' ts=>K st' ((false,[])::ts)):RW P (⟨some d,.od 43 29 5 z [(0,29,.t p),(29,29,.t q),(58,29,.t s),(87,29,.t v),(116,29,.t w)],none⟩::r) ⟨env,hp,k⟩ K:=by
 subst hz;refine RW.cons (e:=⟨ops [a,b,c,e,g],[],[],0,((29=29/\0+29<=145/\29=29/\29+29<=145/\29=29/\58+29<=145/\29=29/\87+29<=145/\29=29/\116+29<=145/\True))⟩) (λ dK=>⟨.iw::dK,gG (.inl rfl) ?_⟩) (by show 29=29/\0+29<=145/\29=29/\29+29<=145/\29=29/\58+29<=145/\29=29/\87+29<=145/\29=29/\116+29<=145/\True;decide) ?_
 .have h1:xV (λ t=>env.lookup t) [(0,29,X.t p),(29,29,X.t q),(58,29,X.t s),(87,29,X.t v),(116,29,X.t w)]=some [(0,29,.agg a.cells),(29,29,.agg b.cells),(58,29,.agg c.cells),(87,29,.agg e.cells),(116,29,.agg g.cells)]:=by
   simp only [xV,ev,ha,hb,hc,he,hg]
  have h2:mN (Bb++(Bb++(Bb++(Bb++Bb)))) [(0,29,.agg a.cells),(29,29,.agg b.cells),(58,29,.agg c.cells),(87,29,.agg e.cells),(116,29,.agg g.cells)]=some (a.cells++(b.cells++(c.cells++(e.cells++g.cells))),((29=29/\0+29<=145/\29=29/\29+29<=145/\29=29/\58+29<=145/\29=29/\87+29<=145/\29=29/\116+29<=145/\True))):=rfl;have h3:eY (a.cells++(b.cells++(c.cells++(e.cells++g.cells))))=some ([a,b,c,e,g].flatMap ag.ds):=rfl;have h4:(a.cells++(b.cells++(c.cells++(e.cells++g.cells)))).all SV.dM=true:=rfl;simp only [ff,dz,h1,h2,h3,h4,if_true,Bool.false_or];rfl
 .exact h
theorem RW.AH {P:Program}{d:Nat}{z:List SV}{parts:List (Nat×Nat×X)}{r:List SI}{K:St->List (Bool×List Nat)->Prop}{env:List (Nat×SV)}{hp:Hp}{k:Nat}(cs:List SV){ps:List (Nat×Nat×SV)}{ob:Prop}(h1:xV (λ t=>env.lookup t) parts=some ps)(h2:mN z ps=some (cs,ob))(bn:ob)
  (h:Go.Sl.RW P r ⟨(d,.agg cs)::env,hp,k⟩ λ st' ts=>K st' ((true,[])::ts)):Go.Sl.RW P (⟨some d,.fI z parts,none⟩::r) ⟨env,hp,k⟩ K:=
 RW.D5 (F:=[]) (F':=[]) (nk:=0) (ob:=ob) rfl rfl rfl (.inl rfl) (by simp only [ff,dz,h1,h2]) bn rfl h
section
attribute [local irreducible] SW RW aG SC ai ak jQ tH
end
theorem JT:(au bh).at_=[(0,⟨0,1⟩,hc1),(1,⟨0,2⟩,GP)]:=by kernel_rfl
theorem JU:lT (au bh).at_ (MM.get (au bh).at_ ⟨0,1⟩) [hc1]:=by
 rw [JT];exact .root hc1 (by decide)
theorem F6:lT (au bh).at_ (MM.get (au bh).at_ ⟨0,2⟩) [GP,hc1]:=by
 rw [JT];exact .more GP _ (by decide) (.root hc1 (by decide))
theorem JV:eW bh p1=0:=by kernel_rfl
theorem JW:eW bh p2=0:=by kernel_rfl
theorem JX:eW bh p3=0:=by kernel_rfl
theorem JY:eW bh p4=0:=by kernel_rfl
theorem JZ:eW bh p5=0:=Ig F6 (by kernel_rfl)
theorem zu:∀ o,o∈bh->o.kind<256/\o.nT/\o.cl.length<=1048576:=λ o ho=>by
 simp only [bh,List.mem_cons,List.not_mem_nil,or_false] at ho;rcases ho with rfl | rfl | rfl | rfl | rfl
 all_goals exact ⟨by decide,NX rfl,by decide⟩
end
section
theorem qo (l:List Dt):(Dt.set l).Nodup:=(Dt.sorted_perm _).nodup_iff.2 (tE l).keys
section
variable {l:List ag} {S:Sh} (h:dh l S) (hl:l.length<=80)
include h
theorem dh.M_ {d:Dt}(hg:S.good d=true):∃ o,aF l d=some o/\eW l o=0/\S.op d=o/\o.dot=d/\d∈Dt.set (l.map (·.dot)):=by
 rw [h.good] at hg;cases hf:aF l d with
 | none=>rw [hf] at hg;cases hg
 | some o=>
  rw [hf] at hg;have hd:=dN hf;refine ⟨o,rfl,of_decide_eq_true hg,?_,hd,?_⟩
  .rw [h.base.op,bz hf]
  .rw [Dt.mem_set]
   exact List.mem_map.2 ⟨o,r6 hf,hd⟩
theorem dh.F7 {d:Dt}:(d∈Dt.set (l.map (·.dot))/\S.good d=true)↔S.good d=true:=⟨λ h=>h.2,λ hg=>⟨(h.M_ hg).elim λ _ h=>h.2.2.2.2,hg⟩⟩
noncomputable abbrev dh.X (_:dh l S):Ix:=vi S (Dt.set (l.map (·.dot)))
theorem dh.Lq:Li S (Dt.set (l.map (·.dot))) h.X:=FQ _ _
theorem dh.F8 (d:Dt):MM.has h.X.ops d=S.good d:=by
 unfold MM.has;rw [h.Lq.ops];simp only [h.F7];cases S.good d <;> rfl
theorem dh.Ov {d:Dt}(hg:S.good d=true):h.X.op d=S.op d:=by
 unfold Ix.op;rw [h.Lq.ops,if_pos (h.F7.2 hg)];rfl
theorem dh.IP {d:Dt}(hg:S.good d=true):h.X.pF d=S.pF (S.op d):=by
 unfold Ix.pF;rw [h.Lq.ch,if_pos (h.F7.2 hg)];rfl
theorem dh.J1 {d:Dt}(hg:S.good d=false):h.X.pF d=[]:=by
 unfold Ix.pF;rw [h.Lq.ch,if_neg (λ hh=>by rw [hg] at hh;cases hh.2)];rfl
theorem dh.Na (c:Dt):h.X.qI c=(Dt.set (l.map (·.dot))).filter (S.rv c):=h.Lq.lK c
theorem dh.BL (o:ag):(S.pF o).length<=9:=by
 unfold Sh.pF
 split
 .simp
 .obtain ⟨L,h1,h2⟩:=h.base.r8 o.aK
  rw [List.length_map,fm h1];exact h2
include hl
theorem dh.mV:(Dt.set (l.map (·.dot))).length<=80:=by
 have:=(qo (l.map (·.dot))).length_le_of_subset (l₂:=l.map (·.dot)) λ d hd=>Dt.mem_set.1 hd
 simpa using Nat.le_trans this (by simpa using hl)
theorem dh.small:h.X.small:=by
 have hd:=h.mV hl;refine ⟨λ d=> ?_,λ c=> ?_,?_,h.Lq.wo⟩
 .cases hg:S.good d with
  | false=>rw [h.J1 hg];simp
  | true=>rw [h.IP hg];have:=h.BL (S.op d);omega
 .rw [h.Na]
  have:=List.length_filter_le (S.rv c) (Dt.set (l.map (·.dot)));omega
 .have:=h.Lq.wo.keys.length_le_of_subset (l₂:=Dt.set (l.map (·.dot))) λ d hd'=>by
   rw [<- MM.gV,h.F8] at hd';exact (h.F7.2 hd').1
  have e:(MM.keys h.X.ops).length=h.X.ops.length:=by simp [MM.keys]
  omega
omit hl
theorem dh.N4 {d:Dt}(hg:S.good d=true):h.X.jb (S.op d)=S.jb (Dt.set (l.map (·.dot))) (S.op d):=by
 obtain ⟨o,_,_,e1,e2,_⟩:=h.M_ hg;unfold Ix.jb Sh.jb;rw [e1,e2,h.IP hg,e1]
 congr 1
 funext c
 rw [h.Na];refine List.filter_congr λ t ht=> ?_
 have:S.good t=true:=by
  have:=(List.mem_filter.1 ht).2;unfold Sh.rv at this;rw [Bool.and_eq_true] at this;exact this.1
 rw [h.Ov this]
end
theorem Dt.xO {a b:List Dt}(h:∀ v,v∈a↔v∈b):Dt.set a=Dt.set b:=Dt.gY (Dt.gZ _) (Dt.gZ _) λ v=>by rw [Dt.mem_set,Dt.mem_set,h]
theorem J2:Dt.set (bh.map (·.dot))=[⟨0,1⟩,⟨0,2⟩,⟨0,3⟩,⟨0,4⟩,⟨1,1⟩]:=(Dt.BB _).symm.trans (by kernel_rfl)
section
variable {S:Sh} (h:dh bh S)
include h
end
end
section
attribute [local irreducible] SW RW aG SC ai ak jQ tH
theorem BM (S:Sh)(n:Nat):(lk S.lg n).isSome=true↔n∈[10,7,8,9,2,0,1]:=by
 rw [Option.isSome_iff_ne_none];constructor
 .intro hn
  obtain ⟨ob,ho⟩:=Option.ne_none_iff_exists'.1 hn;have:=(List.mem_map (f:=λ x:Nat×Ob=>x.1)).2 ⟨(n,ob),kE ho,rfl⟩
  simpa using this
 .intro hn
  simp only [List.mem_cons,List.not_mem_nil,or_false] at hn;rcases hn with rfl | rfl | rfl | rfl | rfl | rfl | rfl <;> simp [aa]
theorem Lr (S:Sh)(X:Ix)(q:Nat->Bool)(h:∀ n,n∈[0,1,2,7,8,9,10,11,12,13,14]->q n=true):(hX S X).ok q=true:=by
 have a:=λ n hn=>h n hn
 refine ax (h 14 (by decide)) ?_ (ax (h 13 (by decide)) (fq _ _) (ax (h 12 (by decide)) (fq _ _) (ax (h 11 (by decide)) (bB _ _) (ax (h 10 (by decide)) ?_ (ax (h 7 (by decide)) (bB _ _) (ax (h 8 (by decide)) (bJ _ _) (ax (h 9 (by decide)) (oD _ _) (ax (h 2 (by decide)) ?_ (ax (h 0 (by decide)) (j0 _ _) (ax (h 1 (by decide)) (bB _ _) rfl))))))))))
 .simp [Ob.ok,SV.av,SV.ok,h 11,h 12,h 13]
 .simp [Ob.ok,SV.av,SV.ok,h 2,h 7,h 8,h 9]
 .simp [Ob.ok,SV.av,SV.ok,h 0,h 1]
theorem IQ (S:Sh)(q:Nat->Bool)(h:∀ n,n∈[0,1,2,7,8,9,10]->q n=true):S.lg.ok q=true:=by
 refine ax (h 10 (by decide)) ?_ (ax (h 7 (by decide)) (bB _ _) (ax (h 8 (by decide)) (bJ _ _) (ax (h 9 (by decide)) (oD _ _) (ax (h 2 (by decide)) ?_ (ax (h 0 (by decide)) (j0 _ _) (ax (h 1 (by decide)) (bB _ _) rfl))))))
 .simp [Ob.ok,SV.av,SV.ok,h 2,h 7,h 8,h 9]
 .simp [Ob.ok,SV.av,SV.ok,h 0,h 1]
theorem dh.N5 {l:List ag}{S:Sh}(h:dh l S)(hl:l.length<=80)(hs:oF S):aG Tryz.prog revoke_New.f [.ptr 10 0] S.lg 11 4 (.ptr 14 0) (hX S h.X):=by
 unfold aG;refine (IF S _ h.base.r8 hs (by have:=h.mV hl;omega) (h.FO hl)).here (λ n=>(lk S.lg n).isSome) (λ n hn=>Option.isSome_iff_ne_none.1 hn) (by simp [SV.av,SV.ok,aa]) (IQ S _ λ n hn=>(BM S n).2 (by revert hn;simp;omega)) ?_;rintro r F' ⟨rfl,rfl⟩ _ _;refine ⟨by simp [SV.ok],Lr S _ _ λ n hn=> ?_⟩;rw [Bool.or_eq_true]
 by_cases lg:n∈[10,7,8,9,2,0,1]
 .exact .inl ((BM S n).2 lg)
 .refine .inr ?_
  simp at hn lg ⊢;omega
section
variable {S:Sh} (h:dh bh S)
include h
end
end
section
attribute [local irreducible] SW RW aG SC ai ak jQ tH
theorem e9:bX (Dt.mk 0 0).cells 1 [.d (.int .u32 9)]=(Dt.mk 0 9).cells:=rfl
theorem e1:bX (Dt.mk 0 0).cells 1 [.d (.int .u32 1)]=(Dt.mk 0 1).cells:=rfl
theorem e2:bX (Dt.mk 0 0).cells 1 [.d (.int .u32 2)]=(Dt.mk 0 2).cells:=rfl
theorem Ow:bX (bX (Dt.mk 0 0).cells 0 [.d (.int .u8 1)]) 1 [.d (.int .u32 1)]=(Dt.mk 1 1).cells:=rfl
end
section
theorem Dt.AI (l:List Dt):(Dt.set l).length<=l.length:=(qo l).length_le_of_subset λ d hd=>Dt.mem_set.1 hd
section
variable {l:List ag} {S:Sh} (h:dh l S) (hl:l.length<=80)
include h
include hl
theorem dh.tG (o:ag):(Dt.set (h.X.jb o)).length<1000000000:=by
 have h1:=Dt.AI (h.X.jb o);have h2:=Go.Proofs.YtaelhkkjgfobhaaGreat.tG h.X (h.small hl) o;omega
end
end
section
end
end Go.Proofs.YtaelhkkjgfobhaaGreat
namespace Go.Proofs.YtaelhkkjgfobhaaGreat
open Go.Sl Go.Proofs
section
attribute [local irreducible] SW RW aG SC ai ak
theorem CT {a:MM Dt Cr}{d:Dt}{L:List Cr}(hL:lT a (MM.get a d) L):gI a d L= .cZ [dn (L.map (·.dot)),.d (.int .i64 (if MM.has a d then 0 else 7))]:=by
 unfold gI MM.has;cases hg:MM.get a d with
 | none=>
  rw [hg] at hL;cases hL;rfl
 | some c=>
  rw [hg] at hL;cases L with
  | nil=>cases hL
  | cons x L=>simp [dn,bE]
noncomputable def bW (l:List ag)(d:Dt):Bool:=match aF l d with
 | some o=>decide (eW l o=0)
 | none=>false
theorem SC.OY {P:Program}{f:FuncId}{a b:List SV}{F:Hp}{k nk:Nat}{Q:SV->Hp->Prop}(L:List Dt)(h:SC P f (a++bE L::b) F k nk Q):SC P f (a++dn L::b) F k nk Q:=by
 cases L with
 | cons d L=>exact h
 | nil=>
  refine SC.args (λ p μ M vs hv=> ?_) h;clear h
  induction a generalizing vs with
  | nil=>
   obtain ⟨u,us,e,h1,h2⟩:=aS.aD.1 hv;exact aS.aD.2 ⟨u,us,e,mW _ _ _ _ h1,h2⟩
  | cons x a ih=>
   obtain ⟨u,us,e,h1,h2⟩:=aS.aD.1 hv;exact aS.aD.2 ⟨u,us,e,h1,ih us h2⟩
theorem IS (L:List Dt)(d:Dt)(hl:L.length<1000000000)(k:Nat):aG Tryz.prog ref03_In.f [dn L,.agg d.cells] [] k 0 (.d (.bool (decide (d∈L)))) []:=by
 have:=FC L d hl k;unfold aG at this ⊢;exact SC.OY (a:=[]) L this
section
variable {l:List ag} (hl:l.length<=80) (hd:∀ x,x∈l->x.aT<256/\x.nT/\x.dot.wf)
include hl hd
theorem Ls (o:ag):Go.Sl.Pure Tryz.prog ref18_Chain.f [ops l,.agg o.cells] (dn (fO l o)):=by
 obtain ⟨L,hL,Ir,_⟩:=(dg l).r8 o.aK;have hc:=wF (by omega) (λ x hx=>(hd x hx).1) (dg l) o.aK L hL (by omega);rw [CT hL] at hc;have e1:fO l o=if o.kind=0 then [] else L.map (·.dot):=by unfold fO;rw [fm hL]
 obtain ⟨e,he⟩:∃ e:Int,(if MM.has (au l).at_ o.aK then (0:Int) else 7)=e:=⟨_,rfl⟩;rw [he] at hc;rw [e1];have o14:o.cells[14]? =some (.d (.int .u8 o.kind)):=rfl;have o15:List.take 2 (List.drop 15 o.cells)=o.aK.cells:=rfl;refine ref18_Chain.enter (by first | rfl | simp [SV.ok,SV.av]) (by first | rfl | simp [Hp.ok,Ob.ok,SV.ok,SV.av,aB.aj]) (by simp) ?_;dsimp only [ref18_Chain.s,Co.M,Co.J,Co.F,Co.b8,Co.T,Co.K,Co.E,Co.Q,Co.x,Co.D,Co.S]
 by_cases hk:o.kind=0
 .have z:(((o.kind:Nat):Int) == 0)=true:=by rw [hk];rfl
  rw [if_pos hk];(repeat (first | refine SW.seq ?_ | refine SW.block ?_ | refine SW.g0 [0,1,3,4,5,9] Zm (Zq o14 z) ?_ | refine SW.skip ?_ | refine SW.exit ?_ | refine SW.ret ?_ | refine SW.an rfl ?_ | refine SW.ah rfl ?_));exact End.mk [] (h4:=⟨rfl,rfl⟩)
 .have z:(((o.kind:Nat):Int) == 0)=false:=by simpa using hk
  rw [if_neg hk];(repeat (first | refine SW.seq ?_ | refine SW.block ?_ | refine SW.g1 [0,1,3,4,5,9] Zm (Zq o14 (Zq o15 z)) hc ?_ | refine SW.skip ?_ | refine SW.exit ?_ | refine SW.ret ?_ | refine SW.an rfl ?_ | refine SW.ah rfl ?_));exact End.mk [] (h4:=⟨rfl,rfl⟩) (h5:=zo _ _)
theorem F9 (o:ag)(k:Nat):aG Tryz.prog ref18_Chain.f [ops l,.agg o.cells] [] k 0 (dn (fO l o)) []:=(Ls hl hd o).sc (zo _ _) k
theorem zx (o:ag):(fO l o).length<=9:=by
 obtain ⟨L,hL,Ir,_⟩:=(dg l).r8 o.aK;unfold fO;rw [fm hL]
 split
 .simp
 .rw [List.length_map];exact Ir
theorem zy (d:Dt)(k:Nat):aG Tryz.prog ref17_Good.f [ops l,.agg d.cells] [] k 0 (bl (bW l d)) []:=CI l hl hd d k
noncomputable def rz (l:List ag)(r o:ag):Bool:=decide (r.kind=2) && (decide (r.at_∈fO l o) && !o.before r)
theorem F_ (r o:ag):Go.Sl.Pure Tryz.prog ref18_Threatens.f [ops l,.agg r.cells,.agg o.cells] (bl (rz l r o)):=by
 have r14:r.cells[14]? =some (.d (.int .u8 r.kind)):=rfl;have NV:List.take 2 (List.drop 21 r.cells)=r.at_.cells:=rfl;have hc:=F9 hl hd o;have hi:=IS (fO l o) r.at_ (by have:=zx hl hd o;omega);have hb:=bV o r;refine ref18_Threatens.enter (by first | rfl | simp [SV.ok,SV.av]) (by first | rfl | simp [Hp.ok,Ob.ok,SV.ok,SV.av,aB.aj]) (by simp) ?_;dsimp only [ref18_Threatens.s,Co.M,Co.G,Co.J,Co.H,Co.F,Co.C,Co.B,Co.b8,Co.T,Co.x,Co.U,Co.D,Co.S];refine SW.seq (SW.g0 [0,1,2,4,5,6] Zm af ?_);refine SW.seq ?_
 by_cases hk:r.kind=2
 .have z:(((r.kind:Nat):Int) == 2)=true:=by rw [hk];rfl
  have e1:rz l r o=(decide (r.at_∈fO l o) && !o.before r):=by unfold rz;rw [hk];rfl
  rw [e1];rcases hx:decide (r.at_∈fO l o) with _ | _
  .rw [hx] at hi
   refine SW.g2 [0,1,2,4,5,6] Zm (Zq r14 (Zq NV z)) hc hi ?_;refine SW.ret ?_;exact End.mk [] (h4:=⟨rfl,rfl⟩)
  .rw [hx] at hi
   refine SW.g4 [0,1,2,4,5,6] Zm (Zq r14 (Zq NV z)) hc hi hb trivial ?_;refine SW.ret ?_;exact End.mk [] (h4:=⟨rfl,rfl⟩)
 .have z:(((r.kind:Nat):Int) == 2)=false:=by simp;omega
  have e1:rz l r o=false:=by unfold rz;rw [decide_eq_false hk];rfl
  rw [e1];refine SW.g0 [0,1,2,4,5,6] Zm (Zq r14 z) ?_;refine SW.ret ?_;exact End.mk [] (h4:=⟨rfl,rfl⟩)
theorem Ga (r o:ag)(k:Nat):aG Tryz.prog ref18_Threatens.f [ops l,.agg r.cells,.agg o.cells] [] k 0 (bl (rz l r o)) []:=(F_ hl hd r o).sc rfl k
end
end
section
attribute [local irreducible] SW RW aG SC ai ak
theorem IT (s:List Dt)(x:Dt):(s++[x]).length=s.length+ [x].length:=by simp
theorem Lt (s:List Dt)(x:Dt):List.map SV.d ((s++[x]).flatMap Dt.ds)=List.map SV.d (s.flatMap Dt.ds)++List.map SV.d ([x].flatMap Dt.ds):=by simp
noncomputable def zz (l:List ag):List Dt:=(l.filter λ o=>bW l o.dot).map (·.dot)
noncomputable def jW (l:List ag):List Dt:=Dt.set (zz l)
theorem jD {l:List ag}{d:Dt}:d∈jW l↔bW l d=true:=by
 unfold jW zz;rw [Dt.mem_set,List.mem_map];constructor
 .rintro ⟨o,ho,rfl⟩
  exact (List.mem_filter.1 ho).2
 .intro h
  unfold bW at h;cases hf:aF l d with
  | none=>rw [hf] at h;cases h
  | some o=>
   have hd:=dN hf;refine ⟨o,List.mem_filter.2 ⟨r6 hf,?_⟩,hd⟩;rw [hd];unfold bW;rw [hf] at h ⊢;exact h
section
variable {l:List ag} (hl:l.length<=80) (hd:∀ x,x∈l->x.aT<256/\x.nT/\x.dot.wf)
include hl hd
end
end
section
attribute [local irreducible] SW RW aG SC ai ak
noncomputable def zA (l:List ag)(d:Dt)(v:Dt):Bool:=rz l (l5 l v) (l5 l d)
noncomputable def j5 (l:List ag)(d:Dt):SV:=if bW l d then .cZ [.d (.int .i64 (((fO l (l5 l d)).length:Int) - 1)),bl true] else .cZ [i64 0,bl false]
theorem u5 (l:List ag)(hl:l.length<4611686018427387904)(d:Dt)(k:Nat):aG Tryz.prog ref10_Find.f [ops l,.agg d.cells] [] k 0 (.cZ [.agg (l5 l d).cells,bl (aF l d).isSome]) []:=o9 l hl d k
section
variable {l:List ag} (hl:l.length<=80) (hd:∀ x,x∈l->x.aT<256/\x.nT/\x.dot.wf)
include hl hd
theorem CU (d:Dt):Go.Sl.Pure Tryz.prog ref18_Level.f [ops l,.agg d.cells] (j5 l d):=by
 have hg:=zy hl hd d;have hf:=u5 l (by omega) d;have hc:=F9 hl hd (l5 l d);have lE:=zx hl hd (l5 l d);refine ref18_Level.enter (by first | rfl | simp [SV.ok,SV.av]) (by first | rfl | simp [Hp.ok,Ob.ok,SV.ok,SV.av,aB.aj]) (by simp) ?_;dsimp only [ref18_Level.s,Co.M,Co.J,Co.F,Co.Z,Co.B,Co.bD,Co.K,Co.E,Co.L,Co.Q,Co.x,Co.W,Co.Y,Co.O,Co.S];refine SW.seq (SW.g0 [0,1,3,4,5,6,11] Zm af ?_);refine SW.seq (SW.seq ?_);rcases hgd:bW l d with _ | _
 .rw [hgd] at hg
  have e1:j5 l d= .cZ [i64 0,bl false]:=by unfold j5;rw [hgd];rfl
  rw [e1];refine SW.g1 [0,1,3,4,5,6,11] Zm af hg ?_;refine SW.an rfl (SW.seq ?_);refine SW.g0 [0,1,3,4,5,6,11] Zm af ?_;refine SW.ret ?_;exact End.mk [] (h4:=⟨rfl,rfl⟩)
 .rw [hgd] at hg
  have e1:j5 l d= .cZ [.d (.int .i64 (((fO l (l5 l d)).length:Int) - 1)),bl true]:=by unfold j5;rw [hgd];rfl
  rw [e1];generalize l5 l d=o at hf hc lE ⊢;generalize fO l o=L at hc lE ⊢;refine SW.g1 [0,1,3,4,5,6,11] Zm af hg ?_;refine SW.ah rfl (SW.skip ?_);refine SW.seq (SW.g1 [0,1,3,4,5,6,11] Zm af hf ?_);refine SW.seq ?_;have hw:IntKind.i64.wrap ((L.length:Int) - 1)=(L.length:Int) - 1:=wrap_i64 _ (by omega);cases L with
  | nil=>
   change ∀ k,aG Tryz.prog ref18_Chain.f [ops l,.agg o.cells] [] k 0 (.d .aN) [] at hc;refine SW.g1 [0,1,3,4,5,6,11] Zm af hc ?_;refine SW.ret ?_;exact End.mk [] (h4:=⟨by simp [eA],rfl⟩)
  | cons c L=>
   change ∀ k,aG Tryz.prog ref18_Chain.f [ops l,.agg o.cells] [] k 0 (bE (c::L)) [] at hc;refine SW.g1 [0,1,3,4,5,6,11] Zm hw hc ?_;refine SW.ret ?_;exact End.mk [] (h4:=⟨by simp [eA],rfl⟩)
theorem CV (d:Dt)(k:Nat):aG Tryz.prog ref18_Level.f [ops l,.agg d.cells] [] k 0 (j5 l d) []:=(CU hl hd d).sc (by unfold j5;split <;> rfl) k
end
end
end Go.Proofs.YtaelhkkjgfobhaaGreat
