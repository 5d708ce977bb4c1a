/-
 Revoke: the head's row, and its index.
-/
import Derived.Test.YtaelhkkjgfobhaaGreatP6
import Derived.Test.YtaelhkkjgfobhaaGreatPR
import Derived.Test.YtaelhkkjgfobhaaGreatPO
import Derived.Test.YtaelhkkjgfobhaaGreatPP
import Derived.Test.YtaelhkkjgfobhaaGreatPN
import Derived.Test.YtaelhkkjgfobhaaGreatPE
set_option linter.unusedSectionVars false
set_option linter.unusedVariables false
set_option linter.unusedSimpArgs false
namespace Go.Proofs.YtaelhkkjgfobhaaGreat
open Go.Sl Go.Proofs
section
def q1:ag:=⟨⟨0,1⟩,aB.zero,1,1,⟨0,1⟩,0,⟨0,0⟩,0,0,0,0,⟨0,0⟩,⟨0,0⟩,0,0,0,.aJ⟩
def q2:ag:=⟨⟨0,2⟩,iu 1,2,1,⟨0,1⟩,1,⟨0,1⟩,2,2,0,9,⟨0,0⟩,⟨0,0⟩,0,0,0,.aJ⟩
def q3:ag:=⟨⟨0,3⟩,iu 2,3,2,⟨0,1⟩,3,⟨0,2⟩,0,0,0,0,⟨0,0⟩,⟨0,0⟩,0,1,0,.aJ⟩
def q4:ag:=⟨⟨0,4⟩,iu 3,4,2,⟨0,1⟩,4,⟨0,2⟩,0,0,0,0,⟨0,3⟩,⟨0,0⟩,0,2,0,.aJ⟩
def q5:ag:=⟨⟨1,1⟩,iu 3,4,1,⟨0,1⟩,2,⟨0,1⟩,0,0,0,0,⟨0,2⟩,⟨0,0⟩,0,0,0,.aJ⟩
def p1:ag:=q1.nz
def p2:ag:=q2.nz
def p3:ag:=q3.nz
def p4:ag:=q4.nz
def p5:ag:=q5.nz
def bL:List ag:=[p1,p2,p3,p4,p5]
set_option maxRecDepth 100000 in
theorem N_ {P:Program}{env:List (Nat×SV)}{hp:Hp}{k d p q s v w:Nat}{r:List SI}{K:St→List (Bool×List Nat)→Prop}(a b c e g:ag){z:List SV}(hz:z=G6++(G6++(G6++(G6++G6))))
  (ha:env.lookup p=some (.agg a.cells)) (hb:env.lookup q=some (.agg b.cells)) (hc:env.lookup s=some (.agg c.cells)) (he:env.lookup v=some (.agg e.cells)) (hg:env.lookup w=some (.agg g.cells))
  (h:RW P r ⟨(d,ops [a,b,c,e,g])::env,hp,k⟩ fun st' ts=>K st' ((false,[])::ts)):RW P (⟨some d,.lB 43 29 5 z [(0,29,.t p),(29,29,.t q),(58,29,.t s),(87,29,.t v),(116,29,.t w)],none⟩::r) ⟨env,hp,k⟩ K:=by
 subst hz;refine RW.cons (e:=⟨ops [a,b,c,e,g],[],[],0,((29=29∧0+29≤145∧29=29∧29+29≤145∧29=29∧58+29≤145∧29=29∧87+29≤145∧29=29∧116+29≤145∧True))⟩) (fun dL=>⟨.iw::dL,fu (.inl rfl) ?_⟩) (by show 29=29∧0+29≤145∧29=29∧29+29≤145∧29=29∧58+29≤145∧29=29∧87+29≤145∧29=29∧116+29≤145∧True;decide) ?_
 ·have h1:vn (fun t=>env.lookup t) [(0,29,X.t p),(29,29,X.t q),(58,29,X.t s),(87,29,X.t v),(116,29,X.t w)]=some [(0,29,.agg a.cells),(29,29,.agg b.cells),(58,29,.agg c.cells),(87,29,.agg e.cells),(116,29,.agg g.cells)]:=by
   simp only [vn,ev,ha,hb,hc,he,hg]
  have h2:lU (G6++(G6++(G6++(G6++G6)))) [(0,29,.agg a.cells),(29,29,.agg b.cells),(58,29,.agg c.cells),(87,29,.agg e.cells),(116,29,.agg g.cells)]=some (a.cells++(b.cells++(c.cells++(e.cells++g.cells))),((29=29∧0+29≤145∧29=29∧29+29≤145∧29=29∧58+29≤145∧29=29∧87+29≤145∧29=29∧116+29≤145∧True))):=rfl;have h3:e_ (a.cells++(b.cells++(c.cells++(e.cells++g.cells))))=some ([a,b,c,e,g].flatMap ag.ds):=rfl;have h4:(a.cells++(b.cells++(c.cells++(e.cells++g.cells)))).all SV.dO=true:=rfl;simp only [ff,dH,h1,h2,h3,h4,if_true,Bool.false_or];rfl
 ·exact h
theorem RW.Gh {P:Program}{d:Nat}{z:List SV}{parts:List (Nat×Nat×X)}{r:List SI}{K:St→List (Bool×List Nat)→Prop}{env:List (Nat×SV)}{hp:Hp}{k:Nat}(cs:List SV){ps:List (Nat×Nat×SV)}{ob:Prop}(h1:vn (fun t=>env.lookup t) parts=some ps)(h2:lU z ps=some (cs,ob))(bz:ob)
  (h:Go.Sl.RW P r ⟨(d,.agg cs)::env,hp,k⟩ fun st' ts=>K st' ((true,[])::ts)):Go.Sl.RW P (⟨some d,.fL z parts,none⟩::r) ⟨env,hp,k⟩ K:=
 RW.Ej (F:=[]) (F':=[]) (nk:=0) (ob:=ob) rfl rfl rfl (.inl rfl) (by simp only [ff,dH,h1,h2]) bz rfl h
section
attribute [local irreducible] SW RW aF SC ai aq j6 Ac
end
theorem JQ:(aA bL).at_=[(0,⟨0,1⟩,hc1),(1,⟨0,2⟩,G5)]:=by kernel_rfl
theorem JR:mE (aA bL).at_ (MM.get (aA bL).at_ ⟨0,1⟩) [hc1]:=by
 rw [JQ];exact .root hc1 (by decide)
theorem Gi:mE (aA bL).at_ (MM.get (aA bL).at_ ⟨0,2⟩) [G5,hc1]:=by
 rw [JQ];exact .more G5 _ (by decide) (.root hc1 (by decide))
theorem MZ:gI bL p1=0:=by kernel_rfl
theorem M3:gI bL p2=0:=by kernel_rfl
theorem M4:gI bL p3=0:=by kernel_rfl
theorem M5:gI bL p4=0:=by kernel_rfl
theorem M6:gI bL p5=0:=Ir Gi (by kernel_rfl)
theorem Gj:∀ o,o∈bL→o.kind<256∧o.mN∧o.cl.length≤1048576:=fun o ho=>by
 simp only [bL,List.mem_cons,List.not_mem_nil,or_false] at ho;rcases ho with rfl | rfl | rfl | rfl | rfl
 all_goals exact ⟨by decide,N2 rfl,by decide⟩
end
section
theorem u9 (l:List Dt):(Dt.set l).Nodup:=(Dt.sorted_perm _).nodup_iff.2 (xU l).keys
section
variable {l:List ag} {S:Sh} (h:bR l S) (hl:l.length≤80)
include h
theorem bR.I5 {d:Dt}(hg:S.good d=true):∃ o,aS l d=some o∧gI l o=0∧S.op d=o∧o.dot=d∧d∈Dt.set (l.map (·.dot)):=by
 rw [h.good] at hg;cases hf:aS l d with
 | none=>rw [hf] at hg;cases hg
 | some o=>
  rw [hf] at hg;have hd:=gW hf;refine ⟨o,rfl,of_decide_eq_true hg,?_,hd,?_⟩
  ·rw [h.base.op,eM hf]
  ·rw [Dt.mem_set]
   exact List.mem_map.2 ⟨o,pL hf,hd⟩
theorem bR.Gk {d:Dt}:(d∈Dt.set (l.map (·.dot))∧S.good d=true)↔S.good d=true:=⟨fun h=>h.2,fun hg=>⟨(h.I5 hg).elim fun _ h=>h.2.2.2.2,hg⟩⟩
noncomputable abbrev bR.X (_:bR l S):Ix:=vr S (Dt.set (l.map (·.dot)))
theorem bR.Lo:Le S (Dt.set (l.map (·.dot))) h.X:=F6 _ _
theorem bR.Lp (d:Dt):MM.has h.X.ops d=S.good d:=by
 unfold MM.has;rw [h.Lo.ops];simp only [h.Gk];cases S.good d <;> rfl
theorem bR.Oc {d:Dt}(hg:S.good d=true):h.X.op d=S.op d:=by
 unfold Ix.op;rw [h.Lo.ops,if_pos (h.Gk.2 hg)];rfl
theorem bR.Gl {d:Dt}(hg:S.good d=true):h.X.nY d=S.nY (S.op d):=by
 unfold Ix.nY;rw [h.Lo.ch,if_pos (h.Gk.2 hg)];rfl
theorem bR.JS {d:Dt}(hg:S.good d=false):h.X.nY d=[]:=by
 unfold Ix.nY;rw [h.Lo.ch,if_neg (fun hh=>by rw [hg] at hh;cases hh.2)];rfl
theorem bR.M7 (c:Dt):h.X.qU c=(Dt.set (l.map (·.dot))).filter (S.rv c):=h.Lo.lR c
theorem bR.BY (o:ag):(S.nY o).length≤9:=by
 unfold Sh.nY
 split
 ·simp
 ·obtain ⟨L,h1,h2⟩:=h.base.tn o.aN
  rw [List.length_map,gy h1];exact h2
include hl
theorem bR.jx:(Dt.set (l.map (·.dot))).length≤80:=by
 have:=(u9 (l.map (·.dot))).length_le_of_subset (l₂:=l.map (·.dot)) fun d hd=>Dt.mem_set.1 hd
 simpa using Nat.le_trans this (by simpa using hl)
theorem bR.small:h.X.small:=by
 have hd:=h.jx hl;refine ⟨fun d=> ?_,fun c=> ?_,?_,h.Lo.wo⟩
 ·cases hg:S.good d with
  | false=>rw [h.JS hg];simp
  | true=>rw [h.Gl hg];have:=h.BY (S.op d);omega
 ·rw [h.M7]
  have:=List.length_filter_le (S.rv c) (Dt.set (l.map (·.dot)));omega
 ·have:=h.Lo.wo.keys.length_le_of_subset (l₂:=Dt.set (l.map (·.dot))) fun d hd'=>by
   rw [← MM.iz,h.Lp] at hd';exact (h.Gk.2 hd').1
  have e:(MM.keys h.X.ops).length=h.X.ops.length:=by simp [MM.keys]
  omega
omit hl
theorem bR.M8 {d:Dt}(hg:S.good d=true):h.X.eO (S.op d)=S.eO (Dt.set (l.map (·.dot))) (S.op d):=by
 obtain ⟨o,_,_,e1,e2,_⟩:=h.I5 hg;unfold Ix.eO Sh.eO;rw [e1,e2,h.Gl hg,e1]
 congr 1
 funext c
 rw [h.M7];refine List.filter_congr fun t ht=> ?_
 have:S.good t=true:=by
  have:=(List.mem_filter.1 ht).2;unfold Sh.rv at this;rw [Bool.and_eq_true] at this;exact this.1
 rw [h.Oc this]
end
theorem JT:Dt.set (bL.map (·.dot))=[⟨0,1⟩,⟨0,2⟩,⟨0,3⟩,⟨0,4⟩,⟨1,1⟩]:=(Dt.rH _).symm.trans (by kernel_rfl)
section
variable {S:Sh} (h:bR bL S)
include h
end
end
section
attribute [local irreducible] SW RW aF SC ai aq j6 Ac
theorem BZ (S:Sh)(n:Nat):(lk S.lD n).isSome=true↔n∈[10,7,8,9,2,0,1]:=by
 rw [Option.isSome_iff_ne_none];constructor
 ·intro hn
  obtain ⟨ob,ho⟩:=Option.ne_none_iff_exists'.1 hn;have:=(List.mem_map (f:=fun x:Nat×Ob=>x.1)).2 ⟨(n,ob),mZ ho,rfl⟩
  simpa using this
 ·intro hn
  simp only [List.mem_cons,List.not_mem_nil,or_false] at hn;rcases hn with rfl | rfl | rfl | rfl | rfl | rfl | rfl <;> simp [aa]
theorem Lq (S:Sh)(X:Ix)(q:Nat→Bool)(h:∀ n,n∈[0,1,2,7,8,9,10,11,12,13,14]→q n=true):(hX S X).ok q=true:=by
 have a:=fun n hn=>h n hn
 refine an (h 14 (by decide)) ?_ (an (h 13 (by decide)) (eB _ _) (an (h 12 (by decide)) (eB _ _) (an (h 11 (by decide)) (bq _ _) (an (h 10 (by decide)) ?_ (an (h 7 (by decide)) (bq _ _) (an (h 8 (by decide)) (bJ _ _) (an (h 9 (by decide)) (jf _ _) (an (h 2 (by decide)) ?_ (an (h 0 (by decide)) (gT _ _) (an (h 1 (by decide)) (bq _ _) rfl))))))))))
 ·simp [Ob.ok,SV.ax,SV.ok,h 11,h 12,h 13]
 ·simp [Ob.ok,SV.ax,SV.ok,h 2,h 7,h 8,h 9]
 ·simp [Ob.ok,SV.ax,SV.ok,h 0,h 1]
theorem I6 (S:Sh)(q:Nat→Bool)(h:∀ n,n∈[0,1,2,7,8,9,10]→q n=true):S.lD.ok q=true:=by
 refine an (h 10 (by decide)) ?_ (an (h 7 (by decide)) (bq _ _) (an (h 8 (by decide)) (bJ _ _) (an (h 9 (by decide)) (jf _ _) (an (h 2 (by decide)) ?_ (an (h 0 (by decide)) (gT _ _) (an (h 1 (by decide)) (bq _ _) rfl))))))
 ·simp [Ob.ok,SV.ax,SV.ok,h 2,h 7,h 8,h 9]
 ·simp [Ob.ok,SV.ax,SV.ok,h 0,h 1]
section
variable {S:Sh} (h:bR bL S)
include h
end
end
section
attribute [local irreducible] SW RW aF SC ai aq j6 Ac
theorem e9:cN (Dt.mk 0 0).cells 1 [.d (.int .u32 9)]=(Dt.mk 0 9).cells:=rfl
theorem e1:cN (Dt.mk 0 0).cells 1 [.d (.int .u32 1)]=(Dt.mk 0 1).cells:=rfl
theorem e2:cN (Dt.mk 0 0).cells 1 [.d (.int .u32 2)]=(Dt.mk 0 2).cells:=rfl
theorem OL:cN (cN (Dt.mk 0 0).cells 0 [.d (.int .u8 1)]) 1 [.d (.int .u32 1)]=(Dt.mk 1 1).cells:=rfl
end
section
theorem Dt.AY (l:List Dt):(Dt.set l).length≤l.length:=(u9 l).length_le_of_subset fun d hd=>Dt.mem_set.1 hd
section
variable {l:List ag} {S:Sh} (h:bR l S) (hl:l.length≤80)
include h
theorem bR.hit {d t:Dt}(hd:S.good d=true)(ht:t∈S.eO (Dt.set (l.map (·.dot))) (S.op d)):S.good t=true∧(S.op t).kind=2∧(S.op t).at_∈S.nY (S.op d)∧(S.op d).before (S.op t)=false∧(S.nY (S.op t)).length<(S.nY (S.op d)).length∧2≤(S.nY (S.op d)).length∧(S.op t).aH=(S.op d).aH:=by
 obtain ⟨_,h1,h2,h3,h4⟩:=Sh.BX.1 ht;obtain ⟨o,_,ho,e1,_,_⟩:=h.I5 hd;obtain ⟨r,_,hr,e2,_,_⟩:=h.I5 h1;have h3':=h3;rw [h.nY,e1,e2] at h3';rw [e2] at h2;obtain ⟨a1,a2,a3⟩:=IZ ho hr h2 h3';refine ⟨h1,by rw [e2];exact h2,h3,h4,?_,?_,by rw [e1,e2];exact a3⟩
 ·rw [h.nY,h.nY,e1,e2];exact a1
 ·rw [h.nY,e1];exact a2
include hl
theorem bR.tL (o:ag):(Dt.set (h.X.eO o)).length<1000000000:=by
 have h1:=Dt.AY (h.X.eO o);have h2:=Go.Proofs.YtaelhkkjgfobhaaGreat.tL h.X (h.small hl) o;omega
end
end
section
theorem Lr {P:Program}{f:FuncId}{args:List SV}{F:Hp}{k nk:Nat}{Q:SV→Hp→Prop}(q:Nat→Bool)(h:SB P f args F k nk Q)(JD:∀ n,q n=true→lk F n≠none)(DM:F.ok q=true)
  (hQ:∀ r F',Q r F'→r.ok (fun n=>q n || (decide (k≤n) && decide (n<k+nk)))=true∧F'.ok (fun n=>q n || (decide (k≤n) && decide (n<k+nk)))=true)
  (ρ:Nat→Nat) (k':Nat) (hinj:∀ n m,n<k→m<k→ρ n=ρ m→n=m) (hlt:∀ n,n<k→ρ n<k') (hnew:∀ i,i<nk→ρ (k+i)=k'+i):
  SC P f (SV.aT ρ args) (F.aC ρ) k' nk fun r F'=>∃ r0 F0,Q r0 F0∧r=r0.aC ρ∧F'=F0.aC ρ:=by
 refine ⟨h.1,fun p μ M w vals hp hr hS=> ?_⟩;have hqP:∀ n,q n=true→p (ρ n):=fun n hn=>by
  obtain ⟨ob,ho⟩:=Option.ne_none_iff_exists'.1 (JD n hn);have hl:lk (F.aC ρ) (ρ n)=(lk F n).map (Ob.aC ρ):=Ak h.2.2.1 (fun a b ha hb=>hinj a b (by simpa using ha) (by simpa using hb)) (by simpa using (Hp.eW h.2.2.1 ho).1);rw [ho] at hl;exact (hS.obs _ _ hl).1
 obtain ⟨h1,h2,h3⟩:=Bo (Q:=fun r F'=>Q r F') h.2.1 h.2.2.1 ρ k' hinj hnew (p:=fun m=>p m∨∃ n,n<k∧ρ n=m) (fun n hn hh=>by
  rcases hh with hh | ⟨m,hm,rfl⟩
  ·exact hp n hn hh
  ·have:=hlt m hm;omega) (fun n hn=> .inr ⟨n,hn,rfl⟩) (hr.more (fun _ h=> .inl h) (fun _ _=>rfl) (Mem.le_refl _)) (hS.more fun _ h=> .inl h)
 refine (h.2.2.2 _ M w vals h1 h2).mono fun e w' hx=> ?_
 obtain ⟨r,F',a_,M',u,rfl,⟨r0,F0,hq0,rfl,rfl⟩,a,b,c⟩:=h3 e w' hx;obtain ⟨k1,k2⟩:=hQ r0 F0 hq0;have hq2:∀ n,(q n || (decide (k≤n) && decide (n<k+nk)))=true→(p (ρ n)∨(k'≤ρ n∧ρ n<k'+nk)):=fun n hn=>by
  simp only [Bool.or_eq_true,Bool.and_eq_true,decide_eq_true_eq] at hn;rcases hn with hn | hn
  ·exact .inl (hqP n hn)
  ·have:=hnew (n - k) (by omega)
   rw [show k+(n - k)=n by omega] at this;exact .inr (by omega)
 refine ⟨_,_,a_,M',u,rfl,⟨r0,F0,hq0,rfl,rfl⟩,Rp.back k1 hq2 (fun _ _=>rfl) (Rp.to (p:=fun _=>True) (ν:=fun n=>a_ (ρ n)) k1 (fun _ _=>trivial) (fun _ _=>rfl) a.rep).rep,⟨b.mem,fun m ob hm=> ?_,b.inj⟩,c⟩;obtain ⟨_,b1,b2⟩:=b.obs m ob hm;obtain ⟨n,kg,hmem,rfl,rfl⟩:=sY hm;have hn:=List.all_eq_true.1 k2 _ hmem;simp only [Bool.and_eq_true] at hn;have b3:cE (fun _=>True) (fun n=>a_ (ρ n)) M' w' (a_ (ρ n)) kg:=cE.to hn.2 (fun _ _=>trivial) (fun _ _=>rfl) b1;exact ⟨hq2 n hn.1,cE.back hn.2 hq2 (fun _ _=>rfl) b3,b2⟩
theorem bR.M9 {l:List ag}{S:Sh}(h:bR l S)(hl:l.length≤80)(hs:jv S)(p:Nat):aF Tryz.prog revoke_New.f [.ptr (10+p) 0] (Hp.aC (· +p) S.lD) (11+p) 4 (.ptr (14+p) 0) (Hp.aC (· +p) (hX S h.X)):=by
 have:=Lr (fun n=>(lk S.lD n).isSome) (IT S _ h.base.tn hs (by have:=h.jx hl;omega) (h.Lc hl)) (fun n hn=>Option.isSome_iff_ne_none.1 hn) (I6 S _ fun n hn=>(BZ S n).2 (by revert hn;simp;omega)) (by
  rintro r F' ⟨rfl,rfl⟩;refine ⟨by simp [SV.ok],Lq S _ _ fun n hn=> ?_⟩;rw [Bool.or_eq_true]
  by_cases lD:n∈[10,7,8,9,2,0,1]
  ·exact .inl ((BZ S n).2 lD)
  ·refine .inr ?_
   simp at hn lD ⊢;omega) (· +p) (11+p) (fun n m _ _ e=>by have e:n+p=m+p:=e;omega) (fun n hn=>by show n+p<11+p;omega) (fun i _=>by show 11+i+p=11+p+i;omega)
 unfold aF;refine SC.mono (show SC Tryz.prog revoke_New.f [.ptr (10+p) 0] (Hp.aC (· +p) S.lD) (11+p) 4 _ from this) ?_;rintro r F ⟨r0,F0,⟨rfl,rfl⟩,rfl,rfl⟩;exact ⟨rfl,rfl⟩
end
end Go.Proofs.YtaelhkkjgfobhaaGreat
