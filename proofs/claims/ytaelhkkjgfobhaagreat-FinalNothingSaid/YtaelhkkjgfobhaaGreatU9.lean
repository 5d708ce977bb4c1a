/-
 Operations in the order: how two stand, and the document's sorted row.
-/
import Derived.Test.YtaelhkkjgfobhaaGreatU6
import Derived.Test.YtaelhkkjgfobhaaGreatUV
import Derived.Test.YtaelhkkjgfobhaaGreatUA
import Derived.Test.YtaelhkkjgfobhaaGreatU7
import Derived.Test.YtaelhkkjgfobhaaGreatUT
import Derived.Test.YtaelhkkjgfobhaaGreatU8
set_option linter.unusedSectionVars false
set_option linter.unusedVariables false
set_option linter.unusedSimpArgs false
namespace Go.Proofs.YtaelhkkjgfobhaaGreat
open Go.Sl Go.Proofs
section
attribute [local irreducible] SW RW aG SC ai aq
end
section
attribute [local irreducible] SW RW aG SC ai aq
def vq (R:List Dt)(t:Dt):List Dt:=if t∈R then R else R++[t]
theorem Gp {R:List Dt}{t x:Dt}:x∈vq R t↔x∈R∨x=t:=by
 unfold vq
 split
 ·rename_i h
  exact ⟨.inl,fun h2=>h2.elim id fun e=>e ▸ h⟩
 ·simp
theorem AL {R:List Dt}(h:R.Nodup)(t:Dt):(vq R t).Nodup:=by
 unfold vq
 split
 ·exact h
 ·rename_i hn
  rw [List.nodup_append];exact ⟨h,by simp,fun a ha b hb e=>hn (by rw [List.mem_singleton.1 hb] at e;exact e ▸ ha)⟩
theorem Gq (R:List Dt)(t:Dt):∃ S,vq R t=R++S:=by
 unfold vq
 split
 ·exact ⟨[],by simp⟩
 ·exact ⟨[t],rfl⟩
def nM (R T:List Dt):List Dt:=T.foldl vq R
theorem uY {T:List Dt}:∀ {R:List Dt} {x:Dt},x∈nM R T↔x∈R∨x∈T:=by
 induction T with
 | nil=>intro R x;simp [nM]
 | cons t T ih=>
  intro R x;show x∈nM (vq R t) T↔_;rw [ih,Gp];simp [or_assoc]
theorem xO {T:List Dt}:∀ {R:List Dt},R.Nodup→(nM R T).Nodup:=by
 induction T with
 | nil=>exact fun h=>h
 | cons t T ih=>exact fun h=>ih (AL h t)
theorem AM {T:List Dt}:∀ (R:List Dt),∃ S,nM R T=R++S:=by
 induction T with
 | nil=>exact fun R=>⟨[],by simp [nM]⟩
 | cons t T ih=>
  intro R;obtain ⟨S1,h1⟩:=Gq R t;obtain ⟨S2,h2⟩:=ih (vq R t);exact ⟨S1++S2,by show nM (vq R t) T=_;rw [h2,h1,List.append_assoc]⟩
noncomputable def mE (l:List ag)(d:Dt):Nat→List Dt
 | 0=>[d]
 | i+1=>match (mE l d i)[i]? with
  | some x=>nM (mE l d i) (dR l x)
  | none=>mE l d i
noncomputable def pY (l:List ag)(d:Dt):List Dt:=mE l d 81
theorem kT {l:List ag}{d:Dt}{i:Nat}{x:Dt}(h:(mE l d i)[i]? =some x):mE l d (i+1)=nM (mE l d i) (dR l x):=by
 simp only [mE,h]
theorem oN {l:List ag}{d:Dt}{i:Nat}(h:(mE l d i)[i]? =none):mE l d (i+1)=mE l d i:=by
 simp only [mE,h]
theorem BH (l:List ag)(d:Dt)(i:Nat):∃ S,mE l d (i+1)=mE l d i++S:=by
 cases h:(mE l d i)[i]? with
 | some x=>rw [kT h];exact AM _
 | none=>rw [oN h];exact ⟨[],by simp⟩
theorem sx (l:List ag)(d:Dt):∀ i,(mE l d i).Nodup
 | 0=>by simp [mE]
 | i+1=>by
  cases h:(mE l d i)[i]? with
  | some x=>rw [kT h];exact xO (sx l d i)
  | none=>rw [oN h];exact sx l d i
theorem mB (l:List ag)(d:Dt):∀ i x,x∈mE l d i→Reach (dR l) d x
 | 0,x,hx=>by
  rw [show x=d by simpa [mE] using hx]
  exact .refl _
 | i +1,x,hx=>by
  cases h:(mE l d i)[i]? with
  | some y=>
   rw [kT h,uY] at hx;rcases hx with hx | hx
   ·exact mB l d i x hx
   ·exact (mB l d i y (List.mem_of_getElem? h)).trans (.step hx (.refl _))
  | none=>rw [oN h] at hx;exact mB l d i x hx
theorem CV {l:List ag}{d e:Dt}(h:Reach (dR l) d e):e=d∨e∈iR l:=by
 cases h with
 | refl=>exact .inl rfl
 | step ht h=>exact .inr (rE (uV (qp ht)) h)
theorem BI (l:List ag):(iR l).length≤l.length:=by
 have:=Dt.Ay (l.map (·.dot))
 rwa [List.length_map] at this
theorem CW {l:List ag}{d:Dt}{R:List Dt}(hn:R.Nodup)(h:∀ x,x∈R→Reach (dR l) d x):R.length≤l.length+1:=by
 have h1:=hn.length_le_of_subset (l₂:=d::iR l) fun x hx=>by
  rcases CV (h x hx) with e | e
  ·rw [e];exact List.mem_cons_self ..
  ·exact List.mem_cons_of_mem _ e
 have h2:=BI l;simp only [List.length_cons] at h1;omega
theorem BJ (l:List ag)(d:Dt)(i:Nat):(mE l d i).length≤l.length+1:=CW (sx l d i) (mB l d i)
theorem zu {l:List ag}{d:Dt}{i:Nat}(h:(mE l d i).length≤i):∀ k,mE l d (i+k)=mE l d i
 | 0=>rfl
 | k+1=>by
  have ih:=zu h k;rw [show i+(k+1)=i+k+1 by omega,oN (by rw [ih];exact List.getElem?_eq_none (by omega)),ih]
theorem zx {l:List ag}{d:Dt}{i:Nat}(hl:l.length≤80)(h:(mE l d i).length=i):mE l d i=pY l d:=by
 have h1:=BJ l d i;have:=zu (l:=l) (d:=d) (i:=i) (by omega) (81 - i)
 rw [show i+(81 - i)=81 by omega] at this
 exact this.symm
theorem BK (l:List ag)(d:Dt):∀ i j x,j<i→(mE l d i)[j]? =some x→∀ t,t∈dR l x→t∈mE l d i
 | 0,j,x,hj,_,_,_=>by omega
 | i + 1,j,x,hj,hx,t,ht=>by
  obtain ⟨S,hS⟩:=BH l d i
  by_cases hlt:j<(mE l d i).length
  ·have hx':(mE l d i)[j]? =some x:=by rw [hS,List.getElem?_append_left hlt] at hx;exact hx
   by_cases e:j=i
   ·rw [e] at hx'
    rw [kT hx',uY];exact .inr ht
   ·rw [hS]
    exact List.mem_append_left _ (BK l d i j x (by omega) hx' t ht)
  ·have hn:(mE l d i)[i]? =none:=List.getElem?_eq_none (by omega)
   rw [oN hn,List.getElem?_eq_none (by omega)] at hx
   cases hx
theorem CX {l:List ag}{d:Dt}(hl:l.length≤80){e:Dt}:e∈pY l d↔Reach (dR l) d e:=by
 refine ⟨mB l d 81 e,fun h=> ?_⟩
 have key:∀ {a b:Dt},Reach (dR l) a b→a∈pY l d→b∈pY l d:=fun h=>by
  induction h with
  | refl=>exact id
  | step ht _ ih=>
   intro ha;obtain ⟨j,hj⟩:=List.getElem?_of_mem ha;have h1:j<(pY l d).length:=(List.getElem?_eq_some_iff.1 hj).1;have h2:(pY l d).length≤l.length+1:=BJ l d 81;exact ih (BK l d 81 j _ (by omega) hj _ ht)
 refine key h ?_;have:∀ i,d∈mE l d i:=fun i=>by
  induction i with
  | zero=>simp [mE]
  | succ i ih=>obtain ⟨S,hS⟩:=BH l d i;rw [hS];exact List.mem_append_left _ ih
 exact this 81
theorem SC.res {P:Program}{f:FuncId}{a:List SV}{F:Hp}{k nk:Nat}{Q Q':SV→Hp→Prop}(h:SC P f a F k nk Q)(hq:∀ r F,Q r F→∃ r',Q' r' F∧∀ p μ M u,Rp p μ M r u→Rp p μ M r' u):SC P f a F k nk Q':=by
 unfold SC at h ⊢;refine ⟨h.1,fun p μ M w vals hp hr hS=>(h.2 p μ M w vals hp hr hS).mono ?_⟩
 rintro e w' ⟨r,F',bn,M',u,rfl,hQ,hru,hS2,hE⟩;obtain ⟨r',h1,h2⟩:=hq r F' hQ;exact ⟨r',F',bn,M',u,rfl,h1,h2 _ _ _ _ hru,hS2,hE⟩
section
variable {l:List ag} (hl:l.length≤80) (hd:∀ x,x∈l→x.aQ<256∧x.nQ∧x.dot.wf)
include hl hd
theorem CY (d:Dt)(k:Nat):aG Tryz.prog ref18_Threats.f [ops l,.agg d.cells] [] k 0 (.dw [bp (dR l d),bl (dx l d)]) []:=by
 have h:=CK hl hd d k;unfold aG at h ⊢;refine SC.res h ?_;rintro r F ⟨rfl,rfl⟩;refine ⟨_,⟨rfl,rfl⟩,fun p μ M u hu=> ?_⟩
 unfold sO at hu;unfold dR;cases hg:dx l d with
 | true=>rw [hg] at hu;exact hu
 | false=>
  rw [hg] at hu;simp only [Bool.false_eq_true,if_false] at hu ⊢;obtain ⟨vs,rfl,h1⟩:=Rp.dF.1 hu;obtain ⟨u1,us,e1,h2,h3⟩:=aW.aD.1 h1;exact Rp.dF.2 ⟨vs,rfl,e1 ▸ aW.aD.2 ⟨u1,us,rfl,lB _ _ _ _ h2,h3⟩⟩
end
end
section
attribute [local irreducible] SW RW aG SC ai aq
theorem CZ {l:List ag}(hl:l.length≤80){st:aB}{d:Dt}(hd:d∈iR l):Dt.set ((pY l d).filter fun e=> !st.bA e)=dy l st d:=
 wJ hd fun e=>by rw [List.mem_filter,CX hl];simp
theorem C0 {l:List ag}{S:Sh}(h:bP l S){st:aB}{d:Dt}(hd:d∈iR l):n_ l st d=decide (dy l st d=[]):=by
 have h1:=qo (eH:=dR l) (lv:=h.X.uR) (fun a t ht=>h.lvl a t (by rw [h.tA];exact ht)) (qu:=iI st) 10 d (h.oL d)
 have h2:n_ l st d=true↔dy l st d=[]:=by
  unfold n_;rw [h1];constructor
  ·intro h3
   rw [List.eq_nil_iff_forall_not_mem];intro e he;obtain ⟨_,h4,h5⟩:=jB.1 he;have:=h3 e h4;have h6:st.bA e=true:=this;rw [h6] at h5;cases h5
  ·intro h3 e he
   show st.bA e=true;cases hc:st.bA e with
   | true=>rfl
   | false=>
    have:e∈dy l st d:=jB.2 ⟨rE hd he,he,hc⟩;rw [h3] at this;cases this
 cases hf:n_ l st d with
 | true=>rw [decide_eq_true (h2.1 hf)]
 | false=>
  have: ¬ dy l st d=[]:=fun e=>by rw [h2.2 e] at hf;cases hf
  rw [decide_eq_false this]
section
variable {l:List ag} (hl:l.length≤80) (hd:∀ x,x∈l→x.aQ<256∧x.nQ∧x.dot.wf)
include hl hd
end
theorem BL {l:List ag}{S:Sh}(h:bP l S)(st:aB):((iR l).filter fun d=>decide (dy l st d=[]))=(iR l).filter (n_ l st):=
 List.filter_congr fun d hd=>(C0 h hd).symm
end
section
attribute [local irreducible] SW RW aG SC ai aq
noncomputable def K9 (l:List ag)(V:List Dt)(d e:Dt):Bool:=uX l d e && !decide (e∈V)
noncomputable def zy (l:List ag)(V D:List Dt):List Dt:=V.filter fun d=> !D.any (K9 l V d)
section
variable {l:List ag} (hl:l.length≤80) (hd:∀ x,x∈l→x.aQ<256∧x.nQ∧x.dot.wf)
include hl hd
end
theorem IP {l:List ag}{S:Sh}(h:bP l S)(st:aB):zy l ((iR l).filter fun d=>decide (dy l st d=[])) (iR l)=(iR l).filter (AJ l st):=by
 rw [BL h st];unfold zy;rw [List.filter_filter];refine List.filter_congr fun d hd=> ?_
 have e:(iR l).any (K9 l ((iR l).filter (n_ l st)) d)=(iR l).any fun e=>uX l d e && !n_ l st e:=by
  rw [Bool.eq_iff_iff,List.any_eq_true,List.any_eq_true];refine exists_congr fun e=>and_congr_right fun he=> ?_
  unfold K9;have:decide (e∈(iR l).filter (n_ l st))=n_ l st e:=by
   rw [Bool.eq_iff_iff,decide_eq_true_eq,List.mem_filter];exact ⟨fun h=>h.2,fun h=>⟨he,h⟩⟩
  rw [this]
 rw [e];unfold AJ;exact Bool.and_comm _ _
end
end Go.Proofs.YtaelhkkjgfobhaaGreat
