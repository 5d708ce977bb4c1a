/-
 Operations in the order: how two stand, and the document's sorted row.
-/
import Derived.Test.YtaelhkkjgfobhaaGreatP6
import Derived.Test.YtaelhkkjgfobhaaGreatPV
import Derived.Test.YtaelhkkjgfobhaaGreatPA
import Derived.Test.YtaelhkkjgfobhaaGreatP7
import Derived.Test.YtaelhkkjgfobhaaGreatPT
import Derived.Test.YtaelhkkjgfobhaaGreatP8
set_option linter.unusedSectionVars false
set_option linter.unusedVariables false
set_option linter.unusedSimpArgs false
namespace Go.Proofs.YtaelhkkjgfobhaaGreat
open Go.Sl Go.Proofs
section
attribute [local irreducible] SW RW aF SC aj ak
end
section
attribute [local irreducible] SW RW aF SC aj ak
def uh (R:List Dt)(t:Dt):List Dt:=if t∈R then R else R++[t]
theorem Fg {R:List Dt}{t x:Dt}:x∈uh R t↔x∈R∨x=t:=by
 unfold uh
 split
 ·rename_i h
  exact ⟨.inl,fun h2=>h2.elim id fun e=>e ▸ h⟩
 ·simp
theorem zG {R:List Dt}(h:R.Nodup)(t:Dt):(uh R t).Nodup:=by
 unfold uh
 split
 ·exact h
 ·rename_i hn
  rw [List.nodup_append];exact ⟨h,by simp,fun a ha b hb e=>hn (by rw [List.mem_singleton.1 hb] at e;exact e ▸ ha)⟩
theorem Fi (R:List Dt)(t:Dt):∃ S,uh R t=R++S:=by
 unfold uh
 split
 ·exact ⟨[],by simp⟩
 ·exact ⟨[t],rfl⟩
def mC (R T:List Dt):List Dt:=T.foldl uh R
theorem tK {T:List Dt}:∀ {R:List Dt} {x:Dt},x∈mC R T↔x∈R∨x∈T:=by
 induction T with
 | nil=>intro R x;simp [mC]
 | cons t T ih=>
  intro R x;show x∈mC (uh R t) T↔_;rw [ih,Fg];simp [or_assoc]
theorem wG {T:List Dt}:∀ {R:List Dt},R.Nodup→(mC R T).Nodup:=by
 induction T with
 | nil=>exact fun h=>h
 | cons t T ih=>exact fun h=>ih (zG h t)
theorem zH {T:List Dt}:∀ (R:List Dt),∃ S,mC R T=R++S:=by
 induction T with
 | nil=>exact fun R=>⟨[],by simp [mC]⟩
 | cons t T ih=>
  intro R;obtain ⟨S1,h1⟩:=Fi R t;obtain ⟨S2,h2⟩:=ih (uh R t);exact ⟨S1++S2,by show mC (uh R t) T=_;rw [h2,h1,List.append_assoc]⟩
noncomputable def lS (l:List ag)(d:Dt):Nat→List Dt
 | 0=>[d]
 | i+1=>match (lS l d i)[i]? with
  | some x=>mC (lS l d i) (eB l x)
  | none=>lS l d i
noncomputable def oO (l:List ag)(d:Dt):List Dt:=lS l d 81
theorem j6 {l:List ag}{d:Dt}{i:Nat}{x:Dt}(h:(lS l d i)[i]? =some x):lS l d (i+1)=mC (lS l d i) (eB l x):=by
 simp only [lS,h]
theorem nt {l:List ag}{d:Dt}{i:Nat}(h:(lS l d i)[i]? =none):lS l d (i+1)=lS l d i:=by
 simp only [lS,h]
theorem AP (l:List ag)(d:Dt)(i:Nat):∃ S,lS l d (i+1)=lS l d i++S:=by
 cases h:(lS l d i)[i]? with
 | some x=>rw [j6 h];exact zH _
 | none=>rw [nt h];exact ⟨[],by simp⟩
theorem rA (l:List ag)(d:Dt):∀ i,(lS l d i).Nodup
 | 0=>by simp [lS]
 | i+1=>by
  cases h:(lS l d i)[i]? with
  | some x=>rw [j6 h];exact wG (rA l d i)
  | none=>rw [nt h];exact rA l d i
theorem lP (l:List ag)(d:Dt):∀ i x,x∈lS l d i→Reach (eB l) d x
 | 0,x,hx=>by
  rw [show x=d by simpa [lS] using hx]
  exact .refl _
 | i +1,x,hx=>by
  cases h:(lS l d i)[i]? with
  | some y=>
   rw [j6 h,tK] at hx;rcases hx with hx | hx
   ·exact lP l d i x hx
   ·exact (lP l d i y (List.mem_of_getElem? h)).trans (.step hx (.refl _))
  | none=>rw [nt h] at hx;exact lP l d i x hx
theorem BX {l:List ag}{d e:Dt}(h:Reach (eB l) d e):e=d∨e∈fJ l:=by
 cases h with
 | refl=>exact .inl rfl
 | step ht h=>exact .inr (qt (yw (tH ht)) h)
theorem AQ (l:List ag):(fJ l).length≤l.length:=by
 have:=Dt.EN (l.map (·.dot))
 rwa [List.length_map] at this
theorem BY {l:List ag}{d:Dt}{R:List Dt}(hn:R.Nodup)(h:∀ x,x∈R→Reach (eB l) d x):R.length≤l.length+1:=by
 have h1:=hn.length_le_of_subset (l₂:=d::fJ l) fun x hx=>by
  rcases BX (h x hx) with e | e
  ·rw [e];exact List.mem_cons_self ..
  ·exact List.mem_cons_of_mem _ e
 have h2:=AQ l;simp only [List.length_cons] at h1;omega
theorem AR (l:List ag)(d:Dt)(i:Nat):(lS l d i).length≤l.length+1:=BY (rA l d i) (lP l d i)
theorem yC {l:List ag}{d:Dt}{i:Nat}(h:(lS l d i).length≤i):∀ k,lS l d (i+k)=lS l d i
 | 0=>rfl
 | k+1=>by
  have ih:=yC h k;rw [show i+(k+1)=i+k+1 by omega,nt (by rw [ih];exact List.getElem?_eq_none (by omega)),ih]
theorem yD {l:List ag}{d:Dt}{i:Nat}(hl:l.length≤80)(h:(lS l d i).length=i):lS l d i=oO l d:=by
 have h1:=AR l d i;have:=yC (l:=l) (d:=d) (i:=i) (by omega) (81 - i)
 rw [show i+(81 - i)=81 by omega] at this
 exact this.symm
theorem AS (l:List ag)(d:Dt):∀ i j x,j<i→(lS l d i)[j]? =some x→∀ t,t∈eB l x→t∈lS l d i
 | 0,j,x,hj,_,_,_=>by omega
 | i + 1,j,x,hj,hx,t,ht=>by
  obtain ⟨S,hS⟩:=AP l d i
  by_cases hlt:j<(lS l d i).length
  ·have hx':(lS l d i)[j]? =some x:=by rw [hS,List.getElem?_append_left hlt] at hx;exact hx
   by_cases e:j=i
   ·rw [e] at hx'
    rw [j6 hx',tK];exact .inr ht
   ·rw [hS]
    exact List.mem_append_left _ (AS l d i j x (by omega) hx' t ht)
  ·have hn:(lS l d i)[i]? =none:=List.getElem?_eq_none (by omega)
   rw [nt hn,List.getElem?_eq_none (by omega)] at hx
   cases hx
theorem BZ {l:List ag}{d:Dt}(hl:l.length≤80){e:Dt}:e∈oO l d↔Reach (eB l) d e:=by
 refine ⟨lP l d 81 e,fun h=> ?_⟩
 have key:∀ {a b:Dt},Reach (eB l) a b→a∈oO l d→b∈oO l d:=fun h=>by
  induction h with
  | refl=>exact id
  | step ht _ ih=>
   intro ha;obtain ⟨j,hj⟩:=List.getElem?_of_mem ha;have h1:j<(oO l d).length:=(List.getElem?_eq_some_iff.1 hj).1;have h2:(oO l d).length≤l.length+1:=AR l d 81;exact ih (AS l d 81 j _ (by omega) hj _ ht)
 refine key h ?_;have:∀ i,d∈lS l d i:=fun i=>by
  induction i with
  | zero=>simp [lS]
  | succ i ih=>obtain ⟨S,hS⟩:=AP l d i;rw [hS];exact List.mem_append_left _ ih
 exact this 81
theorem SC.res {P:Program}{f:FuncId}{a:List SV}{F:Hp}{k nk:Nat}{Q Q':SV→Hp→Prop}(h:SC P f a F k nk Q)(hq:∀ r F,Q r F→∃ r',Q' r' F∧∀ p μ M u,Rp p μ M r u→Rp p μ M r' u):SC P f a F k nk Q':=by
 unfold SC at h ⊢;refine ⟨h.1,fun p μ M w vals hp hr hS=>(h.2 p μ M w vals hp hr hS).mono ?_⟩
 rintro e w' ⟨r,F',aV,M',u,rfl,hQ,hru,hS2,hE⟩;obtain ⟨r',h1,h2⟩:=hq r F' hQ;exact ⟨r',F',aV,M',u,rfl,h1,h2 _ _ _ _ hru,hS2,hE⟩
section
variable {l:List ag} (hl:l.length≤80) (hd:∀ x,x∈l→x.bn<256∧x.mS∧x.dot.wf)
include hl hd
end
end
section
attribute [local irreducible] SW RW aF SC aj ak
theorem B0 {l:List ag}(hl:l.length≤80){st:av}{d:Dt}(hd:d∈fJ l):Dt.set ((oO l d).filter fun e=> !st.aU e)=cA l st d:=
 vq hd fun e=>by rw [List.mem_filter,BZ hl];simp
theorem B1 {l:List ag}{S:Sh}(h:bI l S){st:av}{d:Dt}(hd:d∈fJ l):mQ l st d=decide (cA l st d=[]):=by
 have h1:=pg (dY:=eB l) (lv:=h.X.tD) (fun a t ht=>h.lvl a t (by rw [h.su];exact ht)) (pE:=gJ st) 10 d (h.nq d)
 have h2:mQ l st d=true↔cA l st d=[]:=by
  unfold mQ;rw [h1];constructor
  ·intro h3
   rw [List.eq_nil_iff_forall_not_mem];intro e he;obtain ⟨_,h4,h5⟩:=lN.1 he;have:=h3 e h4;have h6:st.aU e=true:=this;rw [h6] at h5;cases h5
  ·intro h3 e he
   show st.aU e=true;cases hc:st.aU e with
   | true=>rfl
   | false=>
    have:e∈cA l st d:=lN.2 ⟨qt hd he,he,hc⟩;rw [h3] at this;cases this
 cases hf:mQ l st d with
 | true=>rw [decide_eq_true (h2.1 hf)]
 | false=>
  have: ¬ cA l st d=[]:=fun e=>by rw [h2.2 e] at hf;cases hf
  rw [decide_eq_false this]
section
variable {l:List ag} (hl:l.length≤80) (hd:∀ x,x∈l→x.bn<256∧x.mS∧x.dot.wf)
include hl hd
end
theorem AT {l:List ag}{S:Sh}(h:bI l S)(st:av):((fJ l).filter fun d=>decide (cA l st d=[]))=(fJ l).filter (mQ l st):=
 List.filter_congr fun d hd=>(B1 h hd).symm
end
section
attribute [local irreducible] SW RW aF SC aj ak
noncomputable def Hs (l:List ag)(V:List Dt)(d e:Dt):Bool:=tJ l d e && !decide (e∈V)
noncomputable def kD (l:List ag)(V D:List Dt):List Dt:=V.filter fun d=> !D.any (Hs l V d)
section
variable {l:List ag} (hl:l.length≤80) (hd:∀ x,x∈l→x.bn<256∧x.mS∧x.dot.wf)
include hl hd
end
theorem Ht {l:List ag}{S:Sh}(h:bI l S)(st:av):kD l ((fJ l).filter fun d=>decide (cA l st d=[])) (fJ l)=(fJ l).filter (zD l st):=by
 rw [AT h st];unfold kD;rw [List.filter_filter];refine List.filter_congr fun d hd=> ?_
 have e:(fJ l).any (Hs l ((fJ l).filter (mQ l st)) d)=(fJ l).any fun e=>tJ l d e && !mQ l st e:=by
  rw [Bool.eq_iff_iff,List.any_eq_true,List.any_eq_true];refine exists_congr fun e=>and_congr_right fun he=> ?_
  unfold Hs;have:decide (e∈(fJ l).filter (mQ l st))=mQ l st e:=by
   rw [Bool.eq_iff_iff,decide_eq_true_eq,List.mem_filter];exact ⟨fun h=>h.2,fun h=>⟨he,h⟩⟩
  rw [this]
 rw [e];unfold zD;exact Bool.and_comm _ _
end
end Go.Proofs.YtaelhkkjgfobhaaGreat
