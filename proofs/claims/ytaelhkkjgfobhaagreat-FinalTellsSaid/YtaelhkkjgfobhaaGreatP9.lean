/-
 Operations in the order: how two stand, and the document's sorted row.
-/
import Derived.Test.YtaelhkkjgfobhaaGreatP6
import Derived.Test.YtaelhkkjgfobhaaGreatPV
import Derived.Test.YtaelhkkjgfobhaaGreatPA
import Derived.Test.YtaelhkkjgfobhaaGreatP7
import Derived.Test.YtaelhkkjgfobhaaGreatPT
import Derived.Test.YtaelhkkjgfobhaaGreatP8
set_option linter.unusedSectionVars false
set_option linter.unusedVariables false
set_option linter.unusedSimpArgs false
namespace Go.Proofs.YtaelhkkjgfobhaaGreat
open Go.Sl Go.Proofs
section
attribute [local irreducible] SW RW aF SC ai aq
theorem Dp {a b:ag}(h:a.time<b.time):n_ a b= -1:=by
 unfold n_;rw [if_pos (ag.lt_iff.2 (.inl h))]
theorem Ba {a b:ag}(h:b.time<a.time):n_ a b=1:=by
 unfold n_;rw [if_neg (by rw [ag.lt_iff];omega),if_pos (ag.lt_iff.2 (.inl h))]
theorem GQ {a b:ag}(h:a.time=b.time):n_ a b=Ez a.dot b.dot:=by
 have l1:(a.lt b=true)↔(a.dot.r<b.dot.r∨a.dot.r=b.dot.r∧a.dot.n<b.dot.n):=by rw [ag.lt_iff];omega
 have l2:(b.lt a=true)↔(b.dot.r<a.dot.r∨b.dot.r=a.dot.r∧b.dot.n<a.dot.n):=by rw [ag.lt_iff];omega
 unfold n_;simp only [l1,l2];unfold Ez dJ
 repeat' split
 all_goals omega
theorem GR (a b:ag)(ha:a.dot.wf)(hb:b.dot.wf):Go.Sl.Pure Tryz.prog ref10_Compare.f [.agg a.cells,.agg b.cells] (.d (.int .i64 (n_ a b))):=by
 have hc:=yW a.dot b.dot ha hb;refine ref10_Compare.enter (by first | rfl | simp [SV.ok,SV.ax]) (by first | rfl | simp [Hp.ok,Ob.ok,SV.ok,SV.ax,aB.ak]) (by simp) ?_;dsimp only [ref10_Compare.s,Co.M,Co.J,Co.F,Co.Z,Co.T,Co.K,Co.Q,Co.x,Co.V,Co.D,Co.S];refine SW.seq ?_;refine SW.g0 [0,1,2,3,4,9,14] mixed af ?_;refine SW.seq (SW.seq ?_);rcases h1:decide ((a.time:Int)<b.time) with _ | _
 rotate_left
 ·rw [Dp (by simpa using h1)]
  (repeat (first | refine SW.seq ?_ | refine SW.block ?_ | refine SW.g0 [0,1,2,3,4,9,14] mixed (h1) ?_ | refine SW.skip ?_ | refine SW.exit ?_ | refine SW.ret ?_ | refine SW.aj rfl ?_ | refine SW.ah rfl ?_));exact End.mk [] (h4:=⟨rfl,rfl⟩)
 refine SW.g0 [0,1,2,3,4,9,14] mixed (h1) ?_;refine SW.ah rfl (SW.skip ?_);refine SW.seq (SW.seq ?_);rcases h2:decide ((a.time:Int)>b.time) with _ | _
 rotate_left
 ·rw [Ba (by simpa using h2)]
  (repeat (first | refine SW.seq ?_ | refine SW.block ?_ | refine SW.g0 [0,1,2,3,4,9,14] mixed (h2) ?_ | refine SW.skip ?_ | refine SW.exit ?_ | refine SW.ret ?_ | refine SW.aj rfl ?_ | refine SW.ah rfl ?_));exact End.mk [] (h4:=⟨rfl,rfl⟩)
 rw [GQ (by simp at h1 h2;omega)];refine SW.g0 [0,1,2,3,4,9,14] mixed (h2) ?_;refine SW.ah rfl (SW.skip ?_);refine SW.seq ?_;refine SW.g1 [0,1,2,3,4,9,14] mixed af hc ?_;refine SW.ret ?_;exact End.mk [] (h4:=⟨rfl,rfl⟩)
theorem GS (a b:ag)(ha:a.dot.wf)(hb:b.dot.wf)(k:Nat):aF Tryz.prog ref10_Compare.f [.agg a.cells,.agg b.cells] [] k 0 (.d (.int .i64 (n_ a b))) []:=(GR a b ha hb).sc rfl k
end
section
attribute [local irreducible] SW RW aF SC ai aq
theorem oS (s:List Dt)(x:Dt):(s++[x]).length=s.length+1:=by simp
theorem rR (s:List Dt)(x:Dt):List.map SV.d ((s++[x]).flatMap Dt.ds)=List.map SV.d (s.flatMap Dt.ds)++List.map SV.d x.ds:=by simp
def pX (R:List Dt)(t:Dt):List Dt:=if t∈R then R else R++[t]
theorem GU {R:List Dt}{t x:Dt}:x∈pX R t↔x∈R∨x=t:=by
 unfold pX
 split
 ·rename_i h
  exact ⟨.inl,fun h2=>h2.elim id fun e=>e ▸ h⟩
 ·simp
theorem Bb {R:List Dt}(h:R.Nodup)(t:Dt):(pX R t).Nodup:=by
 unfold pX
 split
 ·exact h
 ·rename_i hn
  rw [List.nodup_append];exact ⟨h,by simp,fun a ha b hb e=>hn (by rw [List.mem_singleton.1 hb] at e;exact e ▸ ha)⟩
theorem GV (R:List Dt)(t:Dt):∃ S,pX R t=R++S:=by
 unfold pX
 split
 ·exact ⟨[],by simp⟩
 ·exact ⟨[t],rfl⟩
def eS (R T:List Dt):List Dt:=T.foldl pX R
theorem zS (R T:List Dt)(t:Dt):eS R (T++[t])=pX (eS R T) t:=by simp [eS]
theorem qB {T:List Dt}:∀ {R:List Dt} {x:Dt},x∈eS R T↔x∈R∨x∈T:=by
 induction T with
 | nil=>intro R x;simp [eS]
 | cons t T ih=>
  intro R x;show x∈eS (pX R t) T↔_;rw [ih,GU];simp [or_assoc]
theorem rS {T:List Dt}:∀ {R:List Dt},R.Nodup→(eS R T).Nodup:=by
 induction T with
 | nil=>exact fun h=>h
 | cons t T ih=>exact fun h=>ih (Bb h t)
theorem Bc {T:List Dt}:∀ (R:List Dt),∃ S,eS R T=R++S:=by
 induction T with
 | nil=>exact fun R=>⟨[],by simp [eS]⟩
 | cons t T ih=>
  intro R;obtain ⟨S1,h1⟩:=GV R t;obtain ⟨S2,h2⟩:=ih (pX R t);exact ⟨S1++S2,by show eS (pX R t) T=_;rw [h2,h1,List.append_assoc]⟩
noncomputable def jm (l:List ag)(d:Dt):Nat→List Dt
 | 0=>[d]
 | i+1=>match (jm l d i)[i]? with
  | some x=>eS (jm l d i) (dK l x)
  | none=>jm l d i
noncomputable def jY (l:List ag)(d:Dt):List Dt:=jm l d 81
theorem jZ {l:List ag}{d:Dt}{i:Nat}{x:Dt}(h:(jm l d i)[i]? =some x):jm l d (i+1)=eS (jm l d i) (dK l x):=by
 simp only [jm,h]
theorem oT {l:List ag}{d:Dt}{i:Nat}(h:(jm l d i)[i]? =none):jm l d (i+1)=jm l d i:=by
 simp only [jm,h]
theorem yf (l:List ag)(d:Dt)(i:Nat):∃ S,jm l d (i+1)=jm l d i++S:=by
 cases h:(jm l d i)[i]? with
 | some x=>rw [jZ h];exact Bc _
 | none=>rw [oT h];exact ⟨[],by simp⟩
theorem pS (l:List ag)(d:Dt):∀ i,(jm l d i).Nodup
 | 0=>by simp [jm]
 | i+1=>by
  cases h:(jm l d i)[i]? with
  | some x=>rw [jZ h];exact rS (pS l d i)
  | none=>rw [oT h];exact pS l d i
theorem jL (l:List ag)(d:Dt):∀ i x,x∈jm l d i→Reach (dK l) d x
 | 0,x,hx=>by
  rw [show x=d by simpa [jm] using hx];exact .refl _
 | i +1,x,hx=>by
  cases h:(jm l d i)[i]? with
  | some y=>
   rw [jZ h,qB] at hx;rcases hx with hx | hx
   ·exact jL l d i x hx
   ·exact (jL l d i y (List.mem_of_getElem? h)).trans (.step hx (.refl _))
  | none=>rw [oT h] at hx;exact jL l d i x hx
theorem Dq {l:List ag}{d e:Dt}(h:Reach (dK l) d e):e=d∨e∈fA l:=by
 cases h with
 | refl=>exact .inl rfl
 | step ht h=>exact .inr (oQ (zM (vf ht)) h)
theorem rT (l:List ag):(fA l).length≤l.length:=by
 have:=Dt.AY (l.map (·.dot))
 rwa [List.length_map] at this
theorem xd {l:List ag}{d:Dt}{R:List Dt}(hn:R.Nodup)(h:∀ x,x∈R→Reach (dK l) d x):R.length≤l.length+1:=by
 have h1:=hn.length_le_of_subset (l₂:=d::fA l) fun x hx=>by
  rcases Dq (h x hx) with e | e
  ·rw [e];exact List.mem_cons_self ..
  ·exact List.mem_cons_of_mem _ e
 have h2:=rT l;simp only [List.length_cons] at h1;omega
theorem tQ (l:List ag)(d:Dt)(i:Nat):(jm l d i).length≤l.length+1:=xd (pS l d i) (jL l d i)
theorem zT {l:List ag}{d:Dt}{i:Nat}(h:(jm l d i).length≤i):∀ k,jm l d (i+k)=jm l d i
 | 0=>rfl
 | k+1=>by
  have ih:=zT h k;rw [show i+(k+1)=i+k+1 by omega,oT (by rw [ih];exact List.getElem?_eq_none (by omega)),ih]
theorem vh {l:List ag}{d:Dt}{i:Nat}(hl:l.length≤80)(h:(jm l d i).length=i):jm l d i=jY l d:=by
 have h1:=tQ l d i;have:=zT (l:=l) (d:=d) (i:=i) (by omega) (81 - i);rw [show i+(81 - i)=81 by omega] at this;exact this.symm
theorem B8 (l:List ag)(d:Dt):∀ i j x,j<i→(jm l d i)[j]? =some x→∀ t,t∈dK l x→t∈jm l d i
 | 0,j,x,hj,_,_,_=>by omega
 | i + 1,j,x,hj,hx,t,ht=>by
  obtain ⟨S,hS⟩:=yf l d i
  by_cases hlt:j<(jm l d i).length
  ·have hx':(jm l d i)[j]? =some x:=by rw [hS,List.getElem?_append_left hlt] at hx;exact hx
   by_cases e:j=i
   ·rw [e] at hx'
    rw [jZ hx',qB];exact .inr ht
   ·rw [hS]
    exact List.mem_append_left _ (B8 l d i j x (by omega) hx' t ht)
  ·have hn:(jm l d i)[i]? =none:=List.getElem?_eq_none (by omega)
   rw [oT hn,List.getElem?_eq_none (by omega)] at hx;cases hx
theorem xe {l:List ag}{d:Dt}(hl:l.length≤80){e:Dt}:e∈jY l d↔Reach (dK l) d e:=by
 refine ⟨jL l d 81 e,fun h=> ?_⟩;have key:∀ {a b:Dt},Reach (dK l) a b→a∈jY l d→b∈jY l d:=fun h=>by
  induction h with
  | refl=>exact id
  | step ht _ ih=>
   intro ha;obtain ⟨j,hj⟩:=List.getElem?_of_mem ha;have h1:j<(jY l d).length:=(List.getElem?_eq_some_iff.1 hj).1;have h2:(jY l d).length≤l.length+1:=tQ l d 81;exact ih (B8 l d 81 j _ (by omega) hj _ ht)
 refine key h ?_;have:∀ i,d∈jm l d i:=fun i=>by
  induction i with
  | zero=>simp [jm]
  | succ i ih=>obtain ⟨S,hS⟩:=yf l d i;rw [hS];exact List.mem_append_left _ ih
 exact this 81
theorem Dr {l:List ag}(hl:l.length≤80)(d:Dt):(jY l d).length≤81:=by
 have:(jY l d).length≤l.length+1:=tQ l d 81;omega
theorem SC.res {P:Program}{f:FuncId}{a:List SV}{F:Hp}{k nk:Nat}{Q Q':SV→Hp→Prop}(h:SC P f a F k nk Q)(hq:∀ r F,Q r F→∃ r',Q' r' F∧∀ p μ M u,Rp p μ M r u→Rp p μ M r' u):SC P f a F k nk Q':=by
 unfold SC at h ⊢;refine ⟨h.1,fun p μ M w vals hp hr hS=>(h.2 p μ M w vals hp hr hS).mono ?_⟩;rintro e w' ⟨r,F',a_,M',u,rfl,hQ,hru,hS2,hE⟩;obtain ⟨r',h1,h2⟩:=hq r F' hQ;exact ⟨r',F',a_,M',u,rfl,h1,h2 _ _ _ _ hru,hS2,hE⟩
theorem Jl (R:List Dt)(d:Dt)(hl:R.length<1000000000)(m k:Nat):aF Tryz.prog ref03_In.f [.gs m R.length,.agg d.cells] [(m,kE R m)] k 0 (.d (.bool (decide (d∈R)))) [(m,kE R m)]:=by
 have:=h_ R d hl k;refine SC.NP (sz:=2) this (fun p p' μ a_ M M' u h=>by rw [Rp.bG] at h ⊢;exact h) (fun c hc=> ?_) (by
  clear this hl
  induction R with
  | nil=>rfl
  | cons x R ih=>rw [List.flatMap_cons,List.length_append,ih];simp [Dt.ds];omega)
 rw [List.mem_singleton.1 hc];refine SV.Cl fun c hc=> ?_
 simp only [Dt.cells,List.mem_cons,List.not_mem_nil,or_false] at hc;rcases hc with rfl | rfl <;> exact fun p p' μ a_ M M' u h=>by
  first
  | (unfold u8 at h ⊢;rw [Rp.aL] at h ⊢;exact h)
  | (unfold u32 at h ⊢;rw [Rp.aL] at h ⊢;exact h)
  | (unfold u64 at h ⊢;rw [Rp.aL] at h ⊢;exact h)
  | (rw [Rp.aL] at h ⊢;exact h)
section
variable {l:List ag} (hl:l.length≤80) (hd:∀ x,x∈l→x.aP<256∧x.mN∧x.dot.wf)
include hl hd
theorem Ds (d:Dt)(k:Nat):aF Tryz.prog ref18_Threats.f [ops l,.agg d.cells] [] k 0 (.dm [aW (dK l d),bl (di l d)]) []:=by
 have h:=Dc hl hd d k;unfold aF at h ⊢;refine SC.res h ?_;rintro r F ⟨rfl,rfl⟩;refine ⟨_,⟨rfl,rfl⟩,fun p μ M u hu=> ?_⟩;unfold s6 at hu;unfold dK;cases hg:di l d with
 | true=>rw [hg] at hu;exact hu
 | false=>
  rw [hg] at hu;simp only [Bool.false_eq_true,if_false] at hu ⊢;obtain ⟨vs,rfl,h1⟩:=Rp.dX.1 hu;obtain ⟨u1,us,e1,h2,h3⟩:=aU.aD.1 h1;exact Rp.dX.2 ⟨vs,rfl,e1 ▸ aU.aD.2 ⟨u1,us,rfl,m_ _ _ _ _ h2,h3⟩⟩
set_option maxHeartbeats 4000000 in
theorem Bd:Go.Sl.Pure Tryz.prog ref20_dots.f [ops l] (aW (fA l)):=by
 refine ref20_dots.enter (by first | rfl | simp [SV.ok,SV.ax]) (by first | rfl | simp [Hp.ok,Ob.ok,SV.ok,SV.ax,aB.ak]) (by simp) ?_;dsimp only [ref20_dots.s,Co.M,Co.J,Co.F,Co.Z,Co.b8,Co.av,Co.K,Co.L,Co.P,Co.Y,Co.V,Co.D,Co.I,Co.S];refine SW.seq ?_;refine SW.g0 [0,2,3,4,8] mixed af ?_;refine SW.seq ?_;refine SW.g0 [0,2,3,4,8] mixed af ?_;refine SW.jb 3 37 2 rfl ?_;refine SW.seq (SW.seq ?_);refine SW.g0 [0,2,3,4,8] mixed af ?_;refine SW.block ?_;refine SW.gY (α:={i:Nat // i≤l.length}) (fun i=>⟨[(4,i64 i.1),(3,.gs 0 ((l.take i.1).map (·.dot)).length),(0,ops l)],[(0,kE ((l.take i.1).map (·.dot)) 0)],1⟩) (fun i=>l.length - i.1) ⟨0,by omega⟩ id af (round:= ?_);rintro ⟨i,hi⟩;dsimp only
 by_cases h:i<l.length
 ·obtain ⟨x,hx⟩:=aZ h
  have h1:decide ((i:Int)<l.length)=true:=by simp only [decide_eq_true_eq];omega
  have e2:IntKind.i64.wrap ((i:Int)+1)=((i+1:Nat):Int):=wrap_i64 _ (by omega);have fc:((l.take i).map (·.dot)).length≤80:=by rw [List.length_map,List.length_take];omega
  have hsn:(l.take (i+1)).map (·.dot)=(l.take i).map (·.dot)++[x.dot]:=by rw [bH hx,List.map_append];rfl
  generalize (l.take i).map (·.dot)=s at hsn fc ⊢;refine SW.seq (SW.seq ?_);refine SW.g0 [0,2,3,4,8] mixed (h1) ?_;refine SW.aj rfl (SW.skip ?_);refine SW.seq (SW.block ?_);refine SW.g0 [0,2,3,4,8] mixed (And.intro (nO hx) (lg hx)) ?_;refine SW.g0 [0,2,3,4,8] mixed (e2) ?_;refine ⟨⟨i+1,by omega⟩,fun n=>if n=0 then 1 else n,by show l.length - (i+1)<_;omega,?_⟩;dsimp only;rw [hsn];exact aK.mk (And.intro (oS s x.dot) (rR s x.dot))
 ·have h1:decide ((i:Int)<l.length)=false:=by simp only [decide_eq_false_iff_not];omega
  have h2:i=l.length:=by omega
  subst h2;rw [List.take_length];have hs:=uX (l.map (·.dot)) (by rw [List.length_map];omega) (fun v hv=>by
   obtain ⟨o,ho,rfl⟩:=List.mem_map.1 hv;exact (hd o ho).2.2)
  refine SW.seq (SW.seq ?_);refine SW.g0 [0,2,3,4,8] mixed (h1) ?_;refine SW.ah rfl (SW.exit ?_);refine SW.freeze 0 ((l.map (·.dot)).flatMap Dt.ds) rfl rfl ?_;simp only [iZ,SV.iw,List.map_cons,List.map_nil,if_true,if_false,reduceIte,cM,Nat.reduceEqDiff];refine SW.seq ?_;refine SW.g1 [0,2,3,4,8] mixed af hs ?_;refine SW.ret ?_;exact End.mk [] (h4:=⟨rfl,rfl⟩)
theorem vi (k:Nat):aF Tryz.prog ref20_dots.f [ops l] [] k 0 (aW (fA l)) []:=(Bd hl hd).sc rfl k
set_option maxHeartbeats 4000000 in
theorem zU (d:Dt):Go.Sl.Pure Tryz.prog ref20_needs.f [ops l,.agg d.cells] (aW (jY l d)):=by
 refine ref20_needs.enter (by first | rfl | simp [SV.ok,SV.ax]) (by first | rfl | simp [Hp.ok,Ob.ok,SV.ok,SV.ax,aB.ak]) (by simp) ?_;dsimp only [ref20_needs.s,Co.M,Co.J,Co.F,Co.Z,Co.b8,Co.av,Co.K,Co.E,Co.L,Co.Q,Co.x,Co.Y,Co.V,Co.O,Co.I,Co.S];refine SW.seq ?_;refine SW.g0 [0,1,3,4,5,6,7,9,15,30,39] mixed af ?_;refine SW.seq ?_
 (refine SW.bT [0,1,3,4,5,6,7,9,15,30,39] mixed ?_;(repeat (first | refine N4 (a:=d) rfl rfl (h:= ?_) | refine RW.ro af (h:= ?_) | refine RW.skip (h:= ?_) | refine RW.op af (h:= ?_) | refine RW.dD af (h:= ?_) | refine RW.aY (h:= ?_)));refine RW.nil ⟨gU (by kernel_rfl),aq.mk (h:= ?_)⟩)
 refine SW.seq (SW.seq ?_);refine SW.g0 [0,1,3,4,5,6,7,9,15,30,39] mixed af ?_;refine SW.block ?_;refine SW.gY (α:={i:Nat // i≤(jm l d i).length}) (fun i=>⟨[(6,i64 i.1),(5,.gs 1 (jm l d i.1).length),(3,.ptr 0 0),(0,ops l)],[(1,kE (jm l d i.1) 1),(0,.box 37 d.cells)],2⟩) (fun i=>81 - i.1) ⟨0,by omega⟩ id (And.intro (show (jm l d 0).length=1 from rfl) (show List.map SV.d ((jm l d 0).flatMap Dt.ds)=d.cells from rfl)) (round:= ?_);rintro ⟨i,hi⟩;dsimp only;have hR81:=tQ l d i
 by_cases h:i<(jm l d i).length
 ·obtain ⟨x,hx⟩:=aZ h
  have e9:=jZ hx;have hreach:∀ j y,y∈eS (jm l d i) ((dK l x).take j)→Reach (dK l) d y:=fun j y hy=>by
   rcases qB.1 hy with hy | hy
   ·exact jL l d i y hy
   ·exact (jL l d i x (List.mem_of_getElem? hx)).trans (.step (List.mem_of_mem_take hy) (.refl _))
  have hlen:∀ j,(eS (jm l d i) ((dK l x).take j)).length≤81:=fun j=>by
   have:=xd (rS (pS l d i)) (hreach j);omega
  have hpre:(jm l d i).length≤(jm l d (i+1)).length:=by
   obtain ⟨S,hS⟩:=yf l d i;rw [hS,List.length_append];omega
  have hT:(dK l x).length≤80:=by
   unfold dK
   split
   ·have h2:=List.length_filter_le (mK l x) (bI l)
    have h3:=sM hl hd;omega
   ·decide
  have hc:=Ds hl hd x;have hi':i+1≤(jm l d (i+1)).length:=by omega
  rw [e9] at hi';have hne:∀ i',i'=i+1→jm l d i'=eS (jm l d i) (dK l x):=fun _ e=>e ▸ e9
  generalize di l x=gx at hc;generalize dK l x=T at hc hT hlen e9 hi' hne;generalize jm l d i=R at h hx hlen hR81 hi' e9 hne ⊢;have h1:decide ((i:Int)<R.length)=true:=by simp only [decide_eq_true_eq];omega
  have e2:IntKind.i64.wrap ((i:Int)+1)=((i+1:Nat):Int):=wrap_i64 _ (by omega);refine SW.seq (SW.seq ?_);refine SW.g0 [0,1,3,4,5,6,7,9,15,30,39] mixed (h1) ?_;refine SW.aj rfl (SW.skip ?_);refine SW.seq (SW.block (SW.seq ?_));refine SW.g1 [0,1,3,4,5,6,7,9,15,30,39] mixed (bW hx) hc ?_;refine SW.seq ?_;refine SW.g0 [0,1,3,4,5,6,7,9,15,30,39] mixed af ?_;refine SW.block ?_;refine SW.gY (α:={j:Nat // j≤T.length}) (fun j=>⟨[(9,i64 j.1),(7,aW T),(6,i64 i),(5,.gs 1 (eS R (T.take j.1)).length),(3,.ptr 0 0),(0,ops l)],[(1,kE (eS R (T.take j.1)) 1),(0,.box 37 d.cells)],2⟩) (fun j=>T.length - j.1) ⟨0,by omega⟩ id (And.intro (show R.length=(eS R []).length from rfl) (show List.map SV.d (R.flatMap Dt.ds)=List.map SV.d ((eS R []).flatMap Dt.ds) from rfl)) (round:= ?_);rintro ⟨j,hj⟩;dsimp only
  by_cases hjl:j<T.length
  ·obtain ⟨t,ht⟩:=aZ hjl
   have j1:decide ((j:Int)<T.length)=true:=by simp only [decide_eq_true_eq];omega
   have e3:IntKind.i64.wrap ((j:Int)+1)=((j+1:Nat):Int):=wrap_i64 _ (by omega);have hS:=hlen j;have hsn:eS R (T.take (j+1))=pX (eS R (T.take j)) t:=by rw [bH ht,zS]
   generalize eS R (T.take j)=S at hS hsn ⊢;have cI:=Jl S t (by omega) 1;refine SW.seq (SW.seq ?_);refine SW.g0 [0,1,3,4,5,6,7,9,15,30,39] mixed (j1) ?_;refine SW.aj rfl (SW.skip ?_);refine SW.seq (SW.block (SW.seq ?_));cases ht2:decide (t∈S) with
   | true=>
    rw [ht2] at cI;have e4:pX S t=S:=by unfold pX;rw [if_pos (of_decide_eq_true ht2)]
    refine SW.g1 [0,1,3,4,5,6,7,9,15,30,39] mixed (bW ht) cI ?_;refine SW.ah rfl (SW.skip ?_);refine SW.g0 [0,1,3,4,5,6,7,9,15,30,39] mixed (e3) ?_;refine ⟨⟨j+1,by omega⟩,id,by show T.length - (j+1)<_;omega,?_⟩;dsimp only;rw [hsn,e4];exact aK.mk af
   | false=>
    rw [ht2] at cI;have e4:pX S t=S++[t]:=by unfold pX;rw [if_neg (of_decide_eq_false ht2)]
    refine SW.g1 [0,1,3,4,5,6,7,9,15,30,39] mixed (bW ht) cI ?_;refine SW.aj rfl ?_;refine SW.g0 [0,1,3,4,5,6,7,9,15,30,39] mixed (bW ht) ?_;refine SW.g0 [0,1,3,4,5,6,7,9,15,30,39] mixed (e3) ?_;refine ⟨⟨j+1,by omega⟩,fun n=>if n=1 then 2 else n,by show T.length - (j+1)<_;omega,?_⟩;dsimp only;rw [hsn,e4];exact aK.mk (And.intro (oS S t) (rR S t))
  ·have j1:decide ((j:Int)<T.length)=false:=by simp only [decide_eq_false_iff_not];omega
   have h2:j=T.length:=by omega
   subst h2;rw [List.take_length];generalize eS R T=R' at hi' hne ⊢;refine SW.seq (SW.seq ?_);refine SW.g0 [0,1,3,4,5,6,7,9,15,30,39] mixed (j1) ?_;refine SW.ah rfl (SW.exit ?_);refine SW.g0 [0,1,3,4,5,6,7,9,15,30,39] mixed (e2) ?_;refine ⟨⟨i+1,by rw [hne _ rfl];exact hi'⟩,id,by show 81 - (i+1)<81 - i;omega,?_⟩;dsimp only;rw [hne _ rfl];exact aK.mk af
 ·have h1:decide ((i:Int)<(jm l d i).length)=false:=by simp only [decide_eq_false_iff_not];omega
  have h2:jm l d i=jY l d:=vh hl (by omega);rw [← h2];generalize jm l d i=R at h1 ⊢;refine SW.seq (SW.seq ?_);refine SW.g0 [0,1,3,4,5,6,7,9,15,30,39] mixed (h1) ?_;refine SW.ah rfl (SW.exit ?_);refine SW.freeze 1 (R.flatMap Dt.ds) rfl rfl ?_;simp only [iZ,SV.iw,List.map_cons,List.map_nil,if_true,if_false,reduceIte,cM,Nat.reduceEqDiff];refine SW.seq ?_;refine SW.g0 [0,1,3,4,5,6,7,9,15,30,39] mixed af ?_;refine SW.ret ?_;exact End.mk [] (h4:=⟨rfl,rfl⟩)
theorem zV (d:Dt)(k:Nat):aF Tryz.prog ref20_needs.f [ops l,.agg d.cells] [] k 0 (aW (jY l d)) []:=(zU hl hd d).sc rfl k
end
end
section
attribute [local irreducible] SW RW aF SC ai aq
theorem xg {l:List ag}(hl:l.length≤80){st:aB}{d:Dt}(hd:d∈fA l):Dt.set ((jY l d).filter fun e=> !st.bn e)=bw l st d:=
 xb hd fun e=>by rw [List.mem_filter,xe hl];simp
theorem Du {l:List ag}{S:Sh}(h:bR l S){st:aB}{d:Dt}(hd:d∈fA l):oh l st d=decide (bw l st d=[]):=by
 have h1:=qx (eO:=dK l) (lv:=h.X.va) (fun a t ht=>h.lvl a t (by rw [h.tP];exact ht)) (qD:=iQ st) 10 d (h.oP d);have h2:oh l st d=true↔bw l st d=[]:=by
  unfold oh;rw [h1];constructor
  ·intro h3
   rw [List.eq_nil_iff_forall_not_mem];intro e he;obtain ⟨_,h4,h5⟩:=sP.1 he;have:=h3 e h4;have h6:st.bn e=true:=this;rw [h6] at h5;cases h5
  ·intro h3 e he
   show st.bn e=true;cases hc:st.bn e with
   | true=>rfl
   | false=>
    have:e∈bw l st d:=sP.2 ⟨oQ hd he,he,hc⟩;rw [h3] at this;cases this
 cases hf:oh l st d with
 | true=>rw [decide_eq_true (h2.1 hf)]
 | false=>
  have: ¬ bw l st d=[]:=fun e=>by rw [h2.2 e] at hf;cases hf
  rw [decide_eq_false this]
theorem Dv {l:List ag}(hd:∀ x,x∈l→x.aP<256∧x.mN∧x.dot.wf){e:Dt}(he:e∈fA l):e.wf:=by
 rw [Dt.mem_set,List.mem_map] at he;obtain ⟨o,ho,rfl⟩:=he;exact (hd o ho).2.2
section
variable {l:List ag} (hl:l.length≤80) (hd:∀ x,x∈l→x.aP<256∧x.mN∧x.dot.wf)
include hl hd
set_option maxHeartbeats 4000000 in
theorem zW (st:aB)(d:Dt):Go.Sl.Pure Tryz.prog ref20_Waits.f [ops l,.agg st.cells,.agg d.cells] (eY l st d):=by
 have hf:=lz l (by omega) d;refine ref20_Waits.enter (by first | rfl | simp [SV.ok,SV.ax]) (by first | rfl | simp [Hp.ok,Ob.ok,SV.ok,SV.ax,aB.ak]) (by simp) ?_;dsimp only [ref20_Waits.s,Co.M,Co.J,Co.F,Co.Z,Co.b8,Co.av,Co.bF,Co.K,Co.E,Co.L,Co.P,Co.Q,Co.x,Co.W,Co.Y,Co.V,Co.O,Co.I,Co.S];refine SW.seq ?_;refine SW.g0 [0,1,2,4,5,6,7,9,10,11,12,20,27,36] mixed af ?_;refine SW.seq ?_;refine SW.g1 [0,1,2,4,5,6,7,9,10,11,12,20,27,36] mixed af hf ?_;refine SW.seq (SW.seq ?_);cases hfd:(aS l d).isSome with
 | false=>
  have e:eY l st d= .dm [.d .aJ,i64 7]:=by unfold eY;rw [hfd];rfl
  rw [e];refine SW.g0 [0,1,2,4,5,6,7,9,10,11,12,20,27,36] mixed af ?_;refine SW.aj rfl (SW.seq ?_);refine SW.g0 [0,1,2,4,5,6,7,9,10,11,12,20,27,36] mixed af ?_;refine SW.ret ?_;exact End.mk [] (h4:=⟨rfl,rfl⟩)
 | true=>
  have hdd:d∈fA l:=rQ.2 hfd;have e:eY l st d= .dm [aW (bw l st d),i64 0]:=by unfold eY;rw [hfd];rfl
  rw [e,← xg hl hdd];have hn:=zV hl hd d;have hnl:=Dr hl d;have hnw:∀ v,v∈jY l d→v.wf:=fun v hv=>Dv hd (oQ hdd ((xe hl).1 hv))
  generalize jY l d=N at hn hnl hnw ⊢;refine SW.g0 [0,1,2,4,5,6,7,9,10,11,12,20,27,36] mixed af ?_;refine SW.ah rfl (SW.skip ?_);refine SW.seq ?_;refine SW.g1 [0,1,2,4,5,6,7,9,10,11,12,20,27,36] mixed af hn ?_;refine SW.seq ?_;refine SW.g0 [0,1,2,4,5,6,7,9,10,11,12,20,27,36] mixed af ?_;refine SW.jb 11 37 2 rfl ?_;refine SW.seq (SW.seq ?_);refine SW.g0 [0,1,2,4,5,6,7,9,10,11,12,20,27,36] mixed af ?_;refine SW.block ?_;refine SW.gY (α:={i:Nat // i≤N.length}) (fun i=>⟨[(12,i64 i.1),(11,.gs 3 ((N.take i.1).filter fun e=> !st.bn e).length),(10,aW N),(4,.ptr 0 0)],[(3,kE ((N.take i.1).filter fun e=> !st.bn e) 3),(0,.box 39 st.cells)],4⟩) (fun i=>N.length - i.1) ⟨0,by omega⟩ id af (round:= ?_);rintro ⟨i,hi⟩;dsimp only
  by_cases h:i<N.length
  ·obtain ⟨v,hx⟩:=aZ h
   have h1:decide ((i:Int)<N.length)=true:=by simp only [decide_eq_true_eq];omega
   have e2:IntKind.i64.wrap ((i:Int)+1)=((i+1:Nat):Int):=wrap_i64 _ (by omega);have hc:=qt st v;have fc:((N.take i).filter fun e=> !st.bn e).length≤81:=by
    have h2:=List.length_filter_le (fun e=> !st.bn e) (N.take i);have h3:(N.take i).length≤N.length:=by rw [List.length_take];omega
    omega
   refine SW.seq (SW.seq ?_);refine SW.g0 [0,1,2,4,5,6,7,9,10,11,12,20,27,36] mixed (h1) ?_;refine SW.aj rfl (SW.skip ?_);refine SW.seq (SW.block (SW.seq ?_));cases hcv:st.bn v with
   | true=>
    rw [hcv] at hc;have hsn:(N.take (i+1)).filter (fun e=> !st.bn e)=(N.take i).filter fun e=> !st.bn e:=by rw [bH hx,List.filter_append];simp [hcv]
    generalize (N.take i).filter (fun e=> !st.bn e)=s at hsn fc ⊢;refine SW.g1 [0,1,2,4,5,6,7,9,10,11,12,20,27,36] mixed (bW hx) hc ?_;refine SW.ah rfl (SW.skip ?_);refine SW.g0 [0,1,2,4,5,6,7,9,10,11,12,20,27,36] mixed (e2) ?_;refine ⟨⟨i+1,by omega⟩,id,by show N.length - (i+1)<_;omega,?_⟩;dsimp only;rw [hsn];exact aK.mk af
   | false=>
    rw [hcv] at hc;have hsn:(N.take (i+1)).filter (fun e=> !st.bn e)=((N.take i).filter fun e=> !st.bn e)++[v]:=by rw [bH hx,List.filter_append];simp [hcv]
    generalize (N.take i).filter (fun e=> !st.bn e)=s at hsn fc ⊢;refine SW.g1 [0,1,2,4,5,6,7,9,10,11,12,20,27,36] mixed (bW hx) hc ?_;refine SW.aj rfl ?_;refine SW.g0 [0,1,2,4,5,6,7,9,10,11,12,20,27,36] mixed (bW hx) ?_;refine SW.g0 [0,1,2,4,5,6,7,9,10,11,12,20,27,36] mixed (e2) ?_;refine ⟨⟨i+1,by omega⟩,fun n=>if n=3 then 4 else n,by show N.length - (i+1)<_;omega,?_⟩;dsimp only;rw [hsn];exact aK.mk (And.intro (oS s v) (rR s v))
  ·have h1:decide ((i:Int)<N.length)=false:=by simp only [decide_eq_false_iff_not];omega
   have h2:i=N.length:=by omega
   subst h2;rw [List.take_length];have hfl:=List.length_filter_le (fun e=> !st.bn e) N;have hs:=uX (N.filter fun e=> !st.bn e) (by omega) (fun v hv=>hnw v (List.mem_filter.1 hv).1);generalize (N.filter fun e=> !st.bn e)=R at hs ⊢;refine SW.seq (SW.seq ?_);refine SW.g0 [0,1,2,4,5,6,7,9,10,11,12,20,27,36] mixed (h1) ?_;refine SW.ah rfl (SW.exit ?_);refine SW.freeze 3 (R.flatMap Dt.ds) rfl rfl ?_;simp only [iZ,SV.iw,List.map_cons,List.map_nil,if_true,if_false,reduceIte,cM,Nat.reduceEqDiff];refine SW.seq ?_;refine SW.g1 [0,1,2,4,5,6,7,9,10,11,12,20,27,36] mixed af hs ?_;refine SW.ret ?_;exact End.mk [] (h4:=⟨rfl,rfl⟩)
theorem s9 (st:aB)(d:Dt)(k:Nat):aF Tryz.prog ref20_Waits.f [ops l,.agg st.cells,.agg d.cells] [] k 0 (eY l st d) []:=(zW hl hd st d).sc (by unfold eY;split <;> rfl) k
set_option maxHeartbeats 4000000 in
theorem vj (st:aB):Go.Sl.Pure Tryz.prog ref20_Verdicts.f [ops l,.agg st.cells] (aW ((fA l).filter fun d=>decide (bw l st d=[]))):=by
 have hD:=vi hl hd;have hW:∀ d,d∈fA l→∀ k,aF Tryz.prog ref20_Waits.f [ops l,.agg st.cells,.agg d.cells] [] k 0 (.dm [aW (bw l st d),i64 0]) []:=fun d hdd k=>by
  have:=s9 hl hd st d k;have e:eY l st d= .dm [aW (bw l st d),i64 0]:=by unfold eY;rw [rQ.1 hdd];rfl
  rwa [e] at this
 have hDl:(fA l).length≤80:=Nat.le_trans (rT l) hl;generalize fA l=D at hD hW hDl ⊢;refine ref20_Verdicts.enter (by first | rfl | simp [SV.ok,SV.ax]) (by first | rfl | simp [Hp.ok,Ob.ok,SV.ok,SV.ax,aB.ak]) (by simp) ?_;dsimp only [ref20_Verdicts.s,Co.M,Co.J,Co.F,Co.Z,Co.b8,Co.av,Co.K,Co.E,Co.L,Co.P,Co.R,Co.x,Co.Y,Co.V,Co.I,Co.S];refine SW.seq ?_;refine SW.g0 [0,1,3,4,5,6,7,8,15,30] mixed af ?_;refine SW.seq ?_;refine SW.g1 [0,1,3,4,5,6,7,8,15,30] mixed af hD ?_;refine SW.seq ?_;refine SW.g0 [0,1,3,4,5,6,7,8,15,30] mixed af ?_;refine SW.jb 6 37 2 rfl ?_;refine SW.seq (SW.seq ?_);refine SW.g0 [0,1,3,4,5,6,7,8,15,30] mixed af ?_;refine SW.block ?_;refine SW.gY (α:={i:Nat // i≤D.length}) (fun i=>⟨[(7,i64 i.1),(6,.gs 1 ((D.take i.1).filter fun d=>decide (bw l st d=[])).length),(5,aW D),(3,.ptr 0 0),(0,ops l)],[(1,kE ((D.take i.1).filter fun d=>decide (bw l st d=[])) 1),(0,.box 39 st.cells)],2⟩) (fun i=>D.length - i.1) ⟨0,by omega⟩ id af (round:= ?_);rintro ⟨i,hi⟩;dsimp only
 by_cases h:i<D.length
 ·obtain ⟨v,hx⟩:=aZ h
  have h1:decide ((i:Int)<D.length)=true:=by simp only [decide_eq_true_eq];omega
  have e2:IntKind.i64.wrap ((i:Int)+1)=((i+1:Nat):Int):=wrap_i64 _ (by omega);have hc:=hW v (List.mem_of_getElem? hx);have fc:((D.take i).filter fun d=>decide (bw l st d=[])).length≤80:=by
   have h2:=List.length_filter_le (fun d=>decide (bw l st d=[])) (D.take i);have h3:(D.take i).length≤D.length:=by rw [List.length_take];omega
   omega
  refine SW.seq (SW.seq ?_);refine SW.g0 [0,1,3,4,5,6,7,8,15,30] mixed (h1) ?_;refine SW.aj rfl (SW.skip ?_);refine SW.seq (SW.block (SW.seq ?_));cases hwv:decide (bw l st v=[]) with
  | false=>
   have hz:(((bw l st v).length:Int) == 0)=false:=by
    have:bw l st v≠[]:=of_decide_eq_false hwv;have:=List.length_pos_iff.2 this;simp;omega
   have hsn:(D.take (i+1)).filter (fun d=>decide (bw l st d=[]))=(D.take i).filter fun d=>decide (bw l st d=[]):=by rw [bH hx,List.filter_append];simp [of_decide_eq_false hwv]
   generalize (D.take i).filter (fun d=>decide (bw l st d=[]))=s at hsn fc ⊢;generalize bw l st v=W at hc hz;refine SW.g1 [0,1,3,4,5,6,7,8,15,30] mixed (bW hx) hc ?_;refine SW.seq ?_;refine SW.g0 [0,1,3,4,5,6,7,8,15,30] mixed (hz) ?_;refine SW.ah rfl (SW.skip ?_);refine SW.g0 [0,1,3,4,5,6,7,8,15,30] mixed (e2) ?_;refine ⟨⟨i+1,by omega⟩,id,by show D.length - (i+1)<_;omega,?_⟩;dsimp only;rw [hsn];exact aK.mk af
  | true=>
   have hz:(((bw l st v).length:Int) == 0)=true:=by rw [of_decide_eq_true hwv];rfl
   have hsn:(D.take (i+1)).filter (fun d=>decide (bw l st d=[]))=((D.take i).filter fun d=>decide (bw l st d=[]))++[v]:=by rw [bH hx,List.filter_append];simp [of_decide_eq_true hwv]
   generalize (D.take i).filter (fun d=>decide (bw l st d=[]))=s at hsn fc ⊢;generalize bw l st v=W at hc hz;refine SW.g1 [0,1,3,4,5,6,7,8,15,30] mixed (bW hx) hc ?_;refine SW.seq ?_;refine SW.g0 [0,1,3,4,5,6,7,8,15,30] mixed (hz) ?_;refine SW.aj rfl ?_;refine SW.g0 [0,1,3,4,5,6,7,8,15,30] mixed (bW hx) ?_;refine SW.g0 [0,1,3,4,5,6,7,8,15,30] mixed (e2) ?_;refine ⟨⟨i+1,by omega⟩,fun n=>if n=1 then 2 else n,by show D.length - (i+1)<_;omega,?_⟩;dsimp only;rw [hsn];exact aK.mk (And.intro (oS s v) (rR s v))
 ·have h1:decide ((i:Int)<D.length)=false:=by simp only [decide_eq_false_iff_not];omega
  have h2:i=D.length:=by omega
  subst h2;rw [List.take_length];generalize (D.filter fun d=>decide (bw l st d=[]))=R;refine SW.seq (SW.seq ?_);refine SW.g0 [0,1,3,4,5,6,7,8,15,30] mixed (h1) ?_;refine SW.ah rfl (SW.exit ?_);refine SW.freeze 1 (R.flatMap Dt.ds) rfl rfl ?_;simp only [iZ,SV.iw,List.map_cons,List.map_nil,if_true,if_false,reduceIte,cM,Nat.reduceEqDiff];refine SW.seq ?_;refine SW.g0 [0,1,3,4,5,6,7,8,15,30] mixed af ?_;refine SW.ret ?_;exact End.mk [] (h4:=⟨rfl,rfl⟩)
theorem oU (st:aB)(k:Nat):aF Tryz.prog ref20_Verdicts.f [ops l,.agg st.cells] [] k 0 (aW ((fA l).filter fun d=>decide (bw l st d=[]))) []:=(vj hl hd st).sc rfl k
end
theorem B9 {l:List ag}{S:Sh}(h:bR l S)(st:aB):((fA l).filter fun d=>decide (bw l st d=[]))=(fA l).filter (oh l st):=
 List.filter_congr fun d hd=>(Du h hd).symm
end
section
attribute [local irreducible] SW RW aF SC ai aq
theorem GW {l:List ag}(hd:∀ x,x∈l→x.aP<256∧x.mN∧x.dot.wf){e:Dt}(he:e∈fA l):(i_ l e).dot.wf:=by
 have h:=rQ.1 he;unfold i_;cases hf:aS l e with
 | none=>rw [hf] at h;cases h
 | some o=>exact (hd o (pL hf)).2.2
noncomputable def lZ (l:List ag)(V:List Dt)(d e:Dt):Bool:=qA l d e && !decide (e∈V)
noncomputable def rU (l:List ag)(V D:List Dt):List Dt:=V.filter fun d=> !D.any (lZ l V d)
section
variable {l:List ag} (hl:l.length≤80) (hd:∀ x,x∈l→x.aP<256∧x.mN∧x.dot.wf)
include hl hd
set_option maxHeartbeats 8000000 in
theorem vk (st:aB):Go.Sl.Pure Tryz.prog ref20_Outcomes.f [ops l,.agg st.cells] (aW (rU l ((fA l).filter fun d=>decide (bw l st d=[])) (fA l))):=by
  have hV:=oU hl hd st;have hD:=vi hl hd;have hDl:(fA l).length≤80:=Nat.le_trans (rT l) hl;have hVD:=List.length_filter_le (fun d=>decide (bw l st d=[])) (fA l);have hVs:∀ v,v∈(fA l).filter (fun d=>decide (bw l st d=[]))→(i_ l v).dot.wf:=fun v hv=>GW hd (List.mem_filter.1 hv).1
  have hDs:∀ v,v∈fA l→(i_ l v).dot.wf:=fun v hv=>GW hd hv
  generalize (fA l).filter (fun d=>decide (bw l st d=[]))=V at hV hVD hVs ⊢;generalize fA l=D at hD hDl hDs hVD ⊢;have hVl:V.length≤80:=by omega
  clear hVD;refine ref20_Outcomes.enter (by first | rfl | simp [SV.ok,SV.ax]) (by first | rfl | simp [Hp.ok,Ob.ok,SV.ok,SV.ax,aB.ak]) (by simp) ?_;dsimp only [ref20_Outcomes.s,Co.M,Co.G,Co.J,Co.H,Co.F,Co.C,Co.Z,Co.B,Co.b8,Co.av,Co.bF,Co.K,Co.E,Co.L,Co.P,Co.Q,Co.x,Co.W,Co.Y,Co.V,Co.U,Co.D,Co.I,Co.S];refine SW.seq ?_;refine SW.g0 [0,1,3,4,5,6,7,8,9,11,12,13,23,38,77,78] mixed af ?_;refine SW.seq ?_;refine SW.g2 [0,1,3,4,5,6,7,8,9,11,12,13,23,38,77,78] mixed af hV hD ?_;refine SW.seq ?_;refine SW.g0 [0,1,3,4,5,6,7,8,9,11,12,13,23,38,77,78] mixed af ?_;refine SW.jb 7 37 2 rfl ?_;refine SW.seq (SW.seq ?_);refine SW.g0 [0,1,3,4,5,6,7,8,9,11,12,13,23,38,77,78] mixed af ?_;refine SW.block ?_;refine SW.gY (α:={i:Nat // i≤V.length}) (fun i=>⟨[(8,i64 i.1),(7,.gs 1 ((V.take i.1).filter fun d=> !D.any (lZ l V d)).length),(6,aW D),(5,aW V),(3,.ptr 0 0),(0,ops l)],[(1,kE ((V.take i.1).filter fun d=> !D.any (lZ l V d)) 1),(0,.box 39 st.cells)],2⟩) (fun i=>V.length - i.1) ⟨0,by omega⟩ id af (round:= ?_);rintro ⟨i,hi⟩;dsimp only
  by_cases h:i<V.length
  · obtain ⟨v,hx⟩:=aZ h
    have h1:decide ((i:Int)<V.length)=true:=by simp only [decide_eq_true_eq];omega
    have e2:IntKind.i64.wrap ((i:Int)+1)=((i+1:Nat):Int):=wrap_i64 _ (by omega);have hfv:=lz l (by omega) v;have hvw:=hVs v (List.mem_of_getElem? hx);have fc:((V.take i).filter fun d=> !D.any (lZ l V d)).length≤80:=by
      have h2:=List.length_filter_le (fun d=> !D.any (lZ l V d)) (V.take i);have h3:(V.take i).length≤V.length:=by rw [List.length_take];omega
      omega
    have hsn:(V.take (i+1)).filter (fun d=> !D.any (lZ l V d))=((V.take i).filter fun d=> !D.any (lZ l V d))++(if D.any (lZ l V v) then [] else [v]):=by
      rw [bH hx,List.filter_append];cases hh:D.any (lZ l V v) <;> simp [hh]
    generalize (V.take i).filter (fun d=> !D.any (lZ l V d))=s at hsn fc ⊢;refine SW.seq (SW.seq ?_);refine SW.g0 [0,1,3,4,5,6,7,8,9,11,12,13,23,38,77,78] mixed (h1) ?_;refine SW.aj rfl (SW.skip ?_);refine SW.seq (SW.block (SW.seq ?_));have hfr:∀ e,qA l v e=(decide ((i_ l e).aH=(i_ l v).aH) && (di l e && decide (n_ (i_ l e) (i_ l v)<0))):=fun _=>rfl
    generalize i_ l v=o at hfv hvw hfr;refine SW.g1 [0,1,3,4,5,6,7,8,9,11,12,13,23,38,77,78] mixed (bW hx) hfv ?_;refine SW.seq ?_;refine SW.g0 [0,1,3,4,5,6,7,8,9,11,12,13,23,38,77,78] mixed af ?_;refine SW.seq (SW.seq ?_);refine SW.g0 [0,1,3,4,5,6,7,8,9,11,12,13,23,38,77,78] mixed af ?_;refine SW.block ?_;refine SW.gY (α:={j:Nat // j≤D.length}) (fun j=>⟨[(12,i64 j.1),(11,bl (!(D.take j.1).any (lZ l V v))),(9,.ptr 2 0),(8,i64 i),(7,.gs 1 s.length),(6,aW D),(5,aW V),(3,.ptr 0 0),(0,ops l)],[(2,.box 43 o.cells),(1,kE s 1),(0,.box 39 st.cells)],3⟩) (fun j=>D.length - j.1) ⟨0,by omega⟩ id af (round:= ?_);rintro ⟨j,hj⟩;dsimp only
    by_cases hjl:j<D.length
    · obtain ⟨e,he⟩:=aZ hjl
      have j1:decide ((j:Int)<D.length)=true:=by simp only [decide_eq_true_eq];omega
      have e3:IntKind.i64.wrap ((j:Int)+1)=((j+1:Nat):Int):=wrap_i64 _ (by omega);have hfe:=lz l (by omega) e;have hew:=hDs e (List.mem_of_getElem? he);have hg:=rM hl hd e;have hi2:=h_ V e (by omega);have hbk:lZ l V v e=(qA l v e && !decide (e∈V)):=rfl;rw [hfr e] at hbk;have hsj:(D.take (j+1)).any (lZ l V v)=((D.take j).any (lZ l V v) || lZ l V v e):=by rw [bH he,List.any_append];simp
      generalize (D.take j).any (lZ l V v)=f at hsj ⊢;have hc:=GS (i_ l e) o hew hvw;generalize i_ l e=q at hfe hbk hc;generalize n_ q o=z at hc hbk;generalize di l e=bg at hg hbk;generalize decide (e∈V)=bi at hi2 hbk;generalize lZ l V v e=bb at hbk hsj;have o12:List.take 2 (List.drop 12 o.cells)=o.aH.cells:=rfl;have q12:List.take 2 (List.drop 12 q.cells)=q.aH.cells:=rfl;refine SW.seq (SW.seq ?_);refine SW.g0 [0,1,3,4,5,6,7,8,9,11,12,13,23,38,77,78] mixed (j1) ?_;refine SW.aj rfl (SW.skip ?_);refine SW.seq (SW.block (SW.seq ?_));refine SW.g1 [0,1,3,4,5,6,7,8,9,11,12,13,23,38,77,78] mixed (bW he) hfe ?_;refine SW.cut (stM:=⟨[(77,bl bb),(12,i64 j),(11,bl (!f)),(9,.ptr 2 0),(8,i64 i),(7,.gs 1 s.length),(6,aW D),(5,aW V),(3,.ptr 0 0),(0,ops l)],[(2,.box 43 o.cells),(1,kE s 1),(0,.box 39 st.cells)],3⟩) id ?_ ?_
      · cases hc1:decide (q.aH=o.aH) with
        | false=>
          rw [hc1,Bool.false_and,Bool.false_and] at hbk;subst hbk;refine SW.g0 [0,1,3,4,5,6,7,8,9,11,12,13,23,38,77,78] mixed (And.intro (o12) (And.intro (q12) (hc1))) ?_;exact aK.mk af
        | true=>
          cases hz:decide (z<0) with
          | false=>
            rw [hz,Bool.and_false,Bool.and_false,Bool.false_and] at hbk;subst hbk;refine SW.g1 [0,1,3,4,5,6,7,8,9,11,12,13,23,38,77,78] mixed (And.intro (o12) (And.intro (q12) (And.intro (hc1) (hz)))) hc ?_;exact aK.mk af
          | true=>
            rw [hc1,hz,Bool.true_and,Bool.and_true] at hbk;subst hbk;cases bg with
            | false=>
              refine SW.g2 [0,1,3,4,5,6,7,8,9,11,12,13,23,38,77,78] mixed (And.intro (o12) (And.intro (q12) (And.intro (hc1) (And.intro (hz) (bW he))))) hc hg ?_;exact aK.mk af
            | true=>
              refine SW.g4 [0,1,3,4,5,6,7,8,9,11,12,13,23,38,77,78] mixed (And.intro (o12) (And.intro (q12) (And.intro (hc1) (And.intro (hz) (bW he))))) hc hg hi2 trivial ?_;exact aK.mk af
      · cases bb with
        | true=>
          refine SW.aj rfl ?_;refine SW.g0 [0,1,3,4,5,6,7,8,9,11,12,13,23,38,77,78] mixed af ?_;refine SW.g0 [0,1,3,4,5,6,7,8,9,11,12,13,23,38,77,78] mixed (e3) ?_;refine ⟨⟨j+1,by omega⟩,id,by show D.length - (j+1)<_;omega,?_⟩;dsimp only;rw [hsj,Bool.or_true];exact aK.mk af
        | false=>
          refine SW.ah rfl (SW.skip ?_);refine SW.g0 [0,1,3,4,5,6,7,8,9,11,12,13,23,38,77,78] mixed (e3) ?_;refine ⟨⟨j+1,by omega⟩,id,by show D.length - (j+1)<_;omega,?_⟩;dsimp only;rw [hsj,Bool.or_false];exact aK.mk af
    · have j1:decide ((j:Int)<D.length)=false:=by simp only [decide_eq_false_iff_not];omega
      have h2:j=D.length:=by omega
      subst h2;rw [List.take_length];generalize D.any (lZ l V v)=f at hsn ⊢;refine SW.seq (SW.seq ?_);refine SW.g0 [0,1,3,4,5,6,7,8,9,11,12,13,23,38,77,78] mixed (j1) ?_;refine SW.ah rfl (SW.exit ?_);refine SW.seq ?_;refine SW.g0 [0,1,3,4,5,6,7,8,9,11,12,13,23,38,77,78] mixed af ?_;cases f with
      | true=>
        rw [if_pos rfl,List.append_nil] at hsn;refine SW.ah rfl (SW.skip ?_);refine SW.g0 [0,1,3,4,5,6,7,8,9,11,12,13,23,38,77,78] mixed (e2) ?_;refine ⟨⟨i+1,by omega⟩,id,by show V.length - (i+1)<_;omega,?_⟩;dsimp only;rw [hsn];exact aK.mk af
      | false=>
        rw [if_neg (by decide)] at hsn;refine SW.aj rfl ?_;refine SW.g0 [0,1,3,4,5,6,7,8,9,11,12,13,23,38,77,78] mixed (bW hx) ?_;refine SW.g0 [0,1,3,4,5,6,7,8,9,11,12,13,23,38,77,78] mixed (e2) ?_;refine ⟨⟨i+1,by omega⟩,fun n=>if n=1 then 3 else n,by show V.length - (i+1)<_;omega,?_⟩;dsimp only;rw [hsn];exact aK.mk (And.intro (oS s v) (rR s v))
  · have h1:decide ((i:Int)<V.length)=false:=by simp only [decide_eq_false_iff_not];omega
    have h2:i=V.length:=by omega
    subst h2;rw [List.take_length];unfold rU;generalize (V.filter fun d=> !D.any (lZ l V d))=R;refine SW.seq (SW.seq ?_);refine SW.g0 [0,1,3,4,5,6,7,8,9,11,12,13,23,38,77,78] mixed (h1) ?_;refine SW.ah rfl (SW.exit ?_);refine SW.freeze 1 (R.flatMap Dt.ds) rfl rfl ?_;simp only [iZ,SV.iw,List.map_cons,List.map_nil,if_true,if_false,reduceIte,cM,Nat.reduceEqDiff];refine SW.seq ?_;refine SW.g0 [0,1,3,4,5,6,7,8,9,11,12,13,23,38,77,78] mixed af ?_;refine SW.ret ?_;exact End.mk [] (h4:=⟨rfl,rfl⟩)
theorem vl (st:aB)(k:Nat):aF Tryz.prog ref20_Outcomes.f [ops l,.agg st.cells] [] k 0 (aW (rU l ((fA l).filter fun d=>decide (bw l st d=[])) (fA l))) []:=(vk hl hd st).sc rfl k
end
theorem Jm {l:List ag}{S:Sh}(h:bR l S)(st:aB):rU l ((fA l).filter fun d=>decide (bw l st d=[])) (fA l)=(fA l).filter (A9 l st):=by
 rw [B9 h st];unfold rU;rw [List.filter_filter];refine List.filter_congr fun d hd=> ?_
 have e:(fA l).any (lZ l ((fA l).filter (oh l st)) d)=(fA l).any fun e=>qA l d e && !oh l st e:=by
  rw [Bool.eq_iff_iff,List.any_eq_true,List.any_eq_true];refine exists_congr fun e=>and_congr_right fun he=> ?_
  unfold lZ;have:decide (e∈(fA l).filter (oh l st))=oh l st e:=by
   rw [Bool.eq_iff_iff,decide_eq_true_eq,List.mem_filter];exact ⟨fun h=>h.2,fun h=>⟨he,h⟩⟩
  rw [this]
 rw [e];unfold A9;exact Bool.and_comm _ _
end
end Go.Proofs.YtaelhkkjgfobhaaGreat
