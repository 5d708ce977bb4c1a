/-
 Revoke: levels, revokes; the iterator over threats.
-/
import Derived.Test.YtaelhkkjgfobhaaGreatU6
import Derived.Test.YtaelhkkjgfobhaaGreatUO
import Derived.Test.YtaelhkkjgfobhaaGreatUE
import Derived.Test.YtaelhkkjgfobhaaGreatUL
set_option linter.unusedSectionVars false
set_option linter.unusedVariables false
set_option linter.unusedSimpArgs false
namespace Go.Proofs.YtaelhkkjgfobhaaGreat
open Go.Sl Go.Proofs
section
abbrev Ix.h0 (X:Ix):Hp:=[(0,.box 110 [.any,.mp 1,.mp 2,.mp 3]),(1,.map (au Dt.cells ov X.ops) X.co),(2,.map (au Dt.cells dn X.ch) X.cc),(3,.map (au Dt.cells dn X.lE) X.cf)]
theorem Ix.zG (X:Ix){k:Nat}(h:4≤k):X.h0.ok (fun n=>decide (n<k))=true:=by
 have a:=a_ (fun n=>decide (n<k)) X.ops
 have b:=ew (fun n=>decide (n<k)) X.ch
 have c:=ew (fun n=>decide (n<k)) X.lE
 simp only [Hp.ok,List.all_cons,List.all_nil,Ob.ok,SV.ay,SV.ok,a,b,c,Bool.and_true,Bool.true_and,Bool.and_eq_true,decide_eq_true_eq];omega
theorem Ix.NB (X:Ix):∀ i,i< [14,11,12,13].length→lk X.h0 i≠none:=fun i hi=>by
 match i,hi with
 | 0,_ | 1,_ | 2,_ | 3,_=>simp [aa]
def Ix.op (X:Ix)(d:Dt):ag:=(MM.get X.ops d).getD ag.zero
def Ix.nS (X:Ix)(d:Dt):List Dt:=(MM.get X.ch d).getD []
def Ix.qL (X:Ix)(c:Dt):List Dt:=(MM.get X.lE c).getD []
structure Ix.small (X:Ix):Prop where
 ch:∀ d,(X.nS d).length≤1000
 rv:∀ d,(X.qL d).length≤1000
 op:X.ops.length≤500
 wo:MM.wf X.ops X.co
def jV (X:Ix)(d:Dt):SV:=if MM.has X.ops d then .dw [.d (.int .i64 (((X.nS d).length:Int) - 1)),i64 0] else .dw [i64 0,i64 7]
section
attribute [local irreducible] SW RW aG SC ai aq
theorem FI (X:Ix):SB Tryz.prog revoke_Index_none.f [.ptr 0 0] X.h0 4 0 fun r F=>r=bl false∧F=X.h0:=by
 refine revoke_Index_none.enter (by simp [SV.ay,SV.ok]) (X.zG (Nat.le_refl 4)) (by simp) ?_
 dsimp only [revoke_Index_none.s,Co.M,Co.G,Co.J,Co.H,Co.N,Co.F,Co.C,Co.Z,Co.B,Co.b8,Co.ax,Co.bC,Co.i6,Co.z8,Co.bF]
 (repeat (first | refine SW.seq ?_ | refine SW.block ?_ | refine SW.g0 [0,2] mixed af ?_ | refine SW.skip ?_ | refine SW.exit ?_ | refine SW.ret ?_ | refine SW.ak rfl ?_ | refine SW.ah rfl ?_))
 exact End.mk X.h0 (h4:=⟨rfl,rfl⟩) (h6:=X.zG (Nat.le_refl 4))
theorem Ij (X:Ix)(k:Nat):aG Tryz.prog revoke_Index_none.f [.ptr 0 0] X.h0 k 0 (bl false) X.h0:=by
 have:=SB.o8 [0,1,2,3] (FI X) (by decide) X.NB k
 rw [show X.h0.aC (fq [0,1,2,3] k)=X.h0 by simp [Hp.aC,Ob.aC,SV.aT,SV.aC,fq,bH,eG]] at this
 exact this
set_option maxHeartbeats 4000000 in
theorem CB (X:Ix)(hX:X.small)(d:Dt):SB Tryz.prog revoke_Index_Level.f [.ptr 0 0,.agg d.cells] X.h0 4 2 fun r F=>r=jV X d∧F=X.h0:=by
 refine revoke_Index_Level.enter (by simp [SV.ay,SV.ok]) (X.zG (Nat.le_refl 4)) (by simp) ?_
 dsimp only [revoke_Index_Level.s,Co.M,Co.G,Co.J,Co.H,Co.N,Co.F,Co.C,Co.Z,Co.B,Co.b8,Co.ax,Co.bC,Co.i6,Co.z8,Co.bF];have hn:=Ij X;refine SW.seq ?_;refine SW.g0 [0,1,3,4,5,7,9,20] mixed af ?_;refine SW.seq (SW.seq ?_);refine SW.g1 [0,1,3,4,5,7,9,20] mixed af hn ?_;refine SW.ah rfl (SW.skip ?_);refine SW.seq (SW.seq ?_);obtain ⟨o,ho⟩:∃ o,(MM.get X.ops d).getD ag.zero=o:=⟨_,rfl⟩;rcases hh:MM.has X.ops d with _ | _
 ·refine SW.g0 [0,1,3,4,5,7,9,20] mixed (And.intro (hh) (ho)) ?_
  refine SW.seq ?_;refine SW.g0 [0,1,3,4,5,7,9,20] mixed af ?_;refine SW.ak rfl (SW.seq ?_);refine SW.g0 [0,1,3,4,5,7,9,20] mixed af ?_;refine SW.ret ?_;exact End.mk X.h0 (h4:=⟨by simp [jV,hh,eD],rfl⟩) (h6:=X.zG (by decide))
 ·refine SW.g0 [0,1,3,4,5,7,9,20] mixed (And.intro (hh) (ho)) ?_
  refine SW.seq ?_;refine SW.g0 [0,1,3,4,5,7,9,20] mixed af ?_;refine SW.ah rfl (SW.skip ?_);have hl:=hX.ch d;have hlk:=xF X.ch d;have hlv:jV X d= .dw [.d (.int .i64 (((X.nS d).length:Int) - 1)),i64 0]:=by unfold jV;rw [hh];rfl
  change gy _ _ _=dn (X.nS d) at hlk;rw [hlv];generalize X.nS d=L at hl hlk ⊢;have hw:IntKind.i64.wrap ((L.length:Int) - 1)=(L.length:Int) - 1:=wrap_i64 _ (by omega)
  refine SW.seq ?_;cases L with
  | nil=>
   change _=SV.d .aK at hlk;refine SW.g0 [0,1,3,4,5,7,9,20] mixed (hlk) ?_;refine SW.ret ?_;exact End.mk X.h0 (h4:=⟨by simp [eD],rfl⟩) (h6:=X.zG (by decide))
  | cons c L=>
   change _=bp (c::L) at hlk;refine SW.g0 [0,1,3,4,5,7,9,20] mixed (And.intro (hlk) (hw)) ?_;refine SW.ret ?_;exact End.mk X.h0 (h4:=⟨by simp [eD],rfl⟩) (h6:=X.zG (by decide))
end
end
section
structure NC (C:Prop):Prop where
 c:C
theorem later {C G:Prop}(h:NC C→G)(c:C):G:=h ⟨c⟩
structure FJ {α σ:Type}(P:Program)(y:Nat)(enc:α→SV)(aN:Nat)(Fh:σ→Hp)(nx:σ→α→Nat→σ)(inv:σ→Nat→Prop):Prop where
 vf:∀ s,lk (Fh s) y≠none
 nd:∀ s j,inv s j→∀ x,x∈Fh s→lk (Fh s) x.1=some x.2
 cl:∀ s j,inv s j→(Fh s).ok (fun n=>(lk (Fh s) n).isSome)=true
 call:∀ s x k j,inv s (j+1)→(Fh s).ok (fun n=>decide (n<k))=true→LJ P y [enc x] (Fh s) k aN (bl true) (Fh (nx s x k))∧inv (nx s x k) j∧(Fh (nx s x k)).ok (fun n=>decide (n<k+aN))=true∧
  ∀ n,lk (Fh (nx s x k)) n≠none→lk (Fh s) n≠none∨(k≤n∧n<k+aN)
abbrev Mq {α σ:Type}(nx:σ→α→Nat→σ)(s:σ)(x:α)(s':σ):Prop:=∃ k,s'=nx s x k
theorem RW.Ad {P:Program}{d y:Nat}{f:X}{args:List X}{g:Option (Nat×Bool)}{r:List SI}{K:St→List (Bool×List Nat)→Prop}{az:List SV}{env:List (Nat×SV)}{hp F F':Hp}{k:Nat}{v:SV}{nk:Nat}
  (hf:ev (fun t=>env.lookup t) f=some (.yl y)) (ha:pQ (fun t=>env.lookup t) args=some az) (hc:LJ P y az F k nk v F') (hl:lk F y≠none) (hs:HSub F hp)
  (hg:g=none∨∃ t w,g=some (t,w)∧env.lookup t=some (.d (.bool w)))
  (h:∀ H,(∀ n,lk H n=zz (lk hp) (lk F) (lk F') n)→Go.Sl.RW P r ⟨(d,v)::env,H,k+nk⟩ fun st' ts=>K st' ((false,F.map (·.1)++F'.map (·.1))::ts)):Go.Sl.RW P (⟨some d,.call f args,g⟩::r) ⟨env,hp,k⟩ K:=by
 refine RW.cons (e:=⟨v,F,F',nk,LJ P y az F k nk v F'∧lk F y≠none∧HSub F hp⟩) (fun dK=>⟨.call F v F' nk::dK,?_⟩) ⟨hc,hl,hs⟩ ?_
 ·rcases hg with rfl | ⟨t,w,rfl,hl⟩
  ·simp only [fO,eW,hf,ha]
  ·simp [fO,hl,eW,hf,ha]
 ·rw [iC]
  exact h _ fun n=>congrFun (h_ (ro:=false) hs (fun h=>by cases h)) n
theorem Ik {σ:Type}{G:Hp}{Fh:σ→Hp}{s s':σ}{kk k':Nat}(hO:o_ G Fh s kk)(hk:kk≤k')(hok:(Fh s').ok (fun n=>decide (n<k'))=true)(hnm:∀ n,lk (Fh s') n≠none→lk (Fh s) n≠none∨(kk≤n∧n<k')):o_ G Fh s' k':=
 ⟨hO.nd,fun n hn=>by have:=hO.lt n hn;omega,fun n hn=>Classical.byContradiction fun hno=>(hnm n hno).elim (fun h=>h (hO.no n hn)) (fun h=>by have:=hO.lt n hn;omega),Hp.bz hk hO.ok,hok⟩
theorem Aw {σ:Type}{G:Hp}{Fh:σ→Hp}{s s':σ}{kk k':Nat}(hO:o_ G Fh s kk)(M4:o_ G Fh s' k'){H:Hp}(hH:∀ n,lk H n=Go.Sl.zz (lk (G++Fh s)) (lk (Fh s)) (lk (Fh s')) n):∀ n ob,lk (G++Fh s') n=some ob→lk H n=some ob:=fun n ob hn=>by
 rw [hH]
 by_cases hm:n∈G.map (·.1)
 ·rw [dA (hO.no n hm) (M4.no n hm)]
  rw [jt] at hn ⊢;cases hg:lk G n with
  | some o=>rw [hg] at hn;exact hn
  | none=>rw [hg,Option.none_or,M4.no n hm] at hn;cases hn
 ·rw [jt,fW hm,Option.none_or] at hn
  rw [eU (.inr (by rw [hn];simp)),hn]
def Ix.eH (X:Ix)(o:ag):List Dt:=(X.nS o.dot).flatMap fun c=>(X.qL c).filter fun t=> !o.before (X.op t)
section
attribute [local irreducible] SW RW aG SC ai aq
theorem Ax (X:Ix)(o:ag):SB Tryz.prog revoke_Index_threats.f [.ptr 0 0,.agg o.cells] X.h0 4 2 fun r F=>r= .fn (.func revoke_Index_threats_1.f) [] [.ptr 4 0,.ptr 5 0]∧F=(5,.box 43 o.cells)::(4,.box 27 [.ptr 0 0])::X.h0:=by
 refine revoke_Index_threats.enter (by simp [SV.ay,SV.ok,ag.aj]) (X.zG (Nat.le_refl 4)) (by simp) ?_
 dsimp only [revoke_Index_threats.s,Co.M,Co.G,Co.J,Co.H,Co.N,Co.F,Co.C,Co.Z,Co.B,Co.b8,Co.ax,Co.bC,Co.i6,Co.z8,Co.bF];refine SW.seq ?_;refine SW.g0 [0,1,2,3,4] mixed af ?_;refine SW.seq ?_;refine SW.g0 [0,1,2,3,4] mixed af ?_;refine SW.ret ?_;exact End.mk ((5,.box 43 o.cells)::(4,.box 27 [.ptr 0 0])::X.h0) (h4:=⟨rfl,rfl⟩) (h6:=an (by decide) (by simp [Ob.ok,ag.aj]) (an (by decide) (by simp [Ob.ok,SV.ay,SV.ok]) (X.zG (by decide))))
end
abbrev TG (X:Ix)(o:ag)(bx bo:Nat):Hp:=(bx,.box 27 [.ptr 0 0])::(bo,.box 43 o.cells)::X.h0
def Ix.rB (X:Ix)(o:ag)(i:Nat):List Dt:=((X.nS o.dot).drop i).flatMap fun c=>(X.qL c).filter fun t=> !o.before (X.op t)
def Ix.nT (X:Ix)(o:ag)(i:Nat)(R:List Dt)(j:Nat):List Dt:=(R.drop j).filter (fun t=> !o.before (X.op t))++X.rB o (i+1)
theorem Ix.CC (X:Ix)(o:ag){i:Nat}(h:(X.nS o.dot).length≤i):X.rB o i=[]:=by unfold Ix.rB;rw [List.drop_eq_nil_of_le h];rfl
theorem zb {α:Type}{l:List α}{i:Nat}{x:α}(h:l[i]? =some x):l.drop i=x::l.drop (i+1):=by
 obtain ⟨h1,rfl⟩:=List.getElem?_eq_some_iff.1 h;exact List.drop_eq_getElem_cons h1
theorem Ix.FK (X:Ix)(o:ag){i:Nat}{c:Dt}(h:(X.nS o.dot)[i]? =some c):X.rB o i=X.nT o i (X.qL c) 0:=by
 unfold Ix.rB Ix.nT;rw [zb h];rfl
theorem Ix.CD (X:Ix)(o:ag)(i:Nat){R:List Dt}{j:Nat}(h:R.length≤j):X.nT o i R j=X.rB o (i+1):=by unfold Ix.nT;rw [List.drop_eq_nil_of_le h];rfl
theorem Ix.CE (X:Ix)(o:ag)(i:Nat){R:List Dt}{j:Nat}{t:Dt}(h:R[j]? =some t):X.nT o i R j=if o.before (X.op t) then X.nT o i R (j+1) else t::X.nT o i R (j+1):=by
 unfold Ix.nT;rw [zb h,List.filter_cons];cases o.before (X.op t) <;> rfl
structure TI {σ:Type}(X:Ix)(o:ag)(Fh:σ→Hp)(nx:σ→Dt→Nat→σ)(inv:σ→Nat→Prop)(s0:σ)(k0 bx bo b:Nat)(rest:List Dt)(s:σ)(kk:Nat):Prop where
 h1:∃ xs,kY (Mq nx) s0 xs s∧X.eH o=xs++rest
 h2:inv s rest.length
 own:o_ (TG X o bx bo) Fh s kk
 h3:kk≤b
 h4:4≤kk
 nm:∀ n,lk (Fh s) n≠none→lk (Fh s0) n≠none∨k0≤n
def jQ (aN:Nat):Nat:=1000000*(1+1000000*(1+aN))
end
section
attribute [local irreducible] SW RW aG SC ai aq
section
variable {σ:Type} {Fh:σ→Hp} {nx:σ→Dt→Nat→σ} {inv:σ→Nat→Prop} {aN y bx bo k:Nat}
theorem TI.nd {X:Ix}{o:ag}{s0 s:σ}{b kk:Nat}{rest:List Dt}(h:TI X o Fh nx inv s0 k bx bo b rest s kk):bx≠bo∧(bx≠0∧bx≠1∧bx≠2∧bx≠3)∧(bo≠0∧bo≠1∧bo≠2∧bo≠3)∧bx<kk∧bo<kk:=by
 have h1:=h.own.nd;simp only [TG,List.map_cons,List.map_nil,List.nodup_cons,List.mem_cons,List.not_mem_nil,or_false,not_or] at h1;obtain ⟨⟨a1,a2,a3,a4,a5⟩,⟨b2,b3,b4,b5⟩,_⟩:=h1;exact ⟨a1,⟨a2,a3,a4,a5⟩,⟨b2,b3,b4,b5⟩,h.own.lt bx (by simp),h.own.lt bo (by simp)⟩
theorem Il {k:Nat}(h:k≠0∧k≠1∧k≠2∧k≠3):((k == 0)=false∧(0 == k)=false∧(k=0)=False∧(0=k)=False)∧((k == 1)=false∧(1 == k)=false∧(k=1)=False∧(1=k)=False)∧((k == 2)=false∧(2 == k)=false∧(k=2)=False∧(2=k)=False)∧((k == 3)=false∧(3 == k)=false∧(k=3)=False∧(3=k)=False):=⟨cB h.1,cB h.2.1,cB h.2.2.1,cB h.2.2.2⟩
theorem TI.cut {X:Ix}{o:ag}{s0 s:σ}{b kk k':Nat}{rest:List Dt}(h:TI X o Fh nx inv s0 k bx bo b rest s kk){b':Nat}{r':List Dt}(hr:r'=rest)(hk:kk≤k')(hb:k'≤b'):TI X o Fh nx inv s0 k bx bo b' r' s k':=by
 subst hr;exact ⟨h.h1,h.h2,h.own.mono hk,hb,by have:=h.h4;omega,h.nm⟩
set_option maxHeartbeats 16000000 in
theorem Im (X:Ix)(hX:X.small)(o:ag)(s0:σ)(hy:FJ Tryz.prog y (fun d:Dt=> .agg d.cells) aN Fh nx inv)(h0:TI X o Fh nx inv s0 k bx bo k (X.eH o) s0 k):
  SB Tryz.prog revoke_Index_threats_1.f [.yl y,.ptr bx 0,.ptr bo 0] (TG X o bx bo++Fh s0) k (jQ aN) fun r F=>r= .dw []∧∃ s',TI X o Fh nx inv s0 k bx bo (k+jQ aN) [] s' (k+jQ aN)∧F=TG X o bx bo++Fh s':=by
 have hyk:y<k:=by
  obtain ⟨ob,ho⟩:=Option.ne_none_iff_exists'.1 (hy.vf s0)
  simpa using (Hp.eN h0.own.okF ho).1
 obtain ⟨n1,n2,n3,n4,n5⟩:=h0.nd;refine revoke_Index_threats_1.enter (by simp [SV.ok,SV.ay];omega) h0.own.wZ (by simp) ?_
 dsimp only [revoke_Index_threats_1.s,Co.M,Co.G,Co.J,Co.H,Co.N,Co.F,Co.C,Co.Z,Co.B,Co.b8,Co.ax,Co.bC,Co.i6,Co.z8,Co.bF];have f1:=cB n1;have f2:=Il n2;have f3:=Il n3;have hnk:jQ aN=1000000*(1+1000000*(1+aN)):=rfl;obtain ⟨C,hC⟩:∃ C,1+1000000*(1+aN)=C:=⟨_,rfl⟩;rw [hC] at hnk;have hkk:∀ s kk (env:List (Nat×SV)) (hp:Hp) (kq:Nat),o_ (TG X o bx bo) Fh s kk→(∃ j,inv s j)→k≤kk→(∀ n ob,lk (TG X o bx bo++Fh s) n=some ob→lk hp n=some ob)→∀ {qK:List (Nat×SV)},aZ id kk env qK→aP k ⟨env,hp,kq⟩ ⟨qK,TG X o bx bo++Fh s,kk⟩ id:=fun s kk env hp kq hO ⟨j,hj⟩ hk hh qK he=>aP.own hO (hy.nd s j hj) hk he hh
 have fin:∀ (s':σ),TI X o Fh nx inv s0 k bx bo (k+jQ aN) [] s' (k+jQ aN)→Go.Sl.Fin k (jQ aN) [] (fun r F=>r= .dw []∧∃ s',TI X o Fh nx inv s0 k bx bo (k+jQ aN) [] s' (k+jQ aN)∧F=TG X o bx bo++Fh s') ⟨[],TG X o bx bo++Fh s',k+jQ aN⟩:=fun s' h=>End.mk (TG X o bx bo++Fh s') (h3:=fun _ _ h=>h) (h4:=⟨rfl,s',h,rfl⟩) (h6:=h.own.wZ) (h7:=Nat.le_refl _)
 obtain ⟨L,hL⟩:∃ L,X.nS o.dot=L:=⟨_,rfl⟩;have hlk:=xF X.ch o.dot;change gy _ _ _=dn (X.nS o.dot) at hlk;have hLl:=hX.ch o.dot;rw [hL] at hlk hLl;have o2:List.take 2 o.cells=o.dot.cells:=rfl;have hmul:∀ i,i≤L.length→i*C≤jQ aN:=fun i hi=>by rw [hnk];exact Nat.mul_le_mul_right C (by omega)
 simp only [TG,Ix.h0,List.cons_append,List.nil_append];refine SW.seq ?_;apply later
 ·intro late
  rcases hLc:L with _ | ⟨c,L'⟩
  ·have hlk0:gy (au Dt.cells dn X.ch) (.d .aK) (MM.idx X.ch o.dot)= .d .aK:=by rw [hlk,hLc];rfl
   refine SW.g0 [0,1,2,5,7,14,15,16,17,25,26,27,28,45] mixed (And.intro (hlk0) (And.intro (o2) (And.intro (f1) (And.intro (f2) (f3))))) ?_;refine SW.aK 14 rfl ?_;refine SW.weak id (st1:=⟨[(16,i64 (0:Nat)),(15,i64 L.length),(14,bp L),(0,.yl y),(1,.ptr bx 0),(2,.ptr bo 0)],TG X o bx bo++Fh s0,k⟩) (hkk s0 k _ _ _ h0.own ⟨_,h0.h2⟩ (Nat.le_refl _) (fun _ _ h=>h) (by rw [hLc];simp [aZ,List.lookup,SV.aC,SV.ok,SV.ay];omega)) late.c
  ·have hlk0:gy (au Dt.cells dn X.ch) (.d .aK) (MM.idx X.ch o.dot)=bp (c::L'):=by rw [hlk,hLc];rfl
   refine SW.g0 [0,1,2,5,7,14,15,16,17,25,26,27,28,45] mixed (And.intro (hlk0) (And.intro (o2) (And.intro (f1) (And.intro (f2) (f3))))) ?_;refine SW.weak id (st1:=⟨[(16,i64 (0:Nat)),(15,i64 L.length),(14,bp L),(0,.yl y),(1,.ptr bx 0),(2,.ptr bo 0)],TG X o bx bo++Fh s0,k⟩) (hkk s0 k _ _ _ h0.own ⟨_,h0.h2⟩ (Nat.le_refl _) (fun _ _ h=>h) (by rw [hLc];simp [aZ,List.lookup,SV.aC,SV.ok,SV.ay];omega)) late.c
 refine SW.block ?_
 refine SW.loop (α:={i:Nat×σ×Nat // (i.1≤L.length∧k≤i.2.2)∧TI X o Fh nx inv s0 k bx bo (k+i.1*C) (X.rB o i.1) i.2.1 i.2.2})
  (fun i=>⟨[(16,i64 i.1.1),(15,i64 L.length),(14,bp L),(0,.yl y),(1,.ptr bx 0),(2,.ptr bo 0)],TG X o bx bo++Fh i.1.2.1,i.1.2.2⟩)
  (fun i=>L.length - i.1.1) ⟨(0,s0,k),⟨Nat.zero_le _,Nat.le_refl _⟩,by show TI X o Fh nx inv s0 k bx bo (k+0*C) (X.rB o 0) s0 k;rw [Nat.zero_mul];exact h0⟩ id ?_ ?_
 ·exact hkk s0 k _ _ _ h0.own ⟨_,h0.h2⟩ (Nat.le_refl _) (fun _ _ h=>h) (by simp [aZ,List.lookup,SV.aC,SV.ok,SV.ay];omega)
 rintro ⟨⟨i,s,kk⟩,hi⟩;have hi:(i≤L.length∧k≤kk)∧TI X o Fh nx inv s0 k bx bo (k+i*C) (X.rB o i) s kk:=hi;obtain ⟨⟨p1,p2⟩,p3⟩:=hi;dsimp only at*;have hmi:=hmul i p1
 by_cases h:i<L.length
 ·have h1:decide ((i:Int)<L.length)=true:=by simp only [decide_eq_true_eq];omega
  obtain ⟨c,hx⟩:=br h;have t2:IntKind.i64.wrap ((i:Int)+1)=((i+1:Nat):Int):=wrap_i64 _ (by omega)
  have h41:=p3.h4;have z0:=cB (show kk≠bx by omega)
  have z1:=cB (show kk≠bo by omega)
  have z2:=Il (k:=kk) ⟨by omega,by omega,by omega,by omega⟩
  have g2:List.lookup kk (Fh s)=none:=p3.own.out (Nat.le_refl _);simp only [TG,Ix.h0,List.cons_append,List.nil_append];refine SW.seq ?_;refine SW.g0 [0,1,2,5,7,14,15,16,17,25,26,27,28,45] mixed (h1) ?_;refine SW.seq (SW.ak rfl (SW.skip ?_));refine SW.seq (SW.block (SW.seq ?_));refine SW.g0 [0,1,2,5,7,14,15,16,17,25,26,27,28,45] mixed (And.intro (dP hx) (And.intro (f1) (And.intro (f2) (And.intro (f3) (And.intro (z0) (And.intro (z1) (And.intro (z2) (g2)))))))) ?_;refine SW.seq ?_;obtain ⟨R,hR⟩:∃ R,X.qL c=R:=⟨_,rfl⟩;have hlk2:=xF X.lE c;change gy _ _ _=dn (X.qL c) at hlk2;have hRl:=hX.rv c;rw [hR] at hlk2 hRl;have hrI:=X.FK o (by rw [hL];exact hx)
  rw [hR] at hrI;have hO1:o_ ((kk,.box 37 c.cells)::TG X o bx bo) Fh s (kk+1):=o_.new p3.own (Nat.le_refl _) (Nat.lt_succ_self _) (Dt.aj _ _);have p4:TI X o Fh nx inv s0 k bx bo (k+i*C+1+0*(1+aN)) (X.nT o i R 0) s (kk+1):=p3.cut hrI.symm (Nat.le_succ _) (by have:=p3.h3;omega)
  have hw1:∀ (env qK:List (Nat×SV)) (kq:Nat),aZ id (kk+1) env qK→aP k ⟨env,((kk,.box 37 c.cells)::TG X o bx bo)++Fh s,kq⟩ ⟨qK,TG X o bx bo++Fh s,kk+1⟩ id:=fun env qK kq he=>hkk s (kk+1) _ _ _ p4.own ⟨_,p4.h2⟩ (by omega) (hO1.keep (fun z hz=>List.mem_cons_of_mem _ hz)) he
  apply later
  ·intro late
   rcases hRc:R with _ | ⟨t0,R'⟩
   ·have hlk0:gy (au Dt.cells dn X.lE) (.d .aK) (MM.idx X.lE c)= .d .aK:=by rw [hlk2,hRc];rfl
    refine SW.g0 [0,1,2,5,7,14,15,16,17,25,26,27,28,45] mixed (And.intro (hlk0) (And.intro (f1) (And.intro (f2) (And.intro (f3) (And.intro (z0) (And.intro (z1) (And.intro (z2) (g2)))))))) ?_;refine SW.aK 25 rfl ?_;refine SW.weak id (st1:=⟨[(27,i64 (0:Nat)),(26,i64 R.length),(25,bp R),(16,i64 i),(15,i64 L.length),(14,bp L),(0,.yl y),(1,.ptr bx 0),(2,.ptr bo 0)],TG X o bx bo++Fh s,kk+1⟩) (hw1 _ _ _ (by rw [hRc];simp [aZ,List.lookup,SV.aC,SV.ok,SV.ay];omega)) late.c
   ·have hlk0:gy (au Dt.cells dn X.lE) (.d .aK) (MM.idx X.lE c)=bp (t0::R'):=by rw [hlk2,hRc];rfl
    refine SW.g0 [0,1,2,5,7,14,15,16,17,25,26,27,28,45] mixed (And.intro (hlk0) (And.intro (f1) (And.intro (f2) (And.intro (f3) (And.intro (z0) (And.intro (z1) (And.intro (z2) (g2)))))))) ?_;refine SW.weak id (st1:=⟨[(27,i64 (0:Nat)),(26,i64 R.length),(25,bp R),(16,i64 i),(15,i64 L.length),(14,bp L),(0,.yl y),(1,.ptr bx 0),(2,.ptr bo 0)],TG X o bx bo++Fh s,kk+1⟩) (hw1 _ _ _ (by rw [hRc];simp [aZ,List.lookup,SV.aC,SV.ok,SV.ay];omega)) late.c
  refine SW.block ?_
  refine SW.loop (α:={q:Nat×σ×Nat // (q.1≤R.length∧k≤q.2.2)∧TI X o Fh nx inv s0 k bx bo (k+i*C+1+q.1*(1+aN)) (X.nT o i R q.1) q.2.1 q.2.2})
   (fun q=>⟨[(27,i64 q.1.1),(26,i64 R.length),(25,bp R),(16,i64 i),(15,i64 L.length),(14,bp L),(0,.yl y),(1,.ptr bx 0),(2,.ptr bo 0)],TG X o bx bo++Fh q.1.2.1,q.1.2.2⟩)
   (fun q=>R.length - q.1.1) ⟨(0,s,kk+1),⟨Nat.zero_le _,by show k≤kk+1;omega⟩,p4⟩ id ?_ ?_
  ·exact hkk s (kk+1) _ _ _ p4.own ⟨_,p4.h2⟩ (by omega) (fun _ _ h=>h) (by simp [aZ,List.lookup,SV.aC,SV.ok,SV.ay];omega)
  rintro ⟨⟨j,s1,kj⟩,hj'⟩;have hj':(j≤R.length∧k≤kj)∧TI X o Fh nx inv s0 k bx bo (k+i*C+1+j*(1+aN)) (X.nT o i R j) s1 kj:=hj';obtain ⟨⟨q1,q2⟩,q3⟩:=hj';dsimp only at*;clear p4 hw1 hO1 g2 z0 z1 z2 p3 h41;have hmj:j*(1+aN)≤1000000*(1+aN):=Nat.mul_le_mul_right _ (by omega)
  by_cases hj:j<R.length
  ·have k1:decide ((j:Int)<R.length)=true:=by simp only [decide_eq_true_eq];omega
   obtain ⟨t,ht⟩:=br hj;have k2:IntKind.i64.wrap ((j:Int)+1)=((j+1:Nat):Int):=wrap_i64 _ (by omega)
   have hgt:=X.CE o i ht;have h41:=q3.h4;have hmj1:(j+1)*(1+aN)=j*(1+aN)+(1+aN):=by rw [Nat.add_mul,Nat.one_mul]
   have h3':=q3.h3;have z0:=cB (show kj≠bx by omega)
   have z1:=cB (show kj≠bo by omega)
   have z2:=Il (k:=kj) ⟨by omega,by omega,by omega,by omega⟩
   have g2:List.lookup kj (Fh s1)=none:=q3.own.out (Nat.le_refl _);have hO1:o_ ((kj,.box 37 t.cells)::TG X o bx bo) Fh s1 (kj+1):=o_.new q3.own (Nat.le_refl _) (Nat.lt_succ_self _) (Dt.aj _ _);have hO0:o_ (TG X o bx bo) Fh s1 (kj+1):=q3.own.mono (Nat.le_succ _);simp only [TG,Ix.h0,List.cons_append,List.nil_append];refine SW.seq ?_;refine SW.g0 [0,1,2,5,7,14,15,16,17,25,26,27,28,45] mixed (k1) ?_;refine SW.seq (SW.ak rfl (SW.skip ?_));refine SW.seq (SW.block (SW.seq ?_));refine SW.g0 [0,1,2,5,7,14,15,16,17,25,26,27,28,45] mixed (And.intro (dP ht) (And.intro (f1) (And.intro (f2) (And.intro (f3) (And.intro (z0) (And.intro (z1) (And.intro (z2) (g2)))))))) ?_;refine SW.seq ?_;obtain ⟨r,hr⟩:∃ r,(MM.get X.ops t).getD ag.zero=r:=⟨_,rfl⟩;have hrt:X.op t=r:=hr;rw [hrt] at hgt;have hb:=kf o r;rcases hbr:o.before r with _ | _
   ·rw [hbr] at hb hgt
    simp only [Bool.false_eq_true,if_false] at hgt;have hinv:inv s1 ((X.nT o i R (j+1)).length+1):=by
     have:=q3.h2;rw [hgt] at this;exact this
    obtain ⟨c1,c2,c3,c4⟩:=hy.call s1 t (kj+1) _ hinv (Hp.bz (Nat.le_succ _) q3.own.okF);have hsubF:HSub (Fh s1) ((kj,.box 37 t.cells)::(bx,.box 27 [.ptr 0 0])::(bo,.box 43 o.cells)::(0,.box 110 [.any,.mp 1,.mp 2,.mp 3])::(1,.map (au Dt.cells ov X.ops) X.co)::(2,.map (au Dt.cells dn X.ch) X.cc)::(3,.map (au Dt.cells dn X.lE) X.cf)::Fh s1):=hO1.sub;have hin:=hy.vf s1;generalize hs2:nx s1 t (kj+1)=s2 at c1 c2 c3 c4
    (have fx:=(And.intro (hr) (And.intro (f1) (And.intro (f2) (And.intro (f3) (And.intro (z0) (And.intro (z1) (And.intro (z2) (g2))))))));refine SW.bM [0,1,2,5,7,14,15,16,17,25,26,27,28,45] mixed ?_;(repeat (first | refine RW.ro fx (h:= ?_) | refine RW.skip (h:= ?_) | refine RW.op fx (h:= ?_) | refine RW.di fx (h:= ?_) | refine RW.aU (h:= ?_) | (refine RW.Ad rfl rfl c1 hin hsubF (.inr ⟨_,_,rfl,rfl⟩) (h:= ?_);intro H hH) | (refine RW.aM (h:= ?_);(first | refine ai.mk fx (hc:=hb _) (h:= ?_)))));refine RW.nil ⟨fc (by simp [jD,rP,fC,cH,List.range,List.range.loop,f1,f2,f3,z0,z1,z2] <;> (first | decide | (repeat (first | assumption | refine ⟨?_,?_⟩ | exact .inl (by decide) | exact .inl (.inr (by decide)) | exact .inl (.inl (by decide)) | refine .inr ?_)))),aq.mk (h:= ?_)⟩)
    have hO2:o_ ((kj,.box 37 t.cells)::TG X o bx bo) Fh s2 (kj+1+aN):=Ik hO1 (by omega) c3 c4
    have hO3:o_ (TG X o bx bo) Fh s2 (kj+1+aN):=hO2.less (List.sublist_cons_self _ _);have hlkH:=Aw hO1 hO2 hH;refine SW.ah rfl (SW.skip ?_);refine SW.g0 [0,1,2,5,7,14,15,16,17,25,26,27,28,45] mixed (k2) ?_;obtain ⟨xs,e1,e2⟩:=q3.h1;refine ⟨⟨(j+1,s2,kj+1+aN),⟨by show j+1≤_;omega,by show k≤kj+1+aN;omega⟩,⟨⟨xs++[t],.snoc e1 ⟨_,hs2.symm⟩,by rw [e2,hgt];simp⟩,c2,hO3,by show kj+1+aN≤k+i*C+1+(j+1)*(1+aN);omega,by show 4≤kj+1+aN;omega,fun n hn=>(c4 n hn).elim (q3.nm n) fun h=> .inr (by omega)⟩⟩,id,by show R.length - (j+1)<R.length - j;omega,?_⟩
    exact hkk s2 _ _ _ _ hO3 ⟨_,c2⟩ (by omega) (fun n ob hn=>hlkH n ob (hO2.keep (fun z hz=>List.mem_cons_of_mem _ hz) n ob hn)) (by simp [aZ,List.lookup,SV.aC,SV.ok,SV.ay];omega)
   ·rw [hbr] at hb hgt
    simp only [if_true] at hgt;refine SW.g1 [0,1,2,5,7,14,15,16,17,25,26,27,28,45] mixed (And.intro (hr) (And.intro (f1) (And.intro (f2) (And.intro (f3) (And.intro (z0) (And.intro (z1) (And.intro (z2) (g2)))))))) hb ?_;refine SW.ah rfl (SW.skip ?_);refine SW.g0 [0,1,2,5,7,14,15,16,17,25,26,27,28,45] mixed (k2) ?_;refine ⟨⟨(j+1,s1,kj+1),⟨by show j+1≤_;omega,by show k≤kj+1;omega⟩,q3.cut hgt.symm (Nat.le_succ _) (by show kj+1≤k+i*C+1+(j+1)*(1+aN);omega)⟩,id,by show R.length - (j+1)<R.length - j;omega,?_⟩
    exact hkk s1 _ _ _ _ hO0 ⟨_,q3.h2⟩ (by omega) (hO1.keep (fun z hz=>List.mem_cons_of_mem _ hz)) (by simp [aZ,List.lookup,SV.aC,SV.ok,SV.ay];omega)
  ·have k1:decide ((j:Int)<R.length)=false:=by simp only [decide_eq_false_iff_not];omega
   refine SW.seq ?_;refine SW.g0 [0,1,2,5,7,14,15,16,17,25,26,27,28,45] mixed (k1) ?_;have hjl:j=R.length:=by omega
   rw [hjl] at q3;refine SW.seq (SW.ah rfl (SW.exit ?_));refine (?_:Sl.SW _ _ _ _ _ _);refine SW.g0 [0,1,2,5,7,14,15,16,17,25,26,27,28,45] mixed (t2) ?_;have hb1:(i+1)*C=i*C+C:=by rw [Nat.add_mul,Nat.one_mul]
   have h3':=q3.h3;rw [← hjl] at h3';refine ⟨⟨(i+1,s1,kj),⟨by show i+1≤_;omega,q2⟩,q3.cut (X.CD o i (Nat.le_refl _)).symm (Nat.le_refl _) (by show kj≤k+(i+1)*C;omega)⟩,id,by show L.length - (i+1)<L.length - i;omega,?_⟩
   exact hkk s1 kj _ _ _ q3.own ⟨_,q3.h2⟩ q2 (fun _ _ h=>h) (by simp [aZ,List.lookup,SV.aC,SV.ok,SV.ay];omega)
 ·have h1:decide ((i:Int)<L.length)=false:=by simp only [decide_eq_false_iff_not];omega
  refine SW.seq ?_;refine SW.g0 [0,1,2,5,7,14,15,16,17,25,26,27,28,45] mixed (h1) ?_;have p5:=p3.cut (k':=k+jQ aN) (b':=k+jQ aN) (r':=[]) (X.CC o (by rw [hL];omega)).symm (by have:=p3.h3;omega) (Nat.le_refl _)
  refine SW.seq (SW.ah rfl (SW.weak id (hkk s (k+jQ aN) _ _ _ p5.own ⟨_,p5.h2⟩ (Nat.le_add_right _ _) (fun _ _ h=>h) (qK:=[]) trivial) (SW.exit ?_)))
  exact fin s p5
end
end
section
noncomputable def gQ (l:List ag)(o:ag):List Dt:=if o.kind=0 then [] else (nH (aA l).at_ o.aL).map (·.dot)
theorem bP.nS {l:List ag}{S:Sh}(h:bP l S)(o:ag):S.nS o=gQ l o:=by unfold Sh.nS gQ;rw [h.base.tr]
noncomputable def Sh.eH (S:Sh)(ds:List Dt)(o:ag):List Dt:=(S.nS o).flatMap fun c=>(ds.filter (S.rv c)).filter fun t=> !o.before (S.op t)
theorem Sh.Bv {S:Sh}{ds:List Dt}{o:ag}{t:Dt}:t∈S.eH ds o↔t∈ds∧S.good t=true∧(S.op t).kind=2∧(S.op t).at_∈S.nS o∧o.before (S.op t)=false:=by
 unfold Sh.eH Sh.rv;simp only [List.mem_flatMap,List.mem_filter,Bool.and_eq_true,decide_eq_true_eq,Bool.not_eq_true'];constructor
 ·rintro ⟨c,hc,⟨h1,h2,h3,rfl⟩,h4⟩
  exact ⟨h1,h2,h3,hc,h4⟩
 ·rintro ⟨h1,h2,h3,h4,h5⟩
  exact ⟨_,h4,⟨h1,h2,h3,rfl⟩,h5⟩
theorem j8.Io {l:List ag}{T:Tr}(h:j8 l T){oc:Option Cr}{L:List Cr}(hL:mg T.at_ oc L):∀ c d,oc=some c→MM.get T.at_ d=some c→∀ x,x∈L→x.aI=c.aI:=by
 induction hL with
 | none=>intro c d hc;cases hc
 | root c0 _=>
  intro c d hc _ x hx;injection hc with hc;rw [List.mem_singleton] at hx;rw [hx,hc]
 | more c0 L hl hU ih=>
  intro c d hc hg x hx;injection hc with hc;subst hc;rcases List.mem_cons.1 hx with rfl | hx
  ·rfl
  ·obtain ⟨o,p,q,_,_,hp,hb⟩:=h.above hg hl
   rw [ih p c0.par hp hp x hx,hb.aI,hb.is]
theorem j8.Jk {l:List ag}{T:Tr}(h:j8 l T){d:Dt}{c:Cr}(hc:MM.get T.at_ d=some c){L:List Cr}(hL:mg T.at_ (MM.get T.at_ d) L){x:Cr}(hx:x∈L):x.level≤c.level∧(x.level=c.level→x.dot=d)∧x.aI=c.aI∧MM.get T.at_ x.dot=some x:=by
 obtain ⟨i,hi⟩:=List.mem_iff_getElem?.1 hx;have h1:=h.yM hL i x c hc hi;refine ⟨by omega,fun e=> ?_,h.Io hL c d hc hc x hx,h.uA hL x hx⟩
 have h0:i=0:=by omega
 subst h0;have h2:L[0]? =some c:=by rw [hc] at hL;exact hL.head
 rw [hi] at h2;injection h2 with h2;rw [h2];exact h.yL hc
theorem wu {l:List ag}{o:ag}(hk:o.kind≠0){c:Cr}(hc:MM.get (aA l).at_ o.aL=some c):((gQ l o).length:Int)=c.level+1∧∀ a,a∈gQ l o→∃ x,x∈nH (aA l).at_ o.aL∧x.dot=a:=by
 obtain ⟨L,h1,_,h3⟩:=(eA l).s4 o.aL;unfold gQ;rw [if_neg hk,List.length_map,gr h1];refine ⟨h3 c hc,fun a ha=> ?_⟩
 obtain ⟨x,hx,e⟩:=List.mem_map.1 ha;exact ⟨x,hx,e⟩
theorem Ip {l:List ag}{o r:ag}(ho:gE l o=0)(hr:gE l r=0)(hk:r.kind=2)(ha:r.at_∈gQ l o):(gQ l r).length<(gQ l o).length∧2≤(gQ l o).length∧r.aI=o.aI:=by
 have s7:o.kind≠0:=fun e=>by unfold gQ at ha;rw [if_pos e] at ha;cases ha
 have hT:=eA l;obtain ⟨co,g1,g2,_,_⟩:=uI ho s7;obtain ⟨cr,g3,g4,_,_⟩:=uI hr (by omega)
 obtain ⟨n1,n2⟩:=wu s7 g1;obtain ⟨n3,_⟩:=wu (show r.kind≠0 by omega) g3
 obtain ⟨y,hy,ey⟩:=n2 _ ha;obtain ⟨L,hL,_,_⟩:=hT.s4 o.aL;rw [gr hL] at hy;obtain ⟨y1,_,y3,y4⟩:=hT.Jk g1 hL hy;rw [ey] at y4;have hab:=yZ hr hk;obtain ⟨M,hM,_,_⟩:=hT.s4 r.at_;rw [gr hM] at hab;unfold fu at hab;simp only [Bool.and_eq_true,Bool.not_eq_true',decide_eq_false_iff_not,List.any_eq_true,decide_eq_true_eq] at hab;obtain ⟨hne,x,hx,ex⟩:=hab;obtain ⟨x1,x2,x3,x4⟩:=hT.Jk y4 hM hx;rw [ex,g3] at x4;injection x4 with x4;subst x4;have hlt:cr.level<y.level:=by
  rcases Int.lt_or_le cr.level y.level with h | h
  ·exact h
  ·exact absurd (ex.symm.trans (x2 (by omega))) hne
 have hz:=(hT.level g3).1;refine ⟨by omega,by omega,?_⟩
 rw [← g2,← g4,x3,y3]
end
end Go.Proofs.YtaelhkkjgfobhaaGreat
