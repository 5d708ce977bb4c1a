/-
 Revoke: levels, revokes; the iterator over threats.
-/
import Derived.Test.YtaelhkkjgfobhaaGreatP6
import Derived.Test.YtaelhkkjgfobhaaGreatPO
import Derived.Test.YtaelhkkjgfobhaaGreatPE
import Derived.Test.YtaelhkkjgfobhaaGreatPL
set_option linter.unusedSectionVars false
set_option linter.unusedVariables false
set_option linter.unusedSimpArgs false
namespace Go.Proofs.YtaelhkkjgfobhaaGreat
open Go.Sl Go.Proofs
section
abbrev Ix.h0 (X:Ix):Hp:=[(0,.box 110 [.any,.mp 1,.mp 2,.mp 3]),(1,.map (au Dt.cells ov X.ops) X.co),(2,.map (au Dt.cells dn X.ch) X.cc),(3,.map (au Dt.cells dn X.lR) X.cf)]
theorem Ix.Ab (X:Ix){k:Nat}(h:4≤k):X.h0.ok (fun n=>decide (n<k))=true:=by
 have a:=bq (fun n=>decide (n<k)) X.ops;have b:=eB (fun n=>decide (n<k)) X.ch;have c:=eB (fun n=>decide (n<k)) X.lR;simp only [Hp.ok,List.all_cons,List.all_nil,Ob.ok,SV.ax,SV.ok,a,b,c,Bool.and_true,Bool.true_and,Bool.and_eq_true,decide_eq_true_eq];omega
theorem Ix.N8 (X:Ix):∀ i,i< [14,11,12,13].length→lk X.h0 i≠none:=fun i hi=>by
 match i,hi with
 | 0,_ | 1,_ | 2,_ | 3,_=>simp [aa]
def Ix.op (X:Ix)(d:Dt):ag:=(MM.get X.ops d).getD ag.zero
def Ix.nY (X:Ix)(d:Dt):List Dt:=(MM.get X.ch d).getD []
def Ix.qU (X:Ix)(c:Dt):List Dt:=(MM.get X.lR c).getD []
structure Ix.small (X:Ix):Prop where
 ch:∀ d,(X.nY d).length≤1000
 rv:∀ d,(X.qU d).length≤1000
 op:X.ops.length≤500
 wo:MM.wf X.ops X.co
def j5 (X:Ix)(d:Dt):SV:=if MM.has X.ops d then .dm [.d (.int .i64 (((X.nY d).length:Int) - 1)),i64 0] else .dm [i64 0,i64 7]
section
attribute [local irreducible] SW RW aF SC ai aq
theorem Gb (X:Ix):SB Tryz.prog revoke_Index_none.f [.ptr 0 0] X.h0 4 0 fun r F=>r=bl false∧F=X.h0:=by
 refine revoke_Index_none.enter (by simp [SV.ax,SV.ok]) (X.Ab (Nat.le_refl 4)) (by simp) ?_;dsimp only [revoke_Index_none.s,Co.M,Co.G,Co.J,Co.H,Co.F,Co.B,Co.S];(repeat (first | refine SW.seq ?_ | refine SW.block ?_ | refine SW.g0 [0,2] mixed af ?_ | refine SW.skip ?_ | refine SW.exit ?_ | refine SW.ret ?_ | refine SW.aj rfl ?_ | refine SW.ah rfl ?_));exact End.mk X.h0 (h4:=⟨rfl,rfl⟩) (h6:=X.Ab (Nat.le_refl 4))
theorem IU (X:Ix)(k:Nat):aF Tryz.prog revoke_Index_none.f [.ptr 0 0] X.h0 k 0 (bl false) X.h0:=by
 have:=SB.pz [0,1,2,3] (Gb X) (by decide) X.N8 k;rw [show X.h0.aC (fF [0,1,2,3] k)=X.h0 by simp [Hp.aC,Ob.aC,SV.aT,SV.aC,fF,bK,eN]] at this;exact this
set_option maxHeartbeats 4000000 in
theorem C5 (X:Ix)(hX:X.small)(d:Dt):SB Tryz.prog revoke_Index_Level.f [.ptr 0 0,.agg d.cells] X.h0 4 2 fun r F=>r=j5 X d∧F=X.h0:=by
 refine revoke_Index_Level.enter (by simp [SV.ax,SV.ok]) (X.Ab (Nat.le_refl 4)) (by simp) ?_;dsimp only [revoke_Index_Level.s,Co.M,Co.J,Co.F,Co.Z,Co.bF,Co.T,Co.K,Co.E,Co.L,Co.P,Co.x,Co.W,Co.Y,Co.O,Co.D,Co.A,Co.S];have hn:=IU X;refine SW.seq ?_;refine SW.g0 [0,1,3,4,5,7,9,20] mixed af ?_;refine SW.seq (SW.seq ?_);refine SW.g1 [0,1,3,4,5,7,9,20] mixed af hn ?_;refine SW.ah rfl (SW.skip ?_);refine SW.seq (SW.seq ?_);obtain ⟨o,ho⟩:∃ o,(MM.get X.ops d).getD ag.zero=o:=⟨_,rfl⟩;rcases hh:MM.has X.ops d with _ | _
 ·refine SW.g0 [0,1,3,4,5,7,9,20] mixed (And.intro (hh) (ho)) ?_
  refine SW.seq ?_;refine SW.g0 [0,1,3,4,5,7,9,20] mixed af ?_;refine SW.aj rfl (SW.seq ?_);refine SW.g0 [0,1,3,4,5,7,9,20] mixed af ?_;refine SW.ret ?_;exact End.mk X.h0 (h4:=⟨by simp [j5,hh,eH],rfl⟩) (h6:=X.Ab (by decide))
 ·refine SW.g0 [0,1,3,4,5,7,9,20] mixed (And.intro (hh) (ho)) ?_
  refine SW.seq ?_;refine SW.g0 [0,1,3,4,5,7,9,20] mixed af ?_;refine SW.ah rfl (SW.skip ?_);have hl:=hX.ch d;have hlk:=xY X.ch d;have hlv:j5 X d= .dm [.d (.int .i64 (((X.nY d).length:Int) - 1)),i64 0]:=by unfold j5;rw [hh];rfl
  change gB _ _ _=dn (X.nY d) at hlk;rw [hlv];generalize X.nY d=L at hl hlk ⊢;have hw:IntKind.i64.wrap ((L.length:Int) - 1)=(L.length:Int) - 1:=wrap_i64 _ (by omega);refine SW.seq ?_;cases L with
  | nil=>
   change _=SV.d .aJ at hlk;refine SW.g0 [0,1,3,4,5,7,9,20] mixed (hlk) ?_;refine SW.ret ?_;exact End.mk X.h0 (h4:=⟨by simp [eH],rfl⟩) (h6:=X.Ab (by decide))
  | cons c L=>
   change _=aW (c::L) at hlk;refine SW.g0 [0,1,3,4,5,7,9,20] mixed (And.intro (hlk) (hw)) ?_;refine SW.ret ?_;exact End.mk X.h0 (h4:=⟨by simp [eH],rfl⟩) (h6:=X.Ab (by decide))
end
end
section
structure N9 (C:Prop):Prop where
 c:C
theorem later {C G:Prop}(h:N9 C→G)(c:C):G:=h ⟨c⟩
structure Gc {α σ:Type}(P:Program)(y:Nat)(enc:α→SV)(aQ:Nat)(Fh:σ→Hp)(nx:σ→α→Nat→σ)(inv:σ→Nat→Prop):Prop where
 vD:∀ s,lk (Fh s) y≠none
 nd:∀ s j,inv s j→∀ x,x∈Fh s→lk (Fh s) x.1=some x.2
 cl:∀ s j,inv s j→(Fh s).ok (fun n=>(lk (Fh s) n).isSome)=true
 call:∀ s x k j,inv s (j+1)→(Fh s).ok (fun n=>decide (n<k))=true→Md P y [enc x] (Fh s) k aQ (bl true) (Fh (nx s x k))∧inv (nx s x k) j∧(Fh (nx s x k)).ok (fun n=>decide (n<k+aQ))=true∧
  ∀ n,lk (Fh (nx s x k)) n≠none→lk (Fh s) n≠none∨(k≤n∧n<k+aQ)
abbrev MV {α σ:Type}(nx:σ→α→Nat→σ)(s:σ)(x:α)(s':σ):Prop:=∃ k,s'=nx s x k
theorem RW.AD {P:Program}{d y:Nat}{f:X}{args:List X}{g:Option (Nat×Bool)}{r:List SI}{K:St→List (Bool×List Nat)→Prop}{az:List SV}{env:List (Nat×SV)}{hp F F':Hp}{k:Nat}{v:SV}{nk:Nat}
  (hf:ev (fun t=>env.lookup t) f=some (.yl y)) (ha:pY (fun t=>env.lookup t) args=some az) (hc:Md P y az F k nk v F') (hl:lk F y≠none) (hs:HSub F hp)
  (hg:g=none∨∃ t w,g=some (t,w)∧env.lookup t=some (.d (.bool w)))
  (h:∀ H,(∀ n,lk H n=zY (lk hp) (lk F) (lk F') n)→Go.Sl.RW P r ⟨(d,v)::env,H,k+nk⟩ fun st' ts=>K st' ((false,F.map (·.1)++F'.map (·.1))::ts)):Go.Sl.RW P (⟨some d,.call f args,g⟩::r) ⟨env,hp,k⟩ K:=by
 refine RW.cons (e:=⟨v,F,F',nk,Md P y az F k nk v F'∧lk F y≠none∧HSub F hp⟩) (fun dL=>⟨.call F v F' nk::dL,?_⟩) ⟨hc,hl,hs⟩ ?_
 ·rcases hg with rfl | ⟨t,w,rfl,hl⟩
  ·simp only [fU,ff,hf,ha]
  ·simp [fU,hl,ff,hf,ha]
 ·rw [g_]
  exact h _ fun n=>congrFun (iy (ro:=false) hs (fun h=>by cases h)) n
theorem IV {σ:Type}{G:Hp}{Fh:σ→Hp}{s s':σ}{kk k':Nat}(hO:pF G Fh s kk)(hk:kk≤k')(hok:(Fh s').ok (fun n=>decide (n<k'))=true)(hnm:∀ n,lk (Fh s') n≠none→lk (Fh s) n≠none∨(kk≤n∧n<k')):pF G Fh s' k':=
 ⟨hO.nd,fun n hn=>by have:=hO.lt n hn;omega,fun n hn=>Classical.byContradiction fun hno=>(hnm n hno).elim (fun h=>h (hO.no n hn)) (fun h=>by have:=hO.lt n hn;omega),Hp.bB hk hO.ok,hok⟩
theorem AW {σ:Type}{G:Hp}{Fh:σ→Hp}{s s':σ}{kk k':Nat}(hO:pF G Fh s kk)(Nz:pF G Fh s' k'){H:Hp}(hH:∀ n,lk H n=Go.Sl.zY (lk (G++Fh s)) (lk (Fh s)) (lk (Fh s')) n):∀ n ob,lk (G++Fh s') n=some ob→lk H n=some ob:=fun n ob hn=>by
 rw [hH]
 by_cases hm:n∈G.map (·.1)
 ·rw [dF (hO.no n hm) (Nz.no n hm)]
  rw [jF] at hn ⊢;cases hg:lk G n with
  | some o=>rw [hg] at hn;exact hn
  | none=>rw [hg,Option.none_or,Nz.no n hm] at hn;cases hn
 ·rw [jF,gf hm,Option.none_or] at hn
  rw [fq (.inr (by rw [hn];simp)),hn]
def Ix.eO (X:Ix)(o:ag):List Dt:=(X.nY o.dot).flatMap fun c=>(X.qU c).filter fun t=> !o.before (X.op t)
section
attribute [local irreducible] SW RW aF SC ai aq
theorem AX (X:Ix)(o:ag):SB Tryz.prog revoke_Index_threats.f [.ptr 0 0,.agg o.cells] X.h0 4 2 fun r F=>r= .fn (.func revoke_Index_threats_1.f) [] [.ptr 4 0,.ptr 5 0]∧F=(5,.box 43 o.cells)::(4,.box 27 [.ptr 0 0])::X.h0:=by
 refine revoke_Index_threats.enter (by simp [SV.ax,SV.ok,ag.ak]) (X.Ab (Nat.le_refl 4)) (by simp) ?_;dsimp only [revoke_Index_threats.s,Co.M,Co.J,Co.F,Co.x,Co.S];refine SW.seq ?_;refine SW.g0 [0,1,2,3,4] mixed af ?_;refine SW.seq ?_;refine SW.g0 [0,1,2,3,4] mixed af ?_;refine SW.ret ?_;exact End.mk ((5,.box 43 o.cells)::(4,.box 27 [.ptr 0 0])::X.h0) (h4:=⟨rfl,rfl⟩) (h6:=an (by decide) (by simp [Ob.ok,ag.ak]) (an (by decide) (by simp [Ob.ok,SV.ax,SV.ok]) (X.Ab (by decide))))
end
abbrev TG (X:Ix)(o:ag)(bx bo:Nat):Hp:=(bx,.box 27 [.ptr 0 0])::(bo,.box 43 o.cells)::X.h0
def Ix.rL (X:Ix)(o:ag)(i:Nat):List Dt:=((X.nY o.dot).drop i).flatMap fun c=>(X.qU c).filter fun t=> !o.before (X.op t)
def Ix.nZ (X:Ix)(o:ag)(i:Nat)(R:List Dt)(j:Nat):List Dt:=(R.drop j).filter (fun t=> !o.before (X.op t))++X.rL o (i+1)
theorem Ix.C6 (X:Ix)(o:ag){i:Nat}(h:(X.nY o.dot).length≤i):X.rL o i=[]:=by unfold Ix.rL;rw [List.drop_eq_nil_of_le h];rfl
theorem zC {α:Type}{l:List α}{i:Nat}{x:α}(h:l[i]? =some x):l.drop i=x::l.drop (i+1):=by
 obtain ⟨h1,rfl⟩:=List.getElem?_eq_some_iff.1 h;exact List.drop_eq_getElem_cons h1
theorem Ix.Gd (X:Ix)(o:ag){i:Nat}{c:Dt}(h:(X.nY o.dot)[i]? =some c):X.rL o i=X.nZ o i (X.qU c) 0:=by
 unfold Ix.rL Ix.nZ;rw [zC h];rfl
theorem Ix.C7 (X:Ix)(o:ag)(i:Nat){R:List Dt}{j:Nat}(h:R.length≤j):X.nZ o i R j=X.rL o (i+1):=by unfold Ix.nZ;rw [List.drop_eq_nil_of_le h];rfl
theorem Ix.C8 (X:Ix)(o:ag)(i:Nat){R:List Dt}{j:Nat}{t:Dt}(h:R[j]? =some t):X.nZ o i R j=if o.before (X.op t) then X.nZ o i R (j+1) else t::X.nZ o i R (j+1):=by
 unfold Ix.nZ;rw [zC h,List.filter_cons];cases o.before (X.op t) <;> rfl
structure TI {σ:Type}(X:Ix)(o:ag)(Fh:σ→Hp)(nx:σ→Dt→Nat→σ)(inv:σ→Nat→Prop)(s0:σ)(k0 bx bo b:Nat)(rest:List Dt)(s:σ)(kk:Nat):Prop where
 h1:∃ xs,lF (MV nx) s0 xs s∧X.eO o=xs++rest
 h2:inv s rest.length
 own:pF (TG X o bx bo) Fh s kk
 h3:kk≤b
 h4:4≤kk
 nm:∀ n,lk (Fh s) n≠none→lk (Fh s0) n≠none∨k0≤n
def j6 (aQ:Nat):Nat:=1000000*(1+1000000*(1+aQ))
end
section
attribute [local irreducible] SW RW aF SC ai aq
section
variable {σ:Type} {Fh:σ→Hp} {nx:σ→Dt→Nat→σ} {inv:σ→Nat→Prop} {aQ y bx bo k:Nat}
theorem TI.nd {X:Ix}{o:ag}{s0 s:σ}{b kk:Nat}{rest:List Dt}(h:TI X o Fh nx inv s0 k bx bo b rest s kk):bx≠bo∧(bx≠0∧bx≠1∧bx≠2∧bx≠3)∧(bo≠0∧bo≠1∧bo≠2∧bo≠3)∧bx<kk∧bo<kk:=by
 have h1:=h.own.nd;simp only [TG,List.map_cons,List.map_nil,List.nodup_cons,List.mem_cons,List.not_mem_nil,or_false,not_or] at h1;obtain ⟨⟨a1,a2,a3,a4,a5⟩,⟨b2,b3,b4,b5⟩,_⟩:=h1;exact ⟨a1,⟨a2,a3,a4,a5⟩,⟨b2,b3,b4,b5⟩,h.own.lt bx (by simp),h.own.lt bo (by simp)⟩
theorem IW {k:Nat}(h:k≠0∧k≠1∧k≠2∧k≠3):((k == 0)=false∧(0 == k)=false∧(k=0)=False∧(0=k)=False)∧((k == 1)=false∧(1 == k)=false∧(k=1)=False∧(1=k)=False)∧((k == 2)=false∧(2 == k)=false∧(k=2)=False∧(2=k)=False)∧((k == 3)=false∧(3 == k)=false∧(k=3)=False∧(3=k)=False):=⟨cQ h.1,cQ h.2.1,cQ h.2.2.1,cQ h.2.2.2⟩
theorem TI.cut {X:Ix}{o:ag}{s0 s:σ}{b kk k':Nat}{rest:List Dt}(h:TI X o Fh nx inv s0 k bx bo b rest s kk){b':Nat}{r':List Dt}(hr:r'=rest)(hk:kk≤k')(hb:k'≤b'):TI X o Fh nx inv s0 k bx bo b' r' s k':=by
 subst hr;exact ⟨h.h1,h.h2,h.own.mono hk,hb,by have:=h.h4;omega,h.nm⟩
set_option maxHeartbeats 16000000 in
theorem IX (X:Ix)(hX:X.small)(o:ag)(s0:σ)(hy:Gc Tryz.prog y (fun d:Dt=> .agg d.cells) aQ Fh nx inv)(h0:TI X o Fh nx inv s0 k bx bo k (X.eO o) s0 k):
  SB Tryz.prog revoke_Index_threats_1.f [.yl y,.ptr bx 0,.ptr bo 0] (TG X o bx bo++Fh s0) k (j6 aQ) fun r F=>r= .dm []∧∃ s',TI X o Fh nx inv s0 k bx bo (k+j6 aQ) [] s' (k+j6 aQ)∧F=TG X o bx bo++Fh s':=by
 have hyk:y<k:=by
  obtain ⟨ob,ho⟩:=Option.ne_none_iff_exists'.1 (hy.vD s0)
  simpa using (Hp.eW h0.own.okF ho).1
 obtain ⟨n1,n2,n3,n4,n5⟩:=h0.nd;refine revoke_Index_threats_1.enter (by simp [SV.ok,SV.ax];omega) h0.own.xD (by simp) ?_;dsimp only [revoke_Index_threats_1.s,Co.M,Co.G,Co.J,Co.H,Co.F,Co.Z,Co.b8,Co.av,Co.bF,Co.T,Co.K,Co.L,Co.Q,Co.W,Co.Y,Co.V,Co.U,Co.O,Co.D,Co.A,Co.I,Co.S];have f1:=cQ n1;have f2:=IW n2;have f3:=IW n3;have hnk:j6 aQ=1000000*(1+1000000*(1+aQ)):=rfl;obtain ⟨C,hC⟩:∃ C,1+1000000*(1+aQ)=C:=⟨_,rfl⟩;rw [hC] at hnk;have hkk:∀ s kk (env:List (Nat×SV)) (hp:Hp) (kq:Nat),pF (TG X o bx bo) Fh s kk→(∃ j,inv s j)→k≤kk→(∀ n ob,lk (TG X o bx bo++Fh s) n=some ob→lk hp n=some ob)→∀ {qT:List (Nat×SV)},bp id kk env qT→aK k ⟨env,hp,kq⟩ ⟨qT,TG X o bx bo++Fh s,kk⟩ id:=fun s kk env hp kq hO ⟨j,hj⟩ hk hh qT he=>aK.own hO (hy.nd s j hj) hk he hh
 have fin:∀ (s':σ),TI X o Fh nx inv s0 k bx bo (k+j6 aQ) [] s' (k+j6 aQ)→Go.Sl.Fin k (j6 aQ) [] (fun r F=>r= .dm []∧∃ s',TI X o Fh nx inv s0 k bx bo (k+j6 aQ) [] s' (k+j6 aQ)∧F=TG X o bx bo++Fh s') ⟨[],TG X o bx bo++Fh s',k+j6 aQ⟩:=fun s' h=>End.mk (TG X o bx bo++Fh s') (h3:=fun _ _ h=>h) (h4:=⟨rfl,s',h,rfl⟩) (h6:=h.own.xD) (h7:=Nat.le_refl _)
 obtain ⟨L,hL⟩:∃ L,X.nY o.dot=L:=⟨_,rfl⟩;have hlk:=xY X.ch o.dot;change gB _ _ _=dn (X.nY o.dot) at hlk;have hLl:=hX.ch o.dot;rw [hL] at hlk hLl;have o2:List.take 2 o.cells=o.dot.cells:=rfl;have hmul:∀ i,i≤L.length→i*C≤j6 aQ:=fun i hi=>by rw [hnk];exact Nat.mul_le_mul_right C (by omega)
 simp only [TG,Ix.h0,List.cons_append,List.nil_append];refine SW.seq ?_;apply later
 ·intro late
  rcases hLc:L with _ | ⟨c,L'⟩
  ·have hlk0:gB (au Dt.cells dn X.ch) (.d .aJ) (MM.idx X.ch o.dot)= .d .aJ:=by rw [hlk,hLc];rfl
   refine SW.g0 [0,1,2,5,7,14,15,16,17,25,26,27,28,45] mixed (And.intro (hlk0) (And.intro (o2) (And.intro (f1) (And.intro (f2) (f3))))) ?_;refine SW.aJ 14 rfl ?_;refine SW.weak id (st1:=⟨[(16,i64 (0:Nat)),(15,i64 L.length),(14,aW L),(0,.yl y),(1,.ptr bx 0),(2,.ptr bo 0)],TG X o bx bo++Fh s0,k⟩) (hkk s0 k _ _ _ h0.own ⟨_,h0.h2⟩ (Nat.le_refl _) (fun _ _ h=>h) (by rw [hLc];simp [bp,List.lookup,SV.aC,SV.ok,SV.ax];omega)) late.c
  ·have hlk0:gB (au Dt.cells dn X.ch) (.d .aJ) (MM.idx X.ch o.dot)=aW (c::L'):=by rw [hlk,hLc];rfl
   refine SW.g0 [0,1,2,5,7,14,15,16,17,25,26,27,28,45] mixed (And.intro (hlk0) (And.intro (o2) (And.intro (f1) (And.intro (f2) (f3))))) ?_;refine SW.weak id (st1:=⟨[(16,i64 (0:Nat)),(15,i64 L.length),(14,aW L),(0,.yl y),(1,.ptr bx 0),(2,.ptr bo 0)],TG X o bx bo++Fh s0,k⟩) (hkk s0 k _ _ _ h0.own ⟨_,h0.h2⟩ (Nat.le_refl _) (fun _ _ h=>h) (by rw [hLc];simp [bp,List.lookup,SV.aC,SV.ok,SV.ax];omega)) late.c
 refine SW.block ?_
 refine SW.loop (α:={i:Nat×σ×Nat // (i.1≤L.length∧k≤i.2.2)∧TI X o Fh nx inv s0 k bx bo (k+i.1*C) (X.rL o i.1) i.2.1 i.2.2})
  (fun i=>⟨[(16,i64 i.1.1),(15,i64 L.length),(14,aW L),(0,.yl y),(1,.ptr bx 0),(2,.ptr bo 0)],TG X o bx bo++Fh i.1.2.1,i.1.2.2⟩)
  (fun i=>L.length - i.1.1) ⟨(0,s0,k),⟨Nat.zero_le _,Nat.le_refl _⟩,by show TI X o Fh nx inv s0 k bx bo (k+0*C) (X.rL o 0) s0 k;rw [Nat.zero_mul];exact h0⟩ id ?_ ?_
 ·exact hkk s0 k _ _ _ h0.own ⟨_,h0.h2⟩ (Nat.le_refl _) (fun _ _ h=>h) (by simp [bp,List.lookup,SV.aC,SV.ok,SV.ax];omega)
 rintro ⟨⟨i,s,kk⟩,hi⟩;have hi:(i≤L.length∧k≤kk)∧TI X o Fh nx inv s0 k bx bo (k+i*C) (X.rL o i) s kk:=hi;obtain ⟨⟨p1,p2⟩,p3⟩:=hi;dsimp only at*;have hmi:=hmul i p1
 by_cases h:i<L.length
 ·have h1:decide ((i:Int)<L.length)=true:=by simp only [decide_eq_true_eq];omega
  obtain ⟨c,hx⟩:=aZ h;have t2:IntKind.i64.wrap ((i:Int)+1)=((i+1:Nat):Int):=wrap_i64 _ (by omega);have h41:=p3.h4;have z0:=cQ (show kk≠bx by omega);have z1:=cQ (show kk≠bo by omega);have z2:=IW (k:=kk) ⟨by omega,by omega,by omega,by omega⟩;have g2:List.lookup kk (Fh s)=none:=p3.own.out (Nat.le_refl _);simp only [TG,Ix.h0,List.cons_append,List.nil_append];refine SW.seq ?_;refine SW.g0 [0,1,2,5,7,14,15,16,17,25,26,27,28,45] mixed (h1) ?_;refine SW.seq (SW.aj rfl (SW.skip ?_));refine SW.seq (SW.block (SW.seq ?_));refine SW.g0 [0,1,2,5,7,14,15,16,17,25,26,27,28,45] mixed (And.intro (bW hx) (And.intro (f1) (And.intro (f2) (And.intro (f3) (And.intro (z0) (And.intro (z1) (And.intro (z2) (g2)))))))) ?_;refine SW.seq ?_;obtain ⟨R,hR⟩:∃ R,X.qU c=R:=⟨_,rfl⟩;have hlk2:=xY X.lR c;change gB _ _ _=dn (X.qU c) at hlk2;have hRl:=hX.rv c;rw [hR] at hlk2 hRl;have hrI:=X.Gd o (by rw [hL];exact hx);rw [hR] at hrI;have hO1:pF ((kk,.box 37 c.cells)::TG X o bx bo) Fh s (kk+1):=pF.new p3.own (Nat.le_refl _) (Nat.lt_succ_self _) (Dt.ak _ _);have p4:TI X o Fh nx inv s0 k bx bo (k+i*C+1+0*(1+aQ)) (X.nZ o i R 0) s (kk+1):=p3.cut hrI.symm (Nat.le_succ _) (by have:=p3.h3;omega);have hw1:∀ (env qT:List (Nat×SV)) (kq:Nat),bp id (kk+1) env qT→aK k ⟨env,((kk,.box 37 c.cells)::TG X o bx bo)++Fh s,kq⟩ ⟨qT,TG X o bx bo++Fh s,kk+1⟩ id:=fun env qT kq he=>hkk s (kk+1) _ _ _ p4.own ⟨_,p4.h2⟩ (by omega) (hO1.keep (fun z hz=>List.mem_cons_of_mem _ hz)) he
  apply later
  ·intro late
   rcases hRc:R with _ | ⟨t0,R'⟩
   ·have hlk0:gB (au Dt.cells dn X.lR) (.d .aJ) (MM.idx X.lR c)= .d .aJ:=by rw [hlk2,hRc];rfl
    refine SW.g0 [0,1,2,5,7,14,15,16,17,25,26,27,28,45] mixed (And.intro (hlk0) (And.intro (f1) (And.intro (f2) (And.intro (f3) (And.intro (z0) (And.intro (z1) (And.intro (z2) (g2)))))))) ?_;refine SW.aJ 25 rfl ?_;refine SW.weak id (st1:=⟨[(27,i64 (0:Nat)),(26,i64 R.length),(25,aW R),(16,i64 i),(15,i64 L.length),(14,aW L),(0,.yl y),(1,.ptr bx 0),(2,.ptr bo 0)],TG X o bx bo++Fh s,kk+1⟩) (hw1 _ _ _ (by rw [hRc];simp [bp,List.lookup,SV.aC,SV.ok,SV.ax];omega)) late.c
   ·have hlk0:gB (au Dt.cells dn X.lR) (.d .aJ) (MM.idx X.lR c)=aW (t0::R'):=by rw [hlk2,hRc];rfl
    refine SW.g0 [0,1,2,5,7,14,15,16,17,25,26,27,28,45] mixed (And.intro (hlk0) (And.intro (f1) (And.intro (f2) (And.intro (f3) (And.intro (z0) (And.intro (z1) (And.intro (z2) (g2)))))))) ?_;refine SW.weak id (st1:=⟨[(27,i64 (0:Nat)),(26,i64 R.length),(25,aW R),(16,i64 i),(15,i64 L.length),(14,aW L),(0,.yl y),(1,.ptr bx 0),(2,.ptr bo 0)],TG X o bx bo++Fh s,kk+1⟩) (hw1 _ _ _ (by rw [hRc];simp [bp,List.lookup,SV.aC,SV.ok,SV.ax];omega)) late.c
  refine SW.block ?_
  refine SW.loop (α:={q:Nat×σ×Nat // (q.1≤R.length∧k≤q.2.2)∧TI X o Fh nx inv s0 k bx bo (k+i*C+1+q.1*(1+aQ)) (X.nZ o i R q.1) q.2.1 q.2.2})
   (fun q=>⟨[(27,i64 q.1.1),(26,i64 R.length),(25,aW R),(16,i64 i),(15,i64 L.length),(14,aW L),(0,.yl y),(1,.ptr bx 0),(2,.ptr bo 0)],TG X o bx bo++Fh q.1.2.1,q.1.2.2⟩)
   (fun q=>R.length - q.1.1) ⟨(0,s,kk+1),⟨Nat.zero_le _,by show k≤kk+1;omega⟩,p4⟩ id ?_ ?_
  ·exact hkk s (kk+1) _ _ _ p4.own ⟨_,p4.h2⟩ (by omega) (fun _ _ h=>h) (by simp [bp,List.lookup,SV.aC,SV.ok,SV.ax];omega)
  rintro ⟨⟨j,s1,kj⟩,hj'⟩;have hj':(j≤R.length∧k≤kj)∧TI X o Fh nx inv s0 k bx bo (k+i*C+1+j*(1+aQ)) (X.nZ o i R j) s1 kj:=hj';obtain ⟨⟨q1,q2⟩,q3⟩:=hj';dsimp only at*;clear p4 hw1 hO1 g2 z0 z1 z2 p3 h41;have hmj:j*(1+aQ)≤1000000*(1+aQ):=Nat.mul_le_mul_right _ (by omega)
  by_cases hj:j<R.length
  ·have k1:decide ((j:Int)<R.length)=true:=by simp only [decide_eq_true_eq];omega
   obtain ⟨t,ht⟩:=aZ hj;have k2:IntKind.i64.wrap ((j:Int)+1)=((j+1:Nat):Int):=wrap_i64 _ (by omega);have hgt:=X.C8 o i ht;have h41:=q3.h4;have hmj1:(j+1)*(1+aQ)=j*(1+aQ)+(1+aQ):=by rw [Nat.add_mul,Nat.one_mul]
   have h3':=q3.h3;have z0:=cQ (show kj≠bx by omega);have z1:=cQ (show kj≠bo by omega);have z2:=IW (k:=kj) ⟨by omega,by omega,by omega,by omega⟩;have g2:List.lookup kj (Fh s1)=none:=q3.own.out (Nat.le_refl _);have hO1:pF ((kj,.box 37 t.cells)::TG X o bx bo) Fh s1 (kj+1):=pF.new q3.own (Nat.le_refl _) (Nat.lt_succ_self _) (Dt.ak _ _);have hO0:pF (TG X o bx bo) Fh s1 (kj+1):=q3.own.mono (Nat.le_succ _);simp only [TG,Ix.h0,List.cons_append,List.nil_append];refine SW.seq ?_;refine SW.g0 [0,1,2,5,7,14,15,16,17,25,26,27,28,45] mixed (k1) ?_;refine SW.seq (SW.aj rfl (SW.skip ?_));refine SW.seq (SW.block (SW.seq ?_));refine SW.g0 [0,1,2,5,7,14,15,16,17,25,26,27,28,45] mixed (And.intro (bW ht) (And.intro (f1) (And.intro (f2) (And.intro (f3) (And.intro (z0) (And.intro (z1) (And.intro (z2) (g2)))))))) ?_;refine SW.seq ?_;obtain ⟨r,hr⟩:∃ r,(MM.get X.ops t).getD ag.zero=r:=⟨_,rfl⟩;have hrt:X.op t=r:=hr;rw [hrt] at hgt;have hb:=kD o r;rcases hbr:o.before r with _ | _
   ·rw [hbr] at hb hgt
    simp only [Bool.false_eq_true,if_false] at hgt;have hinv:inv s1 ((X.nZ o i R (j+1)).length+1):=by
     have:=q3.h2;rw [hgt] at this;exact this
    obtain ⟨c1,c2,c3,c4⟩:=hy.call s1 t (kj+1) _ hinv (Hp.bB (Nat.le_succ _) q3.own.okF);have hsubF:HSub (Fh s1) ((kj,.box 37 t.cells)::(bx,.box 27 [.ptr 0 0])::(bo,.box 43 o.cells)::(0,.box 110 [.any,.mp 1,.mp 2,.mp 3])::(1,.map (au Dt.cells ov X.ops) X.co)::(2,.map (au Dt.cells dn X.ch) X.cc)::(3,.map (au Dt.cells dn X.lR) X.cf)::Fh s1):=hO1.sub;have hin:=hy.vD s1;generalize hs2:nx s1 t (kj+1)=s2 at c1 c2 c3 c4
    (have fx:=(And.intro (hr) (And.intro (f1) (And.intro (f2) (And.intro (f3) (And.intro (z0) (And.intro (z1) (And.intro (z2) (g2))))))));refine SW.bT [0,1,2,5,7,14,15,16,17,25,26,27,28,45] mixed ?_;(repeat (first | refine RW.ro fx (h:= ?_) | refine RW.skip (h:= ?_) | refine RW.op fx (h:= ?_) | refine RW.dD fx (h:= ?_) | refine RW.aY (h:= ?_) | (refine RW.AD rfl rfl c1 hin hsubF (.inr ⟨_,_,rfl,rfl⟩) (h:= ?_);intro H hH) | (refine RW.aM (h:= ?_);(first | refine ai.mk fx (hc:=hb _) (h:= ?_)))));refine RW.nil ⟨gU (by simp [rj,yy,gC,dA,List.range,List.range.loop,f1,f2,f3,z0,z1,z2] <;> (first | decide | (repeat (first | assumption | refine ⟨?_,?_⟩ | exact .inl (by decide) | exact .inl (.inr (by decide)) | exact .inl (.inl (by decide)) | refine .inr ?_)))),aq.mk (h:= ?_)⟩)
    have hO2:pF ((kj,.box 37 t.cells)::TG X o bx bo) Fh s2 (kj+1+aQ):=IV hO1 (by omega) c3 c4;have hO3:pF (TG X o bx bo) Fh s2 (kj+1+aQ):=hO2.less (List.sublist_cons_self _ _);have hlkH:=AW hO1 hO2 hH;refine SW.ah rfl (SW.skip ?_);refine SW.g0 [0,1,2,5,7,14,15,16,17,25,26,27,28,45] mixed (k2) ?_;obtain ⟨xs,e1,e2⟩:=q3.h1;refine ⟨⟨(j+1,s2,kj+1+aQ),⟨by show j+1≤_;omega,by show k≤kj+1+aQ;omega⟩,⟨⟨xs++[t],.snoc e1 ⟨_,hs2.symm⟩,by rw [e2,hgt];simp⟩,c2,hO3,by show kj+1+aQ≤k+i*C+1+(j+1)*(1+aQ);omega,by show 4≤kj+1+aQ;omega,fun n hn=>(c4 n hn).elim (q3.nm n) fun h=> .inr (by omega)⟩⟩,id,by show R.length - (j+1)<R.length - j;omega,?_⟩;exact hkk s2 _ _ _ _ hO3 ⟨_,c2⟩ (by omega) (fun n ob hn=>hlkH n ob (hO2.keep (fun z hz=>List.mem_cons_of_mem _ hz) n ob hn)) (by simp [bp,List.lookup,SV.aC,SV.ok,SV.ax];omega)
   ·rw [hbr] at hb hgt
    simp only [if_true] at hgt;refine SW.g1 [0,1,2,5,7,14,15,16,17,25,26,27,28,45] mixed (And.intro (hr) (And.intro (f1) (And.intro (f2) (And.intro (f3) (And.intro (z0) (And.intro (z1) (And.intro (z2) (g2)))))))) hb ?_;refine SW.ah rfl (SW.skip ?_);refine SW.g0 [0,1,2,5,7,14,15,16,17,25,26,27,28,45] mixed (k2) ?_;refine ⟨⟨(j+1,s1,kj+1),⟨by show j+1≤_;omega,by show k≤kj+1;omega⟩,q3.cut hgt.symm (Nat.le_succ _) (by show kj+1≤k+i*C+1+(j+1)*(1+aQ);omega)⟩,id,by show R.length - (j+1)<R.length - j;omega,?_⟩;exact hkk s1 _ _ _ _ hO0 ⟨_,q3.h2⟩ (by omega) (hO1.keep (fun z hz=>List.mem_cons_of_mem _ hz)) (by simp [bp,List.lookup,SV.aC,SV.ok,SV.ax];omega)
  ·have k1:decide ((j:Int)<R.length)=false:=by simp only [decide_eq_false_iff_not];omega
   refine SW.seq ?_;refine SW.g0 [0,1,2,5,7,14,15,16,17,25,26,27,28,45] mixed (k1) ?_;have hjl:j=R.length:=by omega
   rw [hjl] at q3;refine SW.seq (SW.ah rfl (SW.exit ?_));refine (?_:Sl.SW _ _ _ _ _ _);refine SW.g0 [0,1,2,5,7,14,15,16,17,25,26,27,28,45] mixed (t2) ?_;have hb1:(i+1)*C=i*C+C:=by rw [Nat.add_mul,Nat.one_mul]
   have h3':=q3.h3;rw [← hjl] at h3';refine ⟨⟨(i+1,s1,kj),⟨by show i+1≤_;omega,q2⟩,q3.cut (X.C7 o i (Nat.le_refl _)).symm (Nat.le_refl _) (by show kj≤k+(i+1)*C;omega)⟩,id,by show L.length - (i+1)<L.length - i;omega,?_⟩;exact hkk s1 kj _ _ _ q3.own ⟨_,q3.h2⟩ q2 (fun _ _ h=>h) (by simp [bp,List.lookup,SV.aC,SV.ok,SV.ax];omega)
 ·have h1:decide ((i:Int)<L.length)=false:=by simp only [decide_eq_false_iff_not];omega
  refine SW.seq ?_;refine SW.g0 [0,1,2,5,7,14,15,16,17,25,26,27,28,45] mixed (h1) ?_;have p5:=p3.cut (k':=k+j6 aQ) (b':=k+j6 aQ) (r':=[]) (X.C6 o (by rw [hL];omega)).symm (by have:=p3.h3;omega) (Nat.le_refl _);refine SW.seq (SW.ah rfl (SW.weak id (hkk s (k+j6 aQ) _ _ _ p5.own ⟨_,p5.h2⟩ (Nat.le_add_right _ _) (fun _ _ h=>h) (qT:=[]) trivial) (SW.exit ?_)));exact fin s p5
end
end
section
noncomputable def gX (l:List ag)(o:ag):List Dt:=if o.kind=0 then [] else (nQ (aA l).at_ o.aN).map (·.dot)
theorem bR.nY {l:List ag}{S:Sh}(h:bR l S)(o:ag):S.nY o=gX l o:=by unfold Sh.nY gX;rw [h.base.tr]
noncomputable def Sh.eO (S:Sh)(ds:List Dt)(o:ag):List Dt:=(S.nY o).flatMap fun c=>(ds.filter (S.rv c)).filter fun t=> !o.before (S.op t)
theorem Sh.BX {S:Sh}{ds:List Dt}{o:ag}{t:Dt}:t∈S.eO ds o↔t∈ds∧S.good t=true∧(S.op t).kind=2∧(S.op t).at_∈S.nY o∧o.before (S.op t)=false:=by
 unfold Sh.eO Sh.rv;simp only [List.mem_flatMap,List.mem_filter,Bool.and_eq_true,decide_eq_true_eq,Bool.not_eq_true'];constructor
 ·rintro ⟨c,hc,⟨h1,h2,h3,rfl⟩,h4⟩
  exact ⟨h1,h2,h3,hc,h4⟩
 ·rintro ⟨h1,h2,h3,h4,h5⟩
  exact ⟨_,h4,⟨h1,h2,h3,rfl⟩,h5⟩
theorem kA.IY {l:List ag}{T:Tr}(h:kA l T){oc:Option Cr}{L:List Cr}(hL:mE T.at_ oc L):∀ c d,oc=some c→MM.get T.at_ d=some c→∀ x,x∈L→x.aH=c.aH:=by
 induction hL with
 | none=>intro c d hc;cases hc
 | root c0 _=>
  intro c d hc _ x hx;injection hc with hc;rw [List.mem_singleton] at hx;rw [hx,hc]
 | more c0 L hl hU ih=>
  intro c d hc hg x hx;injection hc with hc;subst hc;rcases List.mem_cons.1 hx with rfl | hx
  ·rfl
  ·obtain ⟨o,p,q,_,_,hp,hb⟩:=h.above hg hl
   rw [ih p c0.par hp hp x hx,hb.aH,hb.is]
theorem kA.JP {l:List ag}{T:Tr}(h:kA l T){d:Dt}{c:Cr}(hc:MM.get T.at_ d=some c){L:List Cr}(hL:mE T.at_ (MM.get T.at_ d) L){x:Cr}(hx:x∈L):x.level≤c.level∧(x.level=c.level→x.dot=d)∧x.aH=c.aH∧MM.get T.at_ x.dot=some x:=by
 obtain ⟨i,hi⟩:=List.mem_iff_getElem?.1 hx;have h1:=h.za hL i x c hc hi;refine ⟨by omega,fun e=> ?_,h.IY hL c d hc hc x hx,h.uP hL x hx⟩;have h0:i=0:=by omega
 subst h0;have h2:L[0]? =some c:=by rw [hc] at hL;exact hL.head
 rw [hi] at h2;injection h2 with h2;rw [h2];exact h.y_ hc
theorem wS {l:List ag}{o:ag}(hk:o.kind≠0){c:Cr}(hc:MM.get (aA l).at_ o.aN=some c):((gX l o).length:Int)=c.level+1∧∀ a,a∈gX l o→∃ x,x∈nQ (aA l).at_ o.aN∧x.dot=a:=by
 obtain ⟨L,h1,_,h3⟩:=(eE l).tn o.aN;unfold gX;rw [if_neg hk,List.length_map,gy h1];refine ⟨h3 c hc,fun a ha=> ?_⟩;obtain ⟨x,hx,e⟩:=List.mem_map.1 ha;exact ⟨x,hx,e⟩
theorem IZ {l:List ag}{o r:ag}(ho:gI l o=0)(hr:gI l r=0)(hk:r.kind=2)(ha:r.at_∈gX l o):(gX l r).length<(gX l o).length∧2≤(gX l o).length∧r.aH=o.aH:=by
 have tA:o.kind≠0:=fun e=>by unfold gX at ha;rw [if_pos e] at ha;cases ha
 have hT:=eE l;obtain ⟨co,g1,g2,_,_⟩:=uY ho tA;obtain ⟨cr,g3,g4,_,_⟩:=uY hr (by omega);obtain ⟨n1,n2⟩:=wS tA g1;obtain ⟨n3,_⟩:=wS (show r.kind≠0 by omega) g3;obtain ⟨y,hy,ey⟩:=n2 _ ha;obtain ⟨L,hL,_,_⟩:=hT.tn o.aN;rw [gy hL] at hy;obtain ⟨y1,_,y3,y4⟩:=hT.JP g1 hL hy;rw [ey] at y4;have hab:=zo hr hk;obtain ⟨M,hM,_,_⟩:=hT.tn r.at_;rw [gy hM] at hab;unfold fG at hab;simp only [Bool.and_eq_true,Bool.not_eq_true',decide_eq_false_iff_not,List.any_eq_true,decide_eq_true_eq] at hab;obtain ⟨hne,x,hx,ex⟩:=hab;obtain ⟨x1,x2,x3,x4⟩:=hT.JP y4 hM hx;rw [ex,g3] at x4;injection x4 with x4;subst x4;have hlt:cr.level<y.level:=by
  rcases Int.lt_or_le cr.level y.level with h | h
  ·exact h
  ·exact absurd (ex.symm.trans (x2 (by omega))) hne
 have hz:=(hT.level g3).1;refine ⟨by omega,by omega,?_⟩;rw [← g2,← g4,x3,y3]
end
end Go.Proofs.YtaelhkkjgfobhaaGreat
