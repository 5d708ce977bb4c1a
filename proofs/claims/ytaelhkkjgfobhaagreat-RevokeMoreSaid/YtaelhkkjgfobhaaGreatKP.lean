/-
 Revoke: levels, revokes; the iterator over threats.
-/
import Derived.Test.YtaelhkkjgfobhaaGreatK6
import Derived.Test.YtaelhkkjgfobhaaGreatKO
import Derived.Test.YtaelhkkjgfobhaaGreatKE
import Derived.Test.YtaelhkkjgfobhaaGreatKL
set_option linter.unusedSectionVars false
set_option linter.unusedVariables false
set_option linter.unusedSimpArgs false
namespace Go.Proofs.YtaelhkkjgfobhaaGreat
open Go.Sl Go.Proofs
section
abbrev Ix.h0 (X:Ix):Hp:=[(0,.box 110 [.any,.mp 1,.mp 2,.mp 3]),(1,.map (an Dt.cells ov X.ops) X.co),(2,.map (an Dt.cells dn X.ch) X.cc),(3,.map (an Dt.cells dn X.jV) X.cf)]
abbrev Ix.qc (X:Ix):Hp:=[(14,.box 110 [.any,.mp 11,.mp 12,.mp 13]),(11,.map (an Dt.cells ov X.ops) X.co),(12,.map (an Dt.cells dn X.ch) X.cc),(13,.map (an Dt.cells dn X.jV) X.cf)]
theorem Ix.wE (X:Ix){k:Nat}(h:4≤k):X.h0.ok (fun n=>decide (n<k))=true:=by
 have a:=bq (fun n=>decide (n<k)) X.ops
 have b:=dZ (fun n=>decide (n<k)) X.ch
 have c:=dZ (fun n=>decide (n<k)) X.jV
 simp only [Hp.ok,List.all_cons,List.all_nil,Ob.ok,SV.ay,SV.ok,a,b,c,Bool.and_true,Bool.true_and,Bool.and_eq_true,decide_eq_true_eq]
 omega
theorem Ix.Kx (X:Ix):∀ i,i< [14,11,12,13].length→lk X.h0 i≠none:=fun i hi=>by
 match i,hi with
 | 0,_ | 1,_ | 2,_ | 3,_=>simp [aa]
theorem Ix.JW (X:Ix)(k:Nat):X.h0.aC (gx [14,11,12,13] k)=X.qc:=by
 simp [Hp.aC,Ob.aC,SV.aW,SV.aC,gx,cF,gy]
theorem Ix.FZ {X:Ix}{f:FuncId}{args args':List SV}{nk:Nat}{r r':SV}(h:SB Tryz.prog f args X.h0 4 nk fun v F=>v=r∧F=X.h0)(ha:∀ k,SV.aW (gx [14,11,12,13] k) args=args')(hr:∀ k,r.aC (gx [14,11,12,13] k)=r')(k:Nat):aM Tryz.prog f args' X.qc k nk r' X.qc:=by
 have:=SB.qA [14,11,12,13] h (by decide) X.Kx k
 rw [X.JW,ha,hr] at this
 exact this
def Ix.op (X:Ix)(d:Dt):ag:=(MM.get X.ops d).getD ag.zero
def Ix.kE (X:Ix)(d:Dt):List Dt:=(MM.get X.ch d).getD []
def Ix.nj (X:Ix)(c:Dt):List Dt:=(MM.get X.jV c).getD []
structure Ix.small (X:Ix):Prop where
 ch:∀ d,(X.kE d).length≤1000
 rv:∀ d,(X.nj d).length≤1000
 op:X.ops.length≤500
 wo:MM.wf X.ops X.co
def fq (X:Ix)(d:Dt):SV:=if MM.has X.ops d then .dM [.d (.int .i64 (((X.kE d).length:Int) - 1)),i64 0] else .dM [i64 0,i64 7]
section
attribute [local irreducible] SW RW aM SC ak au
theorem DZ (X:Ix):SB Tryz.prog revoke_Index_none.f [.ptr 0 0] X.h0 4 0 fun r F=>r=bl false∧F=X.h0:=by
 refine revoke_Index_none.enter (by simp [SV.ay,SV.ok]) (X.wE (Nat.le_refl 4)) (by simp) ?_
 dsimp only [revoke_Index_none.s,Co.M,Co.G,Co.J,Co.H,Co.N,Co.F,Co.C,Co.Z,Co.B,Co.b8,Co.aB,Co.bL,Co.i6,Co.z8,Co.bU]
 (repeat (first | refine SW.seq ?_ | refine SW.block ?_ | refine SW.g0 [0,2] mixed af ?_ | refine SW.skip ?_ | refine SW.exit ?_ | refine SW.ret ?_ | refine SW.ah rfl ?_ | refine SW.aj rfl ?_))
 exact End.mk X.h0 (h4:=⟨rfl,rfl⟩) (h6:=X.wE (Nat.le_refl 4))
theorem wF (X:Ix)(k:Nat):aM Tryz.prog revoke_Index_none.f [.ptr 0 0] X.h0 k 0 (bl false) X.h0:=by
 have:=SB.qA [0,1,2,3] (DZ X) (by decide) X.Kx k
 rw [show X.h0.aC (gx [0,1,2,3] k)=X.h0 by simp [Hp.aC,Ob.aC,SV.aW,SV.aC,gx,cF,gy]] at this
 exact this
set_option maxHeartbeats 4000000 in
theorem vz (X:Ix)(hX:X.small)(d:Dt):SB Tryz.prog revoke_Index_Level.f [.ptr 0 0,.agg d.cells] X.h0 4 2 fun r F=>r=fq X d∧F=X.h0:=by
 refine revoke_Index_Level.enter (by simp [SV.ay,SV.ok]) (X.wE (Nat.le_refl 4)) (by simp) ?_
 dsimp only [revoke_Index_Level.s,Co.M,Co.G,Co.J,Co.H,Co.N,Co.F,Co.C,Co.Z,Co.B,Co.b8,Co.aB,Co.bL,Co.i6,Co.z8,Co.bU]
 have hn:=wF X
 refine SW.seq ?_
 refine SW.g0 [0,1,3,4,5,7,9,20] mixed af ?_
 refine SW.seq (SW.seq ?_)
 refine SW.g1 [0,1,3,4,5,7,9,20] mixed af hn ?_
 refine SW.aj rfl (SW.skip ?_)
 refine SW.seq (SW.seq ?_)
 obtain ⟨o,ho⟩:∃ o,(MM.get X.ops d).getD ag.zero=o:=⟨_,rfl⟩
 rcases hh:MM.has X.ops d with _ | _
 ·refine SW.g0 [0,1,3,4,5,7,9,20] mixed (And.intro (hh) (ho)) ?_
  refine SW.seq ?_
  refine SW.g0 [0,1,3,4,5,7,9,20] mixed af ?_
  refine SW.ah rfl (SW.seq ?_)
  refine SW.g0 [0,1,3,4,5,7,9,20] mixed af ?_
  refine SW.ret ?_
  exact End.mk X.h0 (h4:=⟨by simp [fq,hh,eP],rfl⟩) (h6:=X.wE (by decide))
 ·refine SW.g0 [0,1,3,4,5,7,9,20] mixed (And.intro (hh) (ho)) ?_
  refine SW.seq ?_
  refine SW.g0 [0,1,3,4,5,7,9,20] mixed af ?_
  refine SW.aj rfl (SW.skip ?_)
  have hl:=hX.ch d
  have hlk:=su X.ch d
  have hlv:fq X d= .dM [.d (.int .i64 (((X.kE d).length:Int) - 1)),i64 0]:=by unfold fq;rw [hh];rfl
  change fH _ _ _=dn (X.kE d) at hlk
  rw [hlv]
  generalize X.kE d=L at hl hlk ⊢
  have hw:IntKind.i64.wrap ((L.length:Int) - 1)=(L.length:Int) - 1:=wrap_i64 _ (by omega)
  refine SW.seq ?_
  cases L with
  | nil=>
   change _=SV.d .aU at hlk
   refine SW.g0 [0,1,3,4,5,7,9,20] mixed (hlk) ?_
   refine SW.ret ?_
   exact End.mk X.h0 (h4:=⟨by simp [eP],rfl⟩) (h6:=X.wE (by decide))
  | cons c L=>
   change _=bS (c::L) at hlk
   refine SW.g0 [0,1,3,4,5,7,9,20] mixed (And.intro (hlk) (hw)) ?_
   refine SW.ret ?_
   exact End.mk X.h0 (h4:=⟨by simp [eP],rfl⟩) (h6:=X.wE (by decide))
theorem oe (X:Ix)(hX:X.small)(d:Dt)(k:Nat):aM Tryz.prog revoke_Index_Level.f [.ptr 14 0,.agg d.cells] X.qc k 2 (fq X d) X.qc:=
 Ix.FZ (vz X hX d) (fun k=>by simp [SV.aW,SV.aC,gx,Dt.ax]) (fun k=>by unfold fq;split <;> simp [SV.aW,SV.aC]) k
end
end
section
structure K3 (C:Prop):Prop where
 c:C
theorem later {C G:Prop}(h:K3 C→G)(c:C):G:=h ⟨c⟩
structure qW {α σ:Type}(P:Program)(y:Nat)(enc:α→SV)(aX:Nat)(Fh:σ→Hp)(nx:σ→α→Nat→σ)(inv:σ→Nat→Prop):Prop where
 pK:∀ s,lk (Fh s) y≠none
 nd:∀ s j,inv s j→∀ x,x∈Fh s→lk (Fh s) x.1=some x.2
 cl:∀ s j,inv s j→(Fh s).ok (fun n=>(lk (Fh s) n).isSome)=true
 call:∀ s x k j,inv s (j+1)→(Fh s).ok (fun n=>decide (n<k))=true→Gw P y [enc x] (Fh s) k aX (bl true) (Fh (nx s x k))∧inv (nx s x k) j∧(Fh (nx s x k)).ok (fun n=>decide (n<k+aX))=true∧
  ∀ n,lk (Fh (nx s x k)) n≠none→lk (Fh s) n≠none∨(k≤n∧n<k+aX)
abbrev yV {α σ:Type}(nx:σ→α→Nat→σ)(s:σ)(x:α)(s':σ):Prop:=∃ k,s'=nx s x k
theorem RW.vW {P:Program}{d y:Nat}{f:X}{args:List X}{g:Option (Nat×Bool)}{r:List SI}{K:St→List (Bool×List Nat)→Prop}{az:List SV}{env:List (Nat×SV)}{hp F F':Hp}{k:Nat}{v:SV}{nk:Nat}
  (hf:ev (fun t=>env.lookup t) f=some (.yl y)) (ha:oG (fun t=>env.lookup t) args=some az) (hc:Gw P y az F k nk v F') (hl:lk F y≠none) (hs:HSub F hp)
  (hg:g=none∨∃ t w,g=some (t,w)∧env.lookup t=some (.d (.bool w)))
  (h:∀ H,(∀ n,lk H n=ya (lk hp) (lk F) (lk F') n)→Go.Sl.RW P r ⟨(d,v)::env,H,k+nk⟩ fun st' ts=>K st' ((false,F.map (·.1)++F'.map (·.1))::ts)):Go.Sl.RW P (⟨some d,.call f args,g⟩::r) ⟨env,hp,k⟩ K:=by
 refine RW.cons (e:=⟨v,F,F',nk,Gw P y az F k nk v F'∧lk F y≠none∧HSub F hp⟩) (fun de=>⟨.call F v F' nk::de,?_⟩) ⟨hc,hl,hs⟩ ?_
 ·rcases hg with rfl | ⟨t,w,rfl,hl⟩
  ·simp only [eW,eV,hf,ha]
  ·simp [eW,hl,eV,hf,ha]
 ·rw [ig]
  exact h _ fun n=>congrFun (fA (ro:=false) hs (fun h=>by cases h)) n
theorem Ad {σ:Type}{G:Hp}{Fh:σ→Hp}{s s':σ}{kk k':Nat}(hO:gW G Fh s kk)(hk:kk≤k')(hok:(Fh s').ok (fun n=>decide (n<k'))=true)(hnm:∀ n,lk (Fh s') n≠none→lk (Fh s) n≠none∨(kk≤n∧n<k')):gW G Fh s' k':=
 ⟨hO.nd,fun n hn=>by have:=hO.lt n hn;omega,fun n hn=>Classical.byContradiction fun hno=>(hnm n hno).elim (fun h=>h (hO.no n hn)) (fun h=>by have:=hO.lt n hn;omega),Hp.bE hk hO.ok,hok⟩
theorem tS {σ:Type}{G:Hp}{Fh:σ→Hp}{s s':σ}{kk k':Nat}(hO:gW G Fh s kk)(Kw:gW G Fh s' k'){H:Hp}(hH:∀ n,lk H n=Go.Sl.ya (lk (G++Fh s)) (lk (Fh s)) (lk (Fh s')) n):∀ n ob,lk (G++Fh s') n=some ob→lk H n=some ob:=fun n ob hn=>by
 rw [hH]
 by_cases hm:n∈G.map (·.1)
 ·rw [cM (hO.no n hm) (Kw.no n hm)]
  rw [dB] at hn ⊢
  cases hg:lk G n with
  | some o=>rw [hg] at hn;exact hn
  | none=>rw [hg,Option.none_or,Kw.no n hm] at hn;cases hn
 ·rw [dB,ff hm,Option.none_or] at hn
  rw [dN (.inr (by rw [hn];simp)),hn]
def Ix.lD (X:Ix)(o:ag):List Dt:=(X.kE o.dot).flatMap fun c=>(X.nj c).filter fun t=> !o.before (X.op t)
section
attribute [local irreducible] SW RW aM SC ak au
theorem yW (X:Ix)(o:ag):SB Tryz.prog revoke_Index_threats.f [.ptr 0 0,.agg o.cells] X.h0 4 2 fun r F=>r= .fn (.func revoke_Index_threats_1.f) [] [.ptr 4 0,.ptr 5 0]∧F=(5,.box 43 o.cells)::(4,.box 27 [.ptr 0 0])::X.h0:=by
 refine revoke_Index_threats.enter (by simp [SV.ay,SV.ok,ag.ai]) (X.wE (Nat.le_refl 4)) (by simp) ?_
 dsimp only [revoke_Index_threats.s,Co.M,Co.G,Co.J,Co.H,Co.N,Co.F,Co.C,Co.Z,Co.B,Co.b8,Co.aB,Co.bL,Co.i6,Co.z8,Co.bU]
 refine SW.seq ?_
 refine SW.g0 [0,1,2,3,4] mixed af ?_
 refine SW.seq ?_
 refine SW.g0 [0,1,2,3,4] mixed af ?_
 refine SW.ret ?_
 exact End.mk ((5,.box 43 o.cells)::(4,.box 27 [.ptr 0 0])::X.h0) (h4:=⟨rfl,rfl⟩) (h6:=av (by decide) (by simp [Ob.ok,ag.ai]) (av (by decide) (by simp [Ob.ok,SV.ay,SV.ok]) (X.wE (by decide))))
end
abbrev TG (X:Ix)(o:ag)(bx bo:Nat):Hp:=(bx,.box 27 [.ptr 0 0])::(bo,.box 43 o.cells)::X.h0
def Ix.qd (X:Ix)(o:ag)(i:Nat):List Dt:=((X.kE o.dot).drop i).flatMap fun c=>(X.nj c).filter fun t=> !o.before (X.op t)
def Ix.mC (X:Ix)(o:ag)(i:Nat)(R:List Dt)(j:Nat):List Dt:=(R.drop j).filter (fun t=> !o.before (X.op t))++X.qd o (i+1)
theorem Ix.Bd (X:Ix)(o:ag){i:Nat}(h:(X.kE o.dot).length≤i):X.qd o i=[]:=by unfold Ix.qd;rw [List.drop_eq_nil_of_le h];rfl
theorem xW {α:Type}{l:List α}{i:Nat}{x:α}(h:l[i]? =some x):l.drop i=x::l.drop (i+1):=by
 obtain ⟨h1,rfl⟩:=List.getElem?_eq_some_iff.1 h
 exact List.drop_eq_getElem_cons h1
theorem Ix.D0 (X:Ix)(o:ag){i:Nat}{c:Dt}(h:(X.kE o.dot)[i]? =some c):X.qd o i=X.mC o i (X.nj c) 0:=by
 unfold Ix.qd Ix.mC
 rw [xW h]
 rfl
theorem Ix.Be (X:Ix)(o:ag)(i:Nat){R:List Dt}{j:Nat}(h:R.length≤j):X.mC o i R j=X.qd o (i+1):=by unfold Ix.mC;rw [List.drop_eq_nil_of_le h];rfl
theorem Ix.Bf (X:Ix)(o:ag)(i:Nat){R:List Dt}{j:Nat}{t:Dt}(h:R[j]? =some t):X.mC o i R j=if o.before (X.op t) then X.mC o i R (j+1) else t::X.mC o i R (j+1):=by
 unfold Ix.mC
 rw [xW h,List.filter_cons]
 cases o.before (X.op t) <;> rfl
structure TI {σ:Type}(X:Ix)(o:ag)(Fh:σ→Hp)(nx:σ→Dt→Nat→σ)(inv:σ→Nat→Prop)(s0:σ)(k0 bx bo b:Nat)(rest:List Dt)(s:σ)(kk:Nat):Prop where
 h1:∃ xs,gV (yV nx) s0 xs s∧X.lD o=xs++rest
 h2:inv s rest.length
 own:gW (TG X o bx bo) Fh s kk
 h3:kk≤b
 h4:4≤kk
 nm:∀ n,lk (Fh s) n≠none→lk (Fh s0) n≠none∨k0≤n
def ir (aX:Nat):Nat:=1000000*(1+1000000*(1+aX))
end
section
attribute [local irreducible] SW RW aM SC ak au
section
variable {σ:Type} {Fh:σ→Hp} {nx:σ→Dt→Nat→σ} {inv:σ→Nat→Prop} {aX y bx bo k:Nat}
theorem TI.nd {X:Ix}{o:ag}{s0 s:σ}{b kk:Nat}{rest:List Dt}(h:TI X o Fh nx inv s0 k bx bo b rest s kk):bx≠bo∧(bx≠0∧bx≠1∧bx≠2∧bx≠3)∧(bo≠0∧bo≠1∧bo≠2∧bo≠3)∧bx<kk∧bo<kk:=by
 have h1:=h.own.nd
 simp only [TG,List.map_cons,List.map_nil,List.nodup_cons,List.mem_cons,List.not_mem_nil,or_false,not_or] at h1
 obtain ⟨⟨a1,a2,a3,a4,a5⟩,⟨b2,b3,b4,b5⟩,_⟩:=h1
 exact ⟨a1,⟨a2,a3,a4,a5⟩,⟨b2,b3,b4,b5⟩,h.own.lt bx (by simp),h.own.lt bo (by simp)⟩
theorem wG {k:Nat}(h:k≠0∧k≠1∧k≠2∧k≠3):((k == 0)=false∧(0 == k)=false∧(k=0)=False∧(0=k)=False)∧((k == 1)=false∧(1 == k)=false∧(k=1)=False∧(1=k)=False)∧((k == 2)=false∧(2 == k)=false∧(k=2)=False∧(2=k)=False)∧((k == 3)=false∧(3 == k)=false∧(k=3)=False∧(3=k)=False):=⟨bA h.1,bA h.2.1,bA h.2.2.1,bA h.2.2.2⟩
theorem TI.cut {X:Ix}{o:ag}{s0 s:σ}{b kk k':Nat}{rest:List Dt}(h:TI X o Fh nx inv s0 k bx bo b rest s kk){b':Nat}{r':List Dt}(hr:r'=rest)(hk:kk≤k')(hb:k'≤b'):TI X o Fh nx inv s0 k bx bo b' r' s k':=by
 subst hr
 exact ⟨h.h1,h.h2,h.own.mono hk,hb,by have:=h.h4;omega,h.nm⟩
set_option maxHeartbeats 16000000 in
theorem Ae (X:Ix)(hX:X.small)(o:ag)(s0:σ)(hy:qW Tryz.prog y (fun d:Dt=> .agg d.cells) aX Fh nx inv)(h0:TI X o Fh nx inv s0 k bx bo k (X.lD o) s0 k):
  SB Tryz.prog revoke_Index_threats_1.f [.yl y,.ptr bx 0,.ptr bo 0] (TG X o bx bo++Fh s0) k (ir aX) fun r F=>r= .dM []∧∃ s',TI X o Fh nx inv s0 k bx bo (k+ir aX) [] s' (k+ir aX)∧F=TG X o bx bo++Fh s':=by
 have hyk:y<k:=by
  obtain ⟨ob,ho⟩:=Option.ne_none_iff_exists'.1 (hy.pK s0)
  simpa using (Hp.dH h0.own.okF ho).1
 obtain ⟨n1,n2,n3,n4,n5⟩:=h0.nd
 refine revoke_Index_threats_1.enter (by simp [SV.ok,SV.ay];omega) h0.own.rR (by simp) ?_
 dsimp only [revoke_Index_threats_1.s,Co.M,Co.G,Co.J,Co.H,Co.N,Co.F,Co.C,Co.Z,Co.B,Co.b8,Co.aB,Co.bL,Co.i6,Co.z8,Co.bU]
 have f1:=bA n1
 have f2:=wG n2
 have f3:=wG n3
 have hnk:ir aX=1000000*(1+1000000*(1+aX)):=rfl
 obtain ⟨C,hC⟩:∃ C,1+1000000*(1+aX)=C:=⟨_,rfl⟩
 rw [hC] at hnk
 have hkk:∀ s kk (env:List (Nat×SV)) (hp:Hp) (kq:Nat),gW (TG X o bx bo) Fh s kk→(∃ j,inv s j)→k≤kk→(∀ n ob,lk (TG X o bx bo++Fh s) n=some ob→lk hp n=some ob)→∀ {pG:List (Nat×SV)},aY id kk env pG→aJ k ⟨env,hp,kq⟩ ⟨pG,TG X o bx bo++Fh s,kk⟩ id:=fun s kk env hp kq hO ⟨j,hj⟩ hk hh pG he=>aJ.own hO (hy.nd s j hj) hk he hh
 have fin:∀ (s':σ),TI X o Fh nx inv s0 k bx bo (k+ir aX) [] s' (k+ir aX)→Go.Sl.Fin k (ir aX) [] (fun r F=>r= .dM []∧∃ s',TI X o Fh nx inv s0 k bx bo (k+ir aX) [] s' (k+ir aX)∧F=TG X o bx bo++Fh s') ⟨[],TG X o bx bo++Fh s',k+ir aX⟩:=fun s' h=>End.mk (TG X o bx bo++Fh s') (h3:=fun _ _ h=>h) (h4:=⟨rfl,s',h,rfl⟩) (h6:=h.own.rR) (h7:=Nat.le_refl _)
 obtain ⟨L,hL⟩:∃ L,X.kE o.dot=L:=⟨_,rfl⟩
 have hlk:=su X.ch o.dot
 change fH _ _ _=dn (X.kE o.dot) at hlk
 have hLl:=hX.ch o.dot
 rw [hL] at hlk hLl
 have o2:List.take 2 o.cells=o.dot.cells:=rfl
 have hmul:∀ i,i≤L.length→i*C≤ir aX:=fun i hi=>by rw [hnk];exact Nat.mul_le_mul_right C (by omega)
 simp only [TG,Ix.h0,List.cons_append,List.nil_append]
 refine SW.seq ?_
 apply later
 ·intro late
  rcases hLc:L with _ | ⟨c,L'⟩
  ·have hlk0:fH (an Dt.cells dn X.ch) (.d .aU) (MM.idx X.ch o.dot)= .d .aU:=by rw [hlk,hLc];rfl
   refine SW.g0 [0,1,2,5,7,14,15,16,17,25,26,27,28,45] mixed (And.intro (hlk0) (And.intro (o2) (And.intro (f1) (And.intro (f2) (f3))))) ?_
   refine SW.aU 14 rfl ?_
   refine SW.weak id (st1:=⟨[(16,i64 (0:Nat)),(15,i64 L.length),(14,bS L),(0,.yl y),(1,.ptr bx 0),(2,.ptr bo 0)],TG X o bx bo++Fh s0,k⟩) (hkk s0 k _ _ _ h0.own ⟨_,h0.h2⟩ (Nat.le_refl _) (fun _ _ h=>h) (by rw [hLc];simp [aY,List.lookup,SV.aC,SV.ok,SV.ay];omega)) late.c
  ·have hlk0:fH (an Dt.cells dn X.ch) (.d .aU) (MM.idx X.ch o.dot)=bS (c::L'):=by rw [hlk,hLc];rfl
   refine SW.g0 [0,1,2,5,7,14,15,16,17,25,26,27,28,45] mixed (And.intro (hlk0) (And.intro (o2) (And.intro (f1) (And.intro (f2) (f3))))) ?_
   refine SW.weak id (st1:=⟨[(16,i64 (0:Nat)),(15,i64 L.length),(14,bS L),(0,.yl y),(1,.ptr bx 0),(2,.ptr bo 0)],TG X o bx bo++Fh s0,k⟩) (hkk s0 k _ _ _ h0.own ⟨_,h0.h2⟩ (Nat.le_refl _) (fun _ _ h=>h) (by rw [hLc];simp [aY,List.lookup,SV.aC,SV.ok,SV.ay];omega)) late.c
 refine SW.block ?_
 refine SW.loop (α:={i:Nat×σ×Nat // (i.1≤L.length∧k≤i.2.2)∧TI X o Fh nx inv s0 k bx bo (k+i.1*C) (X.qd o i.1) i.2.1 i.2.2})
  (fun i=>⟨[(16,i64 i.1.1),(15,i64 L.length),(14,bS L),(0,.yl y),(1,.ptr bx 0),(2,.ptr bo 0)],TG X o bx bo++Fh i.1.2.1,i.1.2.2⟩)
  (fun i=>L.length - i.1.1) ⟨(0,s0,k),⟨Nat.zero_le _,Nat.le_refl _⟩,by show TI X o Fh nx inv s0 k bx bo (k+0*C) (X.qd o 0) s0 k;rw [Nat.zero_mul];exact h0⟩ id ?_ ?_
 ·exact hkk s0 k _ _ _ h0.own ⟨_,h0.h2⟩ (Nat.le_refl _) (fun _ _ h=>h) (by simp [aY,List.lookup,SV.aC,SV.ok,SV.ay];omega)
 rintro ⟨⟨i,s,kk⟩,hi⟩
 have hi:(i≤L.length∧k≤kk)∧TI X o Fh nx inv s0 k bx bo (k+i*C) (X.qd o i) s kk:=hi
 obtain ⟨⟨p1,p2⟩,p3⟩:=hi
 dsimp only at*
 have hmi:=hmul i p1
 by_cases h:i<L.length
 ·have h1:decide ((i:Int)<L.length)=true:=by simp only [decide_eq_true_eq];omega
  obtain ⟨c,hx⟩:=br h
  have t2:IntKind.i64.wrap ((i:Int)+1)=((i+1:Nat):Int):=wrap_i64 _ (by omega)
  have h41:=p3.h4
  have z0:=bA (show kk≠bx by omega)
  have z1:=bA (show kk≠bo by omega)
  have z2:=wG (k:=kk) ⟨by omega,by omega,by omega,by omega⟩
  have g2:List.lookup kk (Fh s)=none:=p3.own.out (Nat.le_refl _)
  simp only [TG,Ix.h0,List.cons_append,List.nil_append]
  refine SW.seq ?_
  refine SW.g0 [0,1,2,5,7,14,15,16,17,25,26,27,28,45] mixed (h1) ?_
  refine SW.seq (SW.ah rfl (SW.skip ?_))
  refine SW.seq (SW.block (SW.seq ?_))
  refine SW.g0 [0,1,2,5,7,14,15,16,17,25,26,27,28,45] mixed (And.intro (gI hx) (And.intro (f1) (And.intro (f2) (And.intro (f3) (And.intro (z0) (And.intro (z1) (And.intro (z2) (g2)))))))) ?_
  refine SW.seq ?_
  obtain ⟨R,hR⟩:∃ R,X.nj c=R:=⟨_,rfl⟩
  have hlk2:=su X.jV c
  change fH _ _ _=dn (X.nj c) at hlk2
  have hRl:=hX.rv c
  rw [hR] at hlk2 hRl
  have hrI:=X.D0 o (by rw [hL];exact hx)
  rw [hR] at hrI
  have hO1:gW ((kk,.box 37 c.cells)::TG X o bx bo) Fh s (kk+1):=gW.new p3.own (Nat.le_refl _) (Nat.lt_succ_self _) (Dt.ai _ _)
  have p4:TI X o Fh nx inv s0 k bx bo (k+i*C+1+0*(1+aX)) (X.mC o i R 0) s (kk+1):=p3.cut hrI.symm (Nat.le_succ _) (by have:=p3.h3;omega)
  have hw1:∀ (env pG:List (Nat×SV)) (kq:Nat),aY id (kk+1) env pG→aJ k ⟨env,((kk,.box 37 c.cells)::TG X o bx bo)++Fh s,kq⟩ ⟨pG,TG X o bx bo++Fh s,kk+1⟩ id:=fun env pG kq he=>hkk s (kk+1) _ _ _ p4.own ⟨_,p4.h2⟩ (by omega) (hO1.keep (fun z hz=>List.mem_cons_of_mem _ hz)) he
  apply later
  ·intro late
   rcases hRc:R with _ | ⟨t0,R'⟩
   ·have hlk0:fH (an Dt.cells dn X.jV) (.d .aU) (MM.idx X.jV c)= .d .aU:=by rw [hlk2,hRc];rfl
    refine SW.g0 [0,1,2,5,7,14,15,16,17,25,26,27,28,45] mixed (And.intro (hlk0) (And.intro (f1) (And.intro (f2) (And.intro (f3) (And.intro (z0) (And.intro (z1) (And.intro (z2) (g2)))))))) ?_
    refine SW.aU 25 rfl ?_
    refine SW.weak id (st1:=⟨[(27,i64 (0:Nat)),(26,i64 R.length),(25,bS R),(16,i64 i),(15,i64 L.length),(14,bS L),(0,.yl y),(1,.ptr bx 0),(2,.ptr bo 0)],TG X o bx bo++Fh s,kk+1⟩) (hw1 _ _ _ (by rw [hRc];simp [aY,List.lookup,SV.aC,SV.ok,SV.ay];omega)) late.c
   ·have hlk0:fH (an Dt.cells dn X.jV) (.d .aU) (MM.idx X.jV c)=bS (t0::R'):=by rw [hlk2,hRc];rfl
    refine SW.g0 [0,1,2,5,7,14,15,16,17,25,26,27,28,45] mixed (And.intro (hlk0) (And.intro (f1) (And.intro (f2) (And.intro (f3) (And.intro (z0) (And.intro (z1) (And.intro (z2) (g2)))))))) ?_
    refine SW.weak id (st1:=⟨[(27,i64 (0:Nat)),(26,i64 R.length),(25,bS R),(16,i64 i),(15,i64 L.length),(14,bS L),(0,.yl y),(1,.ptr bx 0),(2,.ptr bo 0)],TG X o bx bo++Fh s,kk+1⟩) (hw1 _ _ _ (by rw [hRc];simp [aY,List.lookup,SV.aC,SV.ok,SV.ay];omega)) late.c
  refine SW.block ?_
  refine SW.loop (α:={q:Nat×σ×Nat // (q.1≤R.length∧k≤q.2.2)∧TI X o Fh nx inv s0 k bx bo (k+i*C+1+q.1*(1+aX)) (X.mC o i R q.1) q.2.1 q.2.2})
   (fun q=>⟨[(27,i64 q.1.1),(26,i64 R.length),(25,bS R),(16,i64 i),(15,i64 L.length),(14,bS L),(0,.yl y),(1,.ptr bx 0),(2,.ptr bo 0)],TG X o bx bo++Fh q.1.2.1,q.1.2.2⟩)
   (fun q=>R.length - q.1.1) ⟨(0,s,kk+1),⟨Nat.zero_le _,by show k≤kk+1;omega⟩,p4⟩ id ?_ ?_
  ·exact hkk s (kk+1) _ _ _ p4.own ⟨_,p4.h2⟩ (by omega) (fun _ _ h=>h) (by simp [aY,List.lookup,SV.aC,SV.ok,SV.ay];omega)
  rintro ⟨⟨j,s1,kj⟩,hj'⟩
  have hj':(j≤R.length∧k≤kj)∧TI X o Fh nx inv s0 k bx bo (k+i*C+1+j*(1+aX)) (X.mC o i R j) s1 kj:=hj'
  obtain ⟨⟨q1,q2⟩,q3⟩:=hj'
  dsimp only at*
  clear p4 hw1 hO1 g2 z0 z1 z2 p3 h41
  have hmj:j*(1+aX)≤1000000*(1+aX):=Nat.mul_le_mul_right _ (by omega)
  by_cases hj:j<R.length
  ·have k1:decide ((j:Int)<R.length)=true:=by simp only [decide_eq_true_eq];omega
   obtain ⟨t,ht⟩:=br hj
   have k2:IntKind.i64.wrap ((j:Int)+1)=((j+1:Nat):Int):=wrap_i64 _ (by omega)
   have hgt:=X.Bf o i ht
   have h41:=q3.h4
   have hmj1:(j+1)*(1+aX)=j*(1+aX)+(1+aX):=by rw [Nat.add_mul,Nat.one_mul]
   have h3':=q3.h3
   have z0:=bA (show kj≠bx by omega)
   have z1:=bA (show kj≠bo by omega)
   have z2:=wG (k:=kj) ⟨by omega,by omega,by omega,by omega⟩
   have g2:List.lookup kj (Fh s1)=none:=q3.own.out (Nat.le_refl _)
   have hO1:gW ((kj,.box 37 t.cells)::TG X o bx bo) Fh s1 (kj+1):=gW.new q3.own (Nat.le_refl _) (Nat.lt_succ_self _) (Dt.ai _ _)
   have hO0:gW (TG X o bx bo) Fh s1 (kj+1):=q3.own.mono (Nat.le_succ _)
   simp only [TG,Ix.h0,List.cons_append,List.nil_append]
   refine SW.seq ?_
   refine SW.g0 [0,1,2,5,7,14,15,16,17,25,26,27,28,45] mixed (k1) ?_
   refine SW.seq (SW.ah rfl (SW.skip ?_))
   refine SW.seq (SW.block (SW.seq ?_))
   refine SW.g0 [0,1,2,5,7,14,15,16,17,25,26,27,28,45] mixed (And.intro (gI ht) (And.intro (f1) (And.intro (f2) (And.intro (f3) (And.intro (z0) (And.intro (z1) (And.intro (z2) (g2)))))))) ?_
   refine SW.seq ?_
   obtain ⟨r,hr⟩:∃ r,(MM.get X.ops t).getD ag.zero=r:=⟨_,rfl⟩
   have hrt:X.op t=r:=hr
   rw [hrt] at hgt
   have hb:=jH o r
   rcases hbr:o.before r with _ | _
   ·rw [hbr] at hb hgt
    simp only [Bool.false_eq_true,if_false] at hgt
    have hinv:inv s1 ((X.mC o i R (j+1)).length+1):=by
     have:=q3.h2
     rw [hgt] at this
     exact this
    obtain ⟨c1,c2,c3,c4⟩:=hy.call s1 t (kj+1) _ hinv (Hp.bE (Nat.le_succ _) q3.own.okF)
    have hsubF:HSub (Fh s1) ((kj,.box 37 t.cells)::(bx,.box 27 [.ptr 0 0])::(bo,.box 43 o.cells)::(0,.box 110 [.any,.mp 1,.mp 2,.mp 3])::(1,.map (an Dt.cells ov X.ops) X.co)::(2,.map (an Dt.cells dn X.ch) X.cc)::(3,.map (an Dt.cells dn X.jV) X.cf)::Fh s1):=hO1.sub
    have hin:=hy.pK s1
    generalize hs2:nx s1 t (kj+1)=s2 at c1 c2 c3 c4
    (have fx:=(And.intro (hr) (And.intro (f1) (And.intro (f2) (And.intro (f3) (And.intro (z0) (And.intro (z1) (And.intro (z2) (g2))))))));refine SW.dL [0,1,2,5,7,14,15,16,17,25,26,27,28,45] mixed ?_;(repeat (first | refine RW.ro fx (h:= ?_) | refine RW.skip (h:= ?_) | refine RW.op fx (h:= ?_) | refine RW.eF fx (h:= ?_) | refine RW.bH (h:= ?_) | (refine RW.vW rfl rfl c1 hin hsubF (.inr ⟨_,_,rfl,rfl⟩) (h:= ?_);intro H hH) | (refine RW.bJ (h:= ?_);(first | refine ak.mk fx (hc:=hb _) (h:= ?_)))));refine RW.nil ⟨dY (by simp [iZ,qu,eG,cg,List.range,List.range.loop,f1,f2,f3,z0,z1,z2] <;> (first | decide | (repeat (first | assumption | refine ⟨?_,?_⟩ | exact .inl (by decide) | exact .inl (.inr (by decide)) | exact .inl (.inl (by decide)) | refine .inr ?_)))),au.mk (h:= ?_)⟩)
    have hO2:gW ((kj,.box 37 t.cells)::TG X o bx bo) Fh s2 (kj+1+aX):=Ad hO1 (by omega) c3 c4
    have hO3:gW (TG X o bx bo) Fh s2 (kj+1+aX):=hO2.less (List.sublist_cons_self _ _)
    have hlkH:=tS hO1 hO2 hH
    refine SW.aj rfl (SW.skip ?_)
    refine SW.g0 [0,1,2,5,7,14,15,16,17,25,26,27,28,45] mixed (k2) ?_
    obtain ⟨xs,e1,e2⟩:=q3.h1
    refine ⟨⟨(j+1,s2,kj+1+aX),⟨by show j+1≤_;omega,by show k≤kj+1+aX;omega⟩,⟨⟨xs++[t],.snoc e1 ⟨_,hs2.symm⟩,by rw [e2,hgt];simp⟩,c2,hO3,by show kj+1+aX≤k+i*C+1+(j+1)*(1+aX);omega,by show 4≤kj+1+aX;omega,fun n hn=>(c4 n hn).elim (q3.nm n) fun h=> .inr (by omega)⟩⟩,id,by show R.length - (j+1)<R.length - j;omega,?_⟩
    exact hkk s2 _ _ _ _ hO3 ⟨_,c2⟩ (by omega) (fun n ob hn=>hlkH n ob (hO2.keep (fun z hz=>List.mem_cons_of_mem _ hz) n ob hn)) (by simp [aY,List.lookup,SV.aC,SV.ok,SV.ay];omega)
   ·rw [hbr] at hb hgt
    simp only [if_true] at hgt
    refine SW.g1 [0,1,2,5,7,14,15,16,17,25,26,27,28,45] mixed (And.intro (hr) (And.intro (f1) (And.intro (f2) (And.intro (f3) (And.intro (z0) (And.intro (z1) (And.intro (z2) (g2)))))))) hb ?_
    refine SW.aj rfl (SW.skip ?_)
    refine SW.g0 [0,1,2,5,7,14,15,16,17,25,26,27,28,45] mixed (k2) ?_
    refine ⟨⟨(j+1,s1,kj+1),⟨by show j+1≤_;omega,by show k≤kj+1;omega⟩,q3.cut hgt.symm (Nat.le_succ _) (by show kj+1≤k+i*C+1+(j+1)*(1+aX);omega)⟩,id,by show R.length - (j+1)<R.length - j;omega,?_⟩
    exact hkk s1 _ _ _ _ hO0 ⟨_,q3.h2⟩ (by omega) (hO1.keep (fun z hz=>List.mem_cons_of_mem _ hz)) (by simp [aY,List.lookup,SV.aC,SV.ok,SV.ay];omega)
  ·have k1:decide ((j:Int)<R.length)=false:=by simp only [decide_eq_false_iff_not];omega
   refine SW.seq ?_
   refine SW.g0 [0,1,2,5,7,14,15,16,17,25,26,27,28,45] mixed (k1) ?_
   have hjl:j=R.length:=by omega
   rw [hjl] at q3
   refine SW.seq (SW.aj rfl (SW.exit ?_))
   refine (?_:Sl.SW _ _ _ _ _ _)
   refine SW.g0 [0,1,2,5,7,14,15,16,17,25,26,27,28,45] mixed (t2) ?_
   have hb1:(i+1)*C=i*C+C:=by rw [Nat.add_mul,Nat.one_mul]
   have h3':=q3.h3
   rw [← hjl] at h3'
   refine ⟨⟨(i+1,s1,kj),⟨by show i+1≤_;omega,q2⟩,q3.cut (X.Be o i (Nat.le_refl _)).symm (Nat.le_refl _) (by show kj≤k+(i+1)*C;omega)⟩,id,by show L.length - (i+1)<L.length - i;omega,?_⟩
   exact hkk s1 kj _ _ _ q3.own ⟨_,q3.h2⟩ q2 (fun _ _ h=>h) (by simp [aY,List.lookup,SV.aC,SV.ok,SV.ay];omega)
 ·have h1:decide ((i:Int)<L.length)=false:=by simp only [decide_eq_false_iff_not];omega
  refine SW.seq ?_
  refine SW.g0 [0,1,2,5,7,14,15,16,17,25,26,27,28,45] mixed (h1) ?_
  have p5:=p3.cut (k':=k+ir aX) (b':=k+ir aX) (r':=[]) (X.Bd o (by rw [hL];omega)).symm (by have:=p3.h3;omega) (Nat.le_refl _)
  refine SW.seq (SW.aj rfl (SW.weak id (hkk s (k+ir aX) _ _ _ p5.own ⟨_,p5.h2⟩ (Nat.le_add_right _ _) (fun _ _ h=>h) (pG:=[]) trivial) (SW.exit ?_)))
  exact fin s p5
end
end
section
noncomputable def Ij (l:List ag)(o:ag):List Dt:=if o.kind=0 then [] else (mV (a_ l).at_ o.aK).map (·.dot)
theorem cN.kE {l:List ag}{S:Sh}(h:cN l S)(o:ag):S.kE o=Ij l o:=by unfold Sh.kE Ij;rw [h.base.tr]
noncomputable def Sh.lD (S:Sh)(ds:List Dt)(o:ag):List Dt:=(S.kE o).flatMap fun c=>(ds.filter (S.rv c)).filter fun t=> !o.before (S.op t)
theorem Sh.sx {S:Sh}{ds:List Dt}{o:ag}{t:Dt}:t∈S.lD ds o↔t∈ds∧S.good t=true∧(S.op t).kind=2∧(S.op t).at_∈S.kE o∧o.before (S.op t)=false:=by
 unfold Sh.lD Sh.rv
 simp only [List.mem_flatMap,List.mem_filter,Bool.and_eq_true,decide_eq_true_eq,Bool.not_eq_true']
 constructor
 ·rintro ⟨c,hc,⟨h1,h2,h3,rfl⟩,h4⟩
  exact ⟨h1,h2,h3,hc,h4⟩
 ·rintro ⟨h1,h2,h3,h4,h5⟩
  exact ⟨_,h4,⟨h1,h2,h3,rfl⟩,h5⟩
end
end Go.Proofs.YtaelhkkjgfobhaaGreat
