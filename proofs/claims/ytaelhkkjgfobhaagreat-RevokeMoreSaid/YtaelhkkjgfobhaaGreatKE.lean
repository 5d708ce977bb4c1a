/-
 Sorting a row by a function: the kit's contract of slices.SortFunc as one of this logic.
-/
import Derived.Test.YtaelhkkjgfobhaaGreatK5
import Derived.Shelf.SlSortCmp.NoneTotal
import Derived.Test.YtaelhkkjgfobhaaGreatK6
import Derived.Test.YtaelhkkjgfobhaaGreatKV
import Derived.Test.YtaelhkkjgfobhaaGreatKA
import Derived.Test.YtaelhkkjgfobhaaGreatK4
import Derived.Test.YtaelhkkjgfobhaaGreatChecked
set_option linter.unusedVariables false
set_option linter.unusedSimpArgs false
set_option linter.unusedSectionVars false
namespace Go.Sl
open Go.RowKit Go.Sort Go.Proofs Go.Shelf
variable {P:Program}
structure Elem {A:Type}(ds:A→List DV)(M:Mem) where
 cells:List Value
 mod:A
 rep:aR (fun _=>False) (fun _=>⟨0,0,true⟩) M ((ds mod).map .d) cells
theorem aR.FL {p:Nat→Prop}{μ:Nat→Nm}{M:Mem}{xs:List DV}{vs:List Value}(h:aR p μ M (xs.map .d) vs)(p':Nat→Prop)(aZ:Nat→Nm):aR p' aZ M (xs.map .d) vs:=by
 induction xs generalizing vs with
 | nil=>exact aR.aP.2 (aR.aP.1 h)
 | cons x xs ih=>
  obtain ⟨u,us,e,h1,h2⟩:=aR.aF.1 h
  exact aR.aF.2 ⟨u,us,e,Rp.cu.2 (Rp.cu.1 h1),ih h2⟩
theorem tJ {A:Type}(ds:A→List DV){p:Nat→Prop}{μ:Nat→Nm}{M:Mem}:∀ (l:List A) (us:List Value),aR p μ M ((l.flatMap ds).map .d) us→
  ∃ es:List (Elem ds M),es.map (·.mod)=l∧es.flatMap (·.cells)=us
 | [],us,h=>⟨[],rfl,by simpa using (aR.aP.1 h).symm⟩
 | x::l,us,h=>by
  have h1:aR p μ M ((ds x).map .d) (us.take (ds x).length):=by simpa using aR.take (ds x).length h
  have h2:aR p μ M ((l.flatMap ds).map .d) (us.drop (ds x).length):=by simpa using aR.drop (ds x).length h
  obtain ⟨es,e1,e2⟩:=tJ ds l _ h2
  exact ⟨⟨us.take (ds x).length,x,h1.FL _ _⟩::es,by simp [e1],by simp [e2]⟩
theorem tK {A:Type}(ds:A→List DV){p:Nat→Prop}{μ:Nat→Nm}{M:Mem}:∀ (es:List (Elem ds M)),aR p μ M (((es.map (·.mod)).flatMap ds).map .d) (es.flatMap (·.cells))
 | []=>aR.aP.2 rfl
 | x::es=>by
  have:=aR.append (x.rep.FL p μ) (tK ds es)
  simpa using this
theorem tL {A:Type}{ds:A→List DV}{M:Mem}[Inhabited (Elem ds M)]{k:Nat}(hk:∀ x:Elem ds M,x.cells.length=k)(es:List (Elem ds M)):(flatK (fun x:Elem ds M=>x.cells) k es.toArray).toList=es.flatMap (·.cells):=by
 have hl:=dw (fun x:Elem ds M=>x.cells) k hk es
 apply List.ext_getElem?
 intro t
 by_cases ht:t<es.length*k
 ·have mH:0<k:=by
    rcases Nat.eq_zero_or_pos k with h | h;· subst h;simp at ht
    ·exact h
  have hi:t / k<es.length:=Nat.div_lt_of_lt_mul (by rwa [Nat.mul_comm] at ht)
  have e1:=sR (fun x:Elem ds M=>x.cells) k hk es (t / k) (t % k) es[t / k] (List.getElem?_eq_getElem hi) (Nat.mod_lt _ mH)
  have e2:t / k*k+t % k=t:=by rw [Nat.mul_comm];exact Nat.div_add_mod t k
  rw [e2] at e1
  rw [e1]
  have e3:=get_flatK (fun x:Elem ds M=>x.cells) k es.toArray t (by simpa using ht)
  have e4:t<(flatK (fun x:Elem ds M=>x.cells) k es.toArray).size:=by simpa using ht
  have hc:t % k<es[t / k].cells.length:=by rw [hk];exact Nat.mod_lt _ mH
  rw [getElem!_pos _ t e4] at e3
  rw [Array.getElem?_toList,Array.getElem?_eq_getElem e4,e3]
  simp [hi,hc]
 ·rw [List.getElem?_eq_none (by simpa using ht),List.getElem?_eq_none (by rw [hl];omega)]
theorem Ev.grown {new:Nat→Prop}{μ aZ:Nat→Nm}{M M':Mem}{w w':World}{c':Nat→Option Ob}(h:Ev (lk []) new μ M w c' aZ M' w'):∃ q os,w'=grow (w.drewN q) os:=by
 refine ⟨w'.drawn - w.drawn,w'.heap.extract w.heap.size w'.heap.size,?_⟩
 have hh:w'.heap=w.heap++w'.heap.extract w.heap.size w'.heap.size:=by
  apply Array.ext_getElem?
  intro i
  rw [Array.getElem?_append]
  split
  ·rename_i hi
   exact (h.frame i hi fun n hn=>by simp [bt] at hn).1
  ·rename_i hi
   rw [Array.getElem?_extract]
   have:=h.size
   split
   ·rw [show w.heap.size+(i - w.heap.size)=i by omega]
   ·rename_i hj
    rw [Array.getElem?_eq_none (by omega)]
 have h1:=h.os
 have h2:=h.tape
 have h3:=h.output
 have hd:w'.drawn=w.drawn+(w'.drawn - w.drawn):=by have:=h2.2;omega
 obtain ⟨a,b,c,d,e⟩:=w'
 obtain ⟨a',b',c',d',e'⟩:=w
 simp only [grow,World.drewN]
 simp only at hh h1 h2 h3 hd
 replace h2:=h2.1
 simp only at h2
 subst h1;subst h2;subst h3
 rw [← hd,← hh]
theorem SC.Dz {ρ:Ren}{A:Type}(L:SlLaysF0.n6 P ρ)(sz:Nat)(aE:∀ w,(isAgg (ρ.t 24)).run P w= .ok true w)(zE:∀ w,(Go.sizeOf (ρ.t 24)).run P w= .ok sz w)(BW:je P (ρ.f 6)=true)
  (ds:A→List DV) (hds:∀ x,(ds x).length=sz) (cf:A→A→Int) (hO:SWO (ltOf cf)) (g:Nat) (HW:List SV) (hg:je P g=true)
  (hcmp:∀ (x y:A) (k:Nat),aM P g ([.agg ((ds x).map .d),.agg ((ds y).map .d)]++HW) [] k 0 (.d (.int .i64 (cf x y))) []) (n e:Nat) (l:List A) (hl:l.length<4611686018427387904) (k:Nat):
  SC P (ρ.f 6) [.gs n l.length,.fn (.func g) [] HW] [(n,.arr e sz l.length ((l.flatMap ds).map .d))] k 0
   (fun r F'=>r= .dM []∧∃ l':List A,l'.Perm l∧l'.Pairwise (fun a b=>ltOf cf b a=false)∧F'=[(n,.arr e sz l.length ((l'.flatMap ds).map .d))]):=by
 refine ⟨BW,fun p μ M w vals hp hr hS=> ?_⟩
 obtain ⟨u1,us,e1,r1,r2⟩:=aR.aF.1 hr
 obtain ⟨u2,us2,e2,r3,r4⟩:=aR.aF.1 r2
 have e3:=aR.aP.1 r4
 subst e3;subst e2
 obtain ⟨fs,cs,rfl,ra,rc⟩:=Rp.qj.1 r3
 have ra':=aR.aP.1 ra
 have hvals:vals= #[u1,.func (.func g) fs cs]:=by cases vals;simpa using e1
 have has:fs= #[]:=by cases fs;simpa using ra'
 subst has;subst hvals
 obtain ⟨hpn,bn,hMn⟩:=hS.obs n (.arr e sz l.length ((l.flatMap ds).map .d)) (by simp [bZ])
 by_cases h0:l=[]
 ·subst h0
  have fQ:∃ A cap,u1= .slice A 0 cap:=by
   rcases r1.jZ with ⟨_,rfl⟩ | ⟨_,_,A,rfl⟩ <;> exact ⟨_,_,rfl⟩
  obtain ⟨A',cap,rfl⟩:=fQ
  refine (AnyF.slices_SortFunc_none L A' cap (.func (.func g) #[] cs) w).mono ?_
  rintro e w' ⟨rfl,rfl⟩
  exact ⟨.dM [],_,μ,M,.tuple #[],rfl,⟨rfl,[],List.Perm.refl _,List.Pairwise.nil,rfl⟩,Rp.dP.2 ⟨#[],rfl,aR.aP.2 rfl⟩,hS.more fun n h=> .inl h,Ev.refl _ _ _ _ _ fun n _ h=>by omega⟩
 ·have hpos:0<l.length:=by cases l with
   | nil=>exact absurd rfl h0
   | cons x l=>simp
  rcases bn with ⟨_,hz,_⟩ | ⟨hlive,vs,hb,q1,q2,q3,q4,hrow⟩
  ·omega
  have hMn:=hMn hlive
  obtain ⟨_,rfl⟩:(μ n).live=true∧u1= .slice (some ⟨(μ n).blk,0,none⟩) l.length (μ n).cap:=by
   rcases r1.jZ with h | ⟨h,_⟩
   ·exact h
   ·rw [hlive] at h;cases h
  obtain ⟨es,m1,m2⟩:=tJ ds l _ hrow
  have hlen:es.length=l.length:=by rw [← m1];simp
  have hk:∀ x:Elem ds M,x.cells.length=sz:=fun x=>by
   have:=x.rep.length
   rw [this];simp [hds]
  have:Inhabited (Elem ds M):=⟨es[0]'(by omega)⟩
  have hone:∀ x:Elem ds M,∀ v∈x.cells,v.oneCell'=true:=fun x=>aR.BK (by simp [SV.dG]) x.rep
  have hblk:(μ n).blk<w.heap.size:=(Array.getElem?_eq_some_iff.1 hb).1
  have hfl:=tL (k:=sz) hk es
  have hcut:sz*l.length≤vs.size:=by rw [q4,Nat.mul_comm];exact Nat.mul_le_mul_right _ q2
  have hH:HoldsK (fun x:Elem ds M=>x.cells) sz w (μ n).blk 0 es.toArray:=by
   intro j hj
   have hj':j<l.length*sz:=by simpa [hlen] using hj
   have hgot:(flatK (fun x:Elem ds M=>x.cells) sz es.toArray)[j]! =vs[j]! :=by
    have hv:j<vs.size:=by rw [Nat.mul_comm] at hcut;omega
    rw [getElem!_pos _ j hj,getElem!_pos vs j hv]
    have:=congrArg (fun l=>l[j]?) (hfl.trans m2)
    simp only [Array.getElem?_toList,List.getElem?_take,hj',if_true,Array.getElem?_eq_getElem hj,Array.getElem?_eq_getElem hv] at this
    exact Option.some.inj this
   have hv:j<vs.size:=by rw [Nat.mul_comm] at hcut;omega
   refine ⟨?_,?_⟩
   ·rw [Nat.zero_add,cell_of hb,hgot,getElem!_pos vs j hv,Array.getElem?_eq_getElem hv];rfl
   ·simp [World.frozen?,hb]
  have hmem:∀ (q:Nat) (os:Array Obj) (dk:Array (Elem ds M)) (b o:Nat) (v:Value),M b o=some v→(sortWorldK (fun x:Elem ds M=>x.cells) sz w (μ n).blk 0 q dk os).cell? ⟨b,o,none⟩=some v:=by
   intro q os dk b o v hv
   have hbn:b≠(μ n).blk:=fun e=>by rw [e,hMn] at hv;cases hv
   have hc:=hS.mem b o v hv
   have hlt:=World.block_lt_of_cell? w ⟨b,o,none⟩ hc
   unfold sortWorldK
   have hsz:(putRowK (fun x:Elem ds M=>x.cells) sz (Sort.ahead w q) (μ n).blk 0 dk).heap.size=w.heap.size:=by
    unfold putRowK putRow mapBlock
    simp [Sort.ahead]
   rw [cell?_grow _ _ _ (by show b<_;rw [hsz];exact hlt),cell?_putRowK_other _ _ _ _ _ _ _ hbn]
   exact hc
  have hC:CmpLays P g cs (fun x:Elem ds M=>x.cells) sz (fun x y=>cf x.mod y.mod) (μ n).blk 0 es.toArray.size w:=by
   intro q os dk hdk x y
   have hargs:aR p μ M ([.agg ((ds x.mod).map .d),.agg ((ds y.mod).map .d)]++HW) (#[.agg x.cells.toArray,.agg y.cells.toArray]++cs:Array Value).toList:=by
    have a1:Rp p μ M (.agg ((ds x.mod).map .d)) (.agg x.cells.toArray):=Rp.ez.2 ⟨_,rfl,by simpa using x.rep.FL p μ⟩
    have a2:Rp p μ M (.agg ((ds y.mod).map .d)) (.agg y.cells.toArray):=Rp.ez.2 ⟨_,rfl,by simpa using y.rep.FL p μ⟩
    have:=aR.append (aR.aF.2 ⟨_,_,rfl,a1,aR.aF.2 ⟨_,_,rfl,a2,aR.aP.2 rfl⟩⟩) rc
    simpa using this
   refine ((hcmp x.mod y.mod k).2 p μ M (sortWorldK (fun x:Elem ds M=>x.cells) sz w (μ n).blk 0 q dk os) _ (fun n hn=>by omega) hargs ⟨⟨fun b o v hv=>hmem q os dk b o v hv,hS.mem.j9⟩,fun n ob hn=>by simp [bt] at hn,fun n m hn=>by simp [bt] at hn⟩).mono ?_
   rintro e w' ⟨r,F',aZ,M',u,rfl,⟨rfl,rfl⟩,hr',_,hE⟩
   refine ⟨?_,hE.grown⟩
   rw [Rp.aN.1 hr']
  have Kw:SWO (ltOf fun x y:Elem ds M=>cf x.mod y.mod):=⟨fun x=>hO.irrefl x.mod,fun x y z h1 h2=>hO.trans x.mod y.mod z.mod h1 h2,fun x y z h1 h2=>hO.ntrans x.mod y.mod z.mod h1 h2⟩
  have hsort:=AnyQ.slices_SortFunc L sz aE zE (fun x:Elem ds M=>x.cells) hk hone (fun x y=>cf x.mod y.mod) Kw g cs (μ n).blk 0 (μ n).cap es.toArray w (fun args w=>lS hg args) hC hH hblk (by simpa [hlen] using hl)
  rw [show es.toArray.size=l.length by simp [hlen]] at hsort
  refine hsort.mono ?_
  rintro e' w' ⟨rfl,d',q,os,hperm,hsorted,rfl⟩
  obtain ⟨p1,_,p3⟩:=hperm
  have hd':d'.size=l.length:=by rw [p1];simp [hlen]
  have p3:d'.toList.Perm es:=by
   have ea:d'.extract 0 l.length=d':=by rw [← hd'];simp
   have eb:es.toArray.extract 0 l.length=es.toArray:=by rw [← hlen];simp
   rw [ea,eb] at p3
   simpa using p3
  have hfl':=tL (k:=sz) hk d'.toList
  rw [Array.toArray_toList] at hfl'
  have hFs:(flatK (fun x:Elem ds M=>x.cells) sz d').size=l.length*sz:=by simp [hd']
  let vs':Array Value:=putCells id 0 (flatK (fun x:Elem ds M=>x.cells) sz d') vs
  have hvs':vs'.size=vs.size:=by simp [vs',putCells]
  have hput:(putRowK (fun x:Elem ds M=>x.cells) sz (Sort.ahead w q) (μ n).blk 0 d').heap[(μ n).blk]? =some (.cells vs' e (0,0)):=by
   unfold putRowK putRow mapBlock
   simp only [Sort.ahead,Array.getElem?_modify,if_true,hb,Option.map_some,onCells,vs']
  have hsz:(putRowK (fun x:Elem ds M=>x.cells) sz (Sort.ahead w q) (μ n).blk 0 d').heap.size=w.heap.size:=by
   unfold putRowK putRow mapBlock
   simp [Sort.ahead]
  have hother:∀ b,b<w.heap.size→b≠(μ n).blk→(sortWorldK (fun x:Elem ds M=>x.cells) sz w (μ n).blk 0 q d' os).heap[b]? =w.heap[b]? :=by
   intro b hbl hbn
   unfold sortWorldK
   rw [heap_grow_old _ _ (by rw [hsz];exact hbl)]
   unfold putRowK putRow mapBlock
   simp only [Sort.ahead,Array.getElem?_modify,if_neg (Ne.symm hbn)]
  have hnew:(sortWorldK (fun x:Elem ds M=>x.cells) sz w (μ n).blk 0 q d' os).heap[(μ n).blk]? =some (.cells vs' e (0,0)):=by
   unfold sortWorldK
   rw [heap_grow_old _ _ (by rw [hsz];exact hblk)]
   exact hput
  have htake:vs'.toList.take (l.length*sz)=d'.toList.flatMap (·.cells):=by
   rw [← hfl']
   apply List.ext_getElem?
   intro t
   rw [List.getElem?_take]
   by_cases ht:t<l.length*sz
   ·have h1:t<vs.size:=by rw [Nat.mul_comm] at hcut;omega
    have h2:t<(flatK (fun x:Elem ds M=>x.cells) sz d').size:=by rw [hFs];exact ht
    rw [if_pos ht,Array.getElem?_toList,Array.getElem?_toList,Array.getElem?_eq_getElem h2]
    simp only [vs',putCells,Array.getElem?_mapIdx,Array.getElem?_eq_getElem h1,Option.map_some,Nat.zero_le,true_and,Nat.zero_add,Nat.sub_zero,id]
    rw [if_pos h2,getElem!_pos _ t h2]
   ·rw [if_neg ht,Array.getElem?_toList,Array.getElem?_eq_none (by rw [hFs];omega)]
  refine ⟨.dM [],[(n,.arr e sz l.length (((d'.toList.map (·.mod)).flatMap ds).map .d))],μ,M,.tuple #[],rfl,⟨rfl,d'.toList.map (·.mod),?_,?_,rfl⟩,Rp.dP.2 ⟨#[],rfl,aR.aP.2 rfl⟩,⟨⟨fun b o v hv=>hmem q os d' b o v hv,hS.mem.j9⟩,fun m ob hm=> ?_,fun m m' hm hm' _ _ _=> ?_⟩,⟨fun _ _=>rfl,Mem.le_refl _,fun b hbl hf=>⟨hother b hbl fun ee=>hf n (by simp [bZ]) hlive ee.symm,fun _=>rfl⟩,?_,fun m hm=> ?_,rfl,⟨rfl,?_⟩,rfl⟩⟩
  ·rw [← m1];exact p3.map _
  ·rw [List.pairwise_map,List.pairwise_iff_getElem]
   intro i j hi hj hij
   have:=hsorted i j (Nat.zero_le _) hij (by rw [← hd'];simpa using hj)
   rwa [getElem!_pos d' j (by simpa using hj),getElem!_pos d' i (by simpa using hi)] at this
  ·rw [bZ] at hm
   split at hm
   ·rename_i ee;subst ee
    injection hm with hm;subst hm
    refine ⟨.inl hpn,.inr ⟨hlive,vs',hnew,?_,q2,q3,by rw [hvs'];exact q4,?_⟩,fun _=>hMn⟩
    ·have:=dw ds sz hds (d'.toList.map (·.mod))
     simp only [List.length_map,Array.length_toList] at this ⊢
     rw [this,hd']
    ·rw [htake]
     exact (tK ds d'.toList)
   ·cases hm
  ·rw [bZ] at hm hm'
   split at hm <;> split at hm' <;> first | omega | simp at hm hm'
  ·unfold sortWorldK
   rw [size_grow,hsz];omega
  ·rw [bZ] at hm
   split at hm
   ·rename_i ee;subst ee
    exact .inr ⟨by omega,by simp [bZ]⟩
   ·simp at hm
  ·show w.drawn≤w.drawn+q
   omega
end Go.Sl
namespace Go.Proofs.YtaelhkkjgfobhaaGreat
open Go.Sl Go.Proofs
section
attribute [local irreducible] SW RW aM SC ak au
def mX (l:List Dt):jo×Nat:=l.foldl (fun s d=>(MM.put s.1 s.2 d 1,MM.iU s.1 s.2 d)) ([],0)
theorem n9 (l:List Dt)(d:Dt):mX (l++[d])=(MM.put (mX l).1 (mX l).2 d 1,MM.iU (mX l).1 (mX l).2 d):=by simp [mX,List.foldl_append]
def yN (n:Nat)(l:List Dt):Hp:=[(n,.map (an Dt.cells iv (mX l).1) (mX l).2)]
theorem DA (l:List Dt)(hl:l.length<4611686018427387904):SB Tryz.prog dot_setOf.f [bS l] [] 0 1 fun r F=>r= .mp 0∧F=yN 0 l:=by
 refine dot_setOf.enter (by first | rfl | simp [SV.ok,SV.ay]) (by first | rfl | simp [Hp.ok,Ob.ok,SV.ok,SV.ay,aL.ai]) (by simp) ?_
 dsimp only [dot_setOf.s,Co.M,Co.G,Co.J,Co.H,Co.N,Co.F,Co.C,Co.Z,Co.B,Co.b8,Co.aB,Co.bL,Co.i6,Co.z8,Co.bU]
 (repeat (first | refine SW.seq ?_ | refine SW.block ?_ | refine SW.g0 [0,2,3,5,7,8,9,10] mixed af ?_ | refine SW.skip ?_ | refine SW.exit ?_ | refine SW.ret ?_ | refine SW.ah rfl ?_ | refine SW.aj rfl ?_))
 refine SW.gR (α:={i:Nat // i≤l.length}) (fun i=>⟨[(9,i64 i.1),(7,bS l),(8,i64 l.length),(3,.mp 0)],yN 0 (l.take i.1),1⟩) (fun i=>l.length - i.1) ⟨0,by omega⟩ id (And.intro (show yN 0 []=[(0,.map [] 0)] from rfl) af) (round:= ?_)
 rintro ⟨i,hi⟩
 by_cases h:i<l.length
 ·obtain ⟨x,hx⟩:=br h
  have h1:decide ((i:Int)<l.length)=true:=by simp;exact h
  simp only [yN]
  (repeat (first | refine SW.seq ?_ | refine SW.block ?_ | refine SW.g0 [0,2,3,5,7,8,9,10] mixed (And.intro (h1) (gI hx)) ?_ | refine SW.skip ?_ | refine SW.exit ?_ | refine SW.ret ?_ | refine SW.ah rfl ?_ | refine SW.aj rfl ?_))
  exact ⟨⟨i+1,by omega⟩,id,by simp;omega,aJ.mk (And.intro (f_ hx) (And.intro (n9 (l.take i) x) af))⟩
 ·have h1:decide ((i:Int)<l.length)=false:=by simp;omega
  have h2:i=l.length:=by omega
  subst h2
  simp only [yN,List.take_length]
  (repeat (first | refine SW.seq ?_ | refine SW.block ?_ | refine SW.g0 [0,2,3,5,7,8,9,10] mixed (h1) ?_ | refine SW.skip ?_ | refine SW.exit ?_ | refine SW.ret ?_ | refine SW.ah rfl ?_ | refine SW.aj rfl ?_))
  exact End.mk _ (h4:=⟨rfl,rfl⟩) (h6:=by simp [Hp.ok,Ob.ok,bM,yN])
end
section
attribute [local irreducible] SW RW aM SC ak au
structure HX {σ:Type}(Fh:σ→Hp)(Step:σ→Dt→σ→Prop)(go:σ→Bool)(aX b m k:Nat)(L:jo)(s0 s:σ)(xs:jo)(kk:Nat):Prop where
 p1:gV Step s0 (MM.keys xs) s
 p2:go s=true
 p3:∀ x,x∈xs→x∈L
 p4:(xs.map (·.1)).Nodup
 p5:k+1≤kk
 p6:kk≤k+1+xs.length*(1+aX)
 p7:(Fh s).ok (fun n=>decide (n<kk))=true
 p8:lk (Fh s) b=none
 p9:lk (Fh s) m=none
 A8:lk (Fh s) k=none
set_option maxHeartbeats 1000000 in
theorem DB {σ:Type}{Fh:σ→Hp}{Step:σ→Dt→σ→Prop}{go:σ→Bool}{aX y b m k c:Nat}{L:jo}(hwf:MM.wf L c)(s0:σ)(hy:nR Tryz.prog y (fun x:Dt=> .agg x.cells) aX Fh Step go s0 L.length)(h0:(Fh s0).ok (fun n=>decide (n<k))=true)
  (hb:b<k) (hm:m<k) (JQ:b≠m) (hdb:lk (Fh s0) b=none) (JR:lk (Fh s0) m=none) (wV:go s0=true):
  SB Tryz.prog maps_Keys_dot_set_api_Dot_int_1.f [.yl y,.ptr b 0] ((b,.box 174 [.mp m])::(m,.map (an Dt.cells iv L) c)::Fh s0) k (1+L.length*(1+aX))
   fun r F=>r= .dM []∧∃ (xs:jo) (s':σ),gV Step s0 (MM.keys xs) s'∧(∀ x,x∈xs→x∈L)∧(xs.map (·.1)).Nodup∧(go s'=true→∀ x,x∈L→x∈xs)∧(lk (Fh s') b=none∧lk (Fh s') m=none)∧F=(b,.box 174 [.mp m])::(m,.map (an Dt.cells iv L) c)::Fh s':=by
 have hyk:y<k:=by
  obtain ⟨ob,ho⟩:=Option.ne_none_iff_exists'.1 (hy.pK s0)
  simpa using (Hp.dH h0 ho).1
 refine maps_Keys_dot_set_api_Dot_int_1.enter (by simp [SV.ok,SV.ay];omega) (by simp only [Hp.ok,List.all_cons,Ob.ok,SV.ay,SV.ok,bM,Bool.and_true,Bool.and_eq_true,decide_eq_true_eq];exact ⟨⟨hb,hm⟩,hm,h0⟩) (by simp) ?_
 dsimp only [maps_Keys_dot_set_api_Dot_int_1.s,Co.M,Co.G,Co.J,Co.H,Co.N,Co.F,Co.C,Co.Z,Co.B,Co.b8,Co.aB,Co.bL,Co.i6,Co.z8,Co.bU]
 have f1:=bA (show m≠b by omega)
 have f2:=bA (show k≠b by omega)
 have f3:=bA (show k≠m by omega)
 have f4:List.lookup k (Fh s0)=none:=by
  cases hh:lk (Fh s0) k with
  | none=>exact hh
  | some ob=>have:=(Hp.dH h0 hh).1;simp at this
 refine SW.seq ?_
 refine SW.g0 [0,1,3,5,7,13] mixed (And.intro (f1) (And.intro (f2) (And.intro (f3) (f4)))) ?_
 refine SW.block (SW.pL (es:=fun _=>an Dt.cells iv L) (c:=fun _=>c) (s7:=fun _=>k) (nm:=fun _=>m) (since:=fun _=>c) (zF:=fun _=>c)
  (α:={i:σ×jo×Nat // HX Fh Step go aX b m k L s0 i.1 i.2.1 i.2.2})
  (fun i=>⟨[(5,.it k),(0,.yl y),(1,.ptr b 0)],(k,.iter (some m) c (i.1.2.1.map (·.1)) c)::(b,.box 174 [.mp m])::(m,.map (an Dt.cells iv L) c)::Fh i.1.1,i.1.2.2⟩)
  (fun i=>jq (an Dt.cells iv L) (i.1.2.1.map (·.1))) ⟨(s0,[],k+1),⟨.nil,wV,by simp,by simp,by simp,by simp,Hp.bE (by simp) h0,hdb,JR,f4⟩⟩ id (seen:=fun i=>i.1.2.1.map (·.1)) ?_ (fun i=>by simp [List.lookup]) (fun i=>by simp [aa]) (fun i=> ?_) (fun i=>by omega) (fun i e he=> ?_) (fun i=>Nat.le_refl _) (fun i hall=> ?_) (fun i e he hs=> ?_))
 ·refine aJ.same (by simp) (by simp [aY,kA,List.lookup,SV.aC,SV.ok];omega) ?_ ?_
  ·simp only [Hp.ok,List.all_cons,Ob.ok,SV.ay,SV.ok,bM,Bool.and_true,Bool.and_eq_true,decide_eq_true_eq]
   exact ⟨⟨by omega,by omega⟩,⟨by omega,by omega⟩,by omega,Hp.bE (by simp) h0⟩
  ·intro x hx
   simp only [List.mem_cons] at hx
   rcases hx with rfl | rfl | rfl | hx
   ·simp [aa]
   ·simp [aa,f1,f2,f3]
   ·simp [aa,f1,f2,f3]
   ·have:=hy.nd s0 x hx
    have h1:x.1≠k:=fun e=>by rw [e] at this;rw [show lk (Fh s0) k=none from f4] at this;cases this
    have h2:x.1≠b:=fun e=>by rw [e,hdb] at this;cases this
    have h3:x.1≠m:=fun e=>by rw [e,JR] at this;cases this
    simp [aa,h1,h2,h3,this]
 ·simp [aa,f1,f2,f3]
 ·obtain ⟨x,hx,rfl⟩:=eY he
  exact hwf.old x hx
 ·obtain ⟨⟨s,xs,kk⟩,hi⟩:=i
  have hi:HX Fh Step go aX b m k L s0 s xs kk:=hi
  have hi':=hi
  obtain ⟨p1,p2,p3,p4,p5,p6,p7,p8,p9,A8⟩:=hi'
  dsimp only at*
  have hsub:xs.length≤L.length:=by
   have:=p4.length_le_of_subset (l₂:=L.map (·.1)) (fun t ht=>by
    obtain ⟨x,hx,rfl⟩:=List.mem_map.1 ht
    exact List.mem_map.2 ⟨x,p3 x hx,rfl⟩)
   simpa using this
  have hmul:xs.length*(1+aX)≤L.length*(1+aX):=Nat.mul_le_mul_right _ hsub
  have hhp:∀ kx,kk≤kx→Hp.ok (fun n=>decide (n<kx)) ((b,Ob.box 174 [.mp m])::(m,.map (an Dt.cells iv L) c)::Fh s)=true:=fun kx hkx=>by
   simp only [Hp.ok,List.all_cons,Ob.ok,SV.ay,SV.ok,bM,Bool.and_true,Bool.and_eq_true,decide_eq_true_eq]
   exact ⟨⟨by omega,by omega⟩,by omega,Hp.bE hkx p7⟩
  refine ⟨⟨[],(b,.box 174 [.mp m])::(m,.map (an Dt.cells iv L) c)::Fh s,k+(1+L.length*(1+aX))⟩,id,aJ.same (Nat.le_add_right _ _) trivial (hhp _ (by show kk≤k+(1+L.length*(1+aX));omega)) ?_,?_⟩
  ·intro x hx
   simp only [List.mem_cons] at hx
   rcases hx with rfl | rfl | hx
   ·simp [aa,f1,f2,f3]
   ·simp [aa,f1,f2,f3]
   ·have:=hy.nd s x hx
    have h1:x.1≠k:=fun e=>by rw [e,A8] at this;cases this
    have h2:x.1≠b:=fun e=>by rw [e,p8] at this;cases this
    have h3:x.1≠m:=fun e=>by rw [e,p9] at this;cases this
    simp [aa,h1,h2,h3,this]
  ·rw [if_pos rfl]
   refine End.mk ((b,.box 174 [.mp m])::(m,.map (an Dt.cells iv L) c)::Fh s) (h3:=fun _ _ h=>h) (h4:=⟨rfl,xs,s,p1,p3,p4,fun _ x hx=> ?_,⟨p8,p9⟩,rfl⟩) (h6:=hhp _ (by omega)) (h7:=Nat.le_refl _)
   have:=hall _ (List.mem_map.2 ⟨x,hx,rfl⟩)
   simp only [List.contains_iff_mem] at this
   obtain ⟨z,hz,e⟩:=List.mem_map.1 this
   have:z=x:=MM.sX hwf.times (p3 z hz) hx e
   rw [← this];exact hz
 ·obtain ⟨⟨s,xs,kk⟩,hi⟩:=i
  have hi:HX Fh Step go aX b m k L s0 s xs kk:=hi
  have hi':=hi
  obtain ⟨p1,p2,p3,p4,p5,p6,p7,p8,p9,A8⟩:=hi'
  dsimp only at*
  obtain ⟨x,hx,rfl⟩:=eY he
  dsimp only at hs
  have g1:=bA (show kk≠k by omega)
  have g2:=bA (show kk≠b by omega)
  have g3:=bA (show kk≠m by omega)
  have g4:List.lookup kk (Fh s)=none:=Hp.out p7 (Nat.le_refl _)
  have g5:(xs.map (·.1)++[x.1]).getLast? =some x.1:=by simp
  have g6:=kU (kc:=Dt.cells) (vs:=iv) hwf.times hx
  rw [jG]
  dsimp only
  refine SW.block (SW.seq ?_)
  refine SW.g0 [0,1,3,5,7,13] mixed (And.intro (f1) (And.intro (f2) (And.intro (f3) (And.intro (g1) (And.intro (g2) (And.intro (g3) (And.intro (g4) (And.intro (g5) (g6))))))))) ?_
  refine SW.seq (SW.yu ?_)
  (repeat (first | refine bw.op (And.intro (g1) (And.intro (g2) (g3))) (h:= ?_) | refine bw.eF (And.intro (g1) (And.intro (g2) (g3))) (h:= ?_) | refine bw.skip (h:= ?_)))
  have hokk:(Fh s).ok (fun n=>decide (n<kk+1))=true:=Hp.bE (by omega) p7
  have nq:∀ s',(∀ n,lk (Fh s') n≠none→lk (Fh s) n≠none∨(kk+1≤n∧n<kk+1+aX))→lk (Fh s') b=none∧lk (Fh s') m=none∧lk (Fh s') k=none:=fun s' h=>by
   refine ⟨?_,?_,?_⟩
   ·exact Classical.byContradiction fun hn=>(h b hn).elim (fun h=>h p8) (fun h=>by omega)
   ·exact Classical.byContradiction fun hn=>(h m hn).elim (fun h=>h p9) (fun h=>by omega)
   ·exact Classical.byContradiction fun hn=>(h k hn).elim (fun h=>h A8) (fun h=>by omega)
  have hxs:x∉xs:=fun h=>by
   have:(xs.map (·.1)).contains x.1=true:=by simp only [List.contains_iff_mem];exact List.mem_map.2 ⟨x,h,rfl⟩
   rw [this] at hs;cases hs
  have hxt:x.1∉xs.map (·.1):=fun h=>by
   have:(xs.map (·.1)).contains x.1=true:=by simpa only [List.contains_iff_mem] using h
   rw [this] at hs;cases hs
  have q3:∀ z,z∈xs++[x]→z∈L:=fun z hz=>by
   rcases List.mem_append.1 hz with hz | hz
   ·exact p3 z hz
   ·rw [List.mem_singleton.1 hz];exact hx
  have q4:((xs++[x]).map (·.1)).Nodup:=by
   rw [List.map_append,List.nodup_append]
   refine ⟨p4,by simp,fun a ha b' hb'=> ?_⟩
   simp only [List.map_cons,List.map_nil,List.mem_singleton] at hb'
   intro e
   exact hxt (by rw [← hb',← e];exact ha)
  have hsub2:(xs++[x]).length≤L.length:=by
   have:=q4.length_le_of_subset (l₂:=L.map (·.1)) (fun t ht=>by
    obtain ⟨z,hz,rfl⟩:=List.mem_map.1 ht
    exact List.mem_map.2 ⟨z,q3 z hz,rfl⟩)
   simpa using this
  have hlt:(MM.keys xs).length<L.length:=by
   simp only [List.length_append,List.length_singleton] at hsub2
   simp only [MM.keys,List.length_map];omega
  have hsub:HSub (Fh s) ((kk,Ob.box 37 x.2.1.cells)::(k,Ob.iter (some m) c (xs.map (·.1)++[x.1]) c)::(b,Ob.box 174 [.mp m])::(m,.map (an Dt.cells iv L) c)::Fh s):=fun n ob hn=>by
   have h1:n≠k:=fun e=>by rw [e,A8] at hn;cases hn
   have h2:n≠b:=fun e=>by rw [e,p8] at hn;cases hn
   have h3:n≠m:=fun e=>by rw [e,p9] at hn;cases hn
   have h4:n≠kk:=fun e=>by rw [e,show lk (Fh s) kk=none from g4] at hn;cases hn
   simp [aa,h1,h2,h3,h4,hn]
  refine bw.yield (by simp only [ev,List.lookup,Nat.reduceBEq] <;> rfl) (by simp only [ev,oG,List.lookup,Nat.reduceBEq] <;> rfl) (hy.pK s) (hy.call s _ x.2.1 (kk+1) p1 hlt hokk p2) hsub ?_
  rintro v F' ⟨s',hstep,rfl,rfl,hok',hnm⟩
  obtain ⟨n1,n2,n3⟩:=nq s' hnm
  rw [ig]
  show bw Tryz.prog 14 k _ ⟨(12,.d (.bool (go s')))::_,_,_⟩ _
  (repeat (first | refine bw.op af (h:= ?_) | refine bw.eF af (h:= ?_) | refine bw.skip (h:= ?_)))
  refine bw.nil ?_
  have hlk:=fA (ro:=false) hsub (F':=Fh s') (fun h=>by cases h)
  have hhp:∀ kx,kk+1+aX≤kx→Hp.ok (fun n=>decide (n<kx)) ((b,Ob.box 174 [.mp m])::(m,.map (an Dt.cells iv L) c)::Fh s')=true:=fun kx hkx=>by
   simp only [Hp.ok,List.all_cons,Ob.ok,SV.ay,SV.ok,bM,Bool.and_true,Bool.and_eq_true,decide_eq_true_eq]
   exact ⟨⟨by omega,by omega⟩,by omega,Hp.bE hkx hok'⟩
  have hin:∀ z,z∈((b,Ob.box 174 [.mp m])::(m,.map (an Dt.cells iv L) c)::Fh s')→ya (lk ((kk,Ob.box 37 x.2.1.cells)::(k,Ob.iter (some m) c (xs.map (·.1)++[x.1]) c)::(b,Ob.box 174 [.mp m])::(m,.map (an Dt.cells iv L) c)::Fh s)) (lk (Fh s)) (lk (Fh s')) z.1=some z.2:=by
   intro z hz
   simp only [List.mem_cons] at hz
   rcases hz with rfl | rfl | hz
   ·rw [cM p8 n1];simp [aa,f1,f2,f3,g1,g2,g3]
   ·rw [cM p9 n2];simp [aa,f1,f2,f3,g1,g2,g3]
   ·have:=hy.nd s' z hz
    rw [dN (.inr (by rw [this];simp)),this]
  have q1:gV Step s0 (MM.keys (xs++[x])) s':=by
   have:=gV.snoc p1 hstep
   simpa [MM.keys] using this
  have q6:kk+1+aX≤k+1+(xs++[x]).length*(1+aX):=by
   have e:(xs++[x]).length*(1+aX)=xs.length*(1+aX)+(1+aX):=by rw [List.length_append,List.length_singleton,Nat.add_mul,Nat.one_mul]
   rw [e];omega
  have hmul:(xs++[x]).length*(1+aX)≤L.length*(1+aX):=Nat.mul_le_mul_right _ hsub2
  cases hg:go s' with
  | true=>
   refine SW.aj (by simp [ev,List.lookup,hg]) (SW.skip ?_)
   refine ⟨⟨(s',xs++[x],kk+1+aX),q1,hg,q3,q4,by show k+1≤kk+1+aX;omega,q6,hok',n1,n2,n3⟩,id,?_,aJ.same (by show k≤kk+1+aX;omega) (by simp [aY,List.lookup,SV.aC,SV.ok];omega) ?_ ?_⟩
   ·have:=k_ he hs
    simpa using this
   ·have:=hhp (kk+1+aX) (Nat.le_refl _)
    simp only [Hp.ok,List.all_cons,Ob.ok,Bool.and_eq_true,decide_eq_true_eq] at this ⊢
    exact ⟨⟨by omega,by omega⟩,this⟩
   ·intro z hz
    rcases List.mem_cons.1 hz with rfl | hz
    ·have:lk (bV false ((kk,Ob.box 37 x.2.1.cells)::(k,Ob.iter (some m) c (xs.map (·.1)++[x.1]) c)::(b,Ob.box 174 [.mp m])::(m,.map (an Dt.cells iv L) c)::Fh s) (Fh s) (Fh s')) k=some (.iter (some m) c (xs.map (·.1)++[x.1]) c):=by
      rw [hlk,cM A8 n3];simp [aa,g1]
     simpa [bV] using this
    ·have:lk (bV false ((kk,Ob.box 37 x.2.1.cells)::(k,Ob.iter (some m) c (xs.map (·.1)++[x.1]) c)::(b,Ob.box 174 [.mp m])::(m,.map (an Dt.cells iv L) c)::Fh s) (Fh s) (Fh s')) z.1=some z.2:=by
      rw [hlk];exact hin z hz
     exact this
  | false=>
   refine SW.ah (by simp [ev,List.lookup,hg]) ?_
   refine SW.weak id (st1:=⟨[],(b,.box 174 [.mp m])::(m,.map (an Dt.cells iv L) c)::Fh s',k+(1+L.length*(1+aX))⟩) (aJ.same (Nat.le_add_right _ _) trivial (hhp _ (by show kk+1+aX≤k+(1+L.length*(1+aX));omega)) fun z hz=> ?_) (SW.ret ?_)
   ·have:lk (bV false ((kk,Ob.box 37 x.2.1.cells)::(k,Ob.iter (some m) c (xs.map (·.1)++[x.1]) c)::(b,Ob.box 174 [.mp m])::(m,.map (an Dt.cells iv L) c)::Fh s) (Fh s) (Fh s')) z.1=some z.2:=by
     rw [hlk];exact hin z hz
    exact this
   ·refine End.mk ((b,.box 174 [.mp m])::(m,.map (an Dt.cells iv L) c)::Fh s') (h3:=fun _ _ h=>h) (h4:=⟨rfl,xs++[x],s',q1,q3,q4,fun (h:go s'=true)=>absurd h (by rw [hg];decide),⟨n1,n2⟩,rfl⟩) (h6:=hhp _ (by omega)) (h7:=Nat.le_refl _)
end
section
attribute [local irreducible] SW RW aM SC ak au
structure A9 (y bx:Nat) where
 l:List Dt
 rn:Nat
 h1:rn≠y
 h2:rn≠bx
def dQ (y bx N:Nat)(ts ps:List Nat)(ca cb:Code)(s:A9 y bx):Hp:=
 [(y,.kJ N ts [.ptr bx 0] ps ca cb .ready none),(bx,.box 31 [.gs s.rn s.l.length]),(s.rn,.arr 37 2 s.l.length ((s.l.flatMap Dt.ds).map .d))]
set_option maxHeartbeats 1000000 in
theorem tM {y bx B:Nat}(Jv:y≠bx)(s0:A9 y bx)(hB:s0.l.length+B<4611686018427){ca cb:Code}(hca:cK Tryz.prog 13 ca=some (.ey [⟨some 5,.alloc 37 [.d (.int .u8 0),.d (.int .u32 0)],none⟩,⟨none,.store 2 (.t 5) (.t 7),none⟩] (jK 2) false))
    (hcb:cK Tryz.prog 13 cb=some (.block 1 (.ey [⟨some 8,.load none (.t 2),none⟩,⟨some 9,.load (some 2) (.t 5),none⟩,⟨some 10,.oU 37 2 1 [.d (.int .u8 0),.d (.int .u32 0)] [(0,2,.t 9)],none⟩,⟨some 11,.app 37 2 8 (.t 8) (.t 10),none⟩,⟨none,.store 1 (.t 2) (.t 11),none⟩] (jK 5) false))):
    nR Tryz.prog y (fun x:Dt=> .agg x.cells) 2 (dQ y bx 13 [2] [7] ca cb) (fun s x s'=>s'.l=s.l++[x]) (fun _=>true) s0 B:=by
  refine ⟨fun s=>by simp [dQ,aa],fun s x hx=> ?_,fun s xs x k hon hlt hok _=> ?_⟩
  · have f1:=bA Jv
    have f2:=bA s.h1
    have f3:=bA s.h2
    simp only [dQ,List.mem_cons,List.not_mem_nil,or_false] at hx
    rcases hx with rfl | rfl | rfl <;> simp [dQ,aa,f1,f2,f3]
  · have hlen:s.l.length=s0.l.length+xs.length:=by
      clear hlt hok
      induction hon with
      | nil=>rfl
      | snoc _ h ih=>rw [h];simp [ih];omega
    obtain ⟨l,rn,h1,h2⟩:=s
    simp only at hlen
    simp only [dQ,Hp.ok,List.all_cons,List.all_nil,Ob.ok,SV.ay,SV.ok,SV.bh,Bool.and_true,Bool.and_eq_true,decide_eq_true_eq] at hok
    obtain ⟨⟨k1,_⟩,⟨k2,_⟩,k3⟩:=hok
    have f1:=bA Jv
    have f2:=bA h1
    have f3:=bA h2
    have g1:=bA (show k≠y by omega)
    have g2:=bA (show k≠bx by omega)
    have g3:=bA (show k≠rn by omega)
    have g4:=bA (show k+1≠k by omega)
    have g5:=bA (show k+1≠y by omega)
    have g6:=bA (show k+1≠bx by omega)
    have g7:=bA (show k+1≠rn by omega)
    have e1:(List.flatMap Dt.ds l++x.ds).map SV.d=(List.flatMap Dt.ds l).map SV.d++x.cells:=by simp [Dt.qx]
    refine wL.here (fun n=>n == y || n == bx || n == rn) (wL.lY (cs:=[.ptr bx 0]) (H:=[(bx,.box 31 [.gs rn l.length]),(rn,.arr 37 2 l.length ((l.flatMap Dt.ds).map .d))]) hca hcb rfl rfl rfl (by simp) k1 (by simp [aa,bt,f1,f2]) (by simp [SV.ay,SV.ok]) (by simp [Hp.ok,Ob.ok,SV.ay,SV.ok,SV.bh];omega) (by simp [SV.ay,SV.ok];omega) ?_) ?_ (by simp [SV.ay,SV.ok]) (by simp [dQ,Hp.ok,Ob.ok,SV.ay,SV.ok,SV.bh]) ?_
    · skip
      show Go.Sl.SW _ _ _ _ ⟨[(7,.agg x.cells),(2,.ptr bx 0)],_,_⟩ _
      refine SW.g0 [2,5,7] mixed (And.intro (f1) (And.intro (f2) (And.intro (f3) (And.intro (g1) (And.intro (g2) (g3)))))) ?_
      refine ⟨rfl,SW.block ?_⟩
      refine SW.g0 [2,5,7] mixed (And.intro (f1) (And.intro (f2) (And.intro (f3) (And.intro (g1) (And.intro (g2) (And.intro (g3) (And.intro (g4) (And.intro (g5) (And.intro (g6) (g7)))))))))) ?_
      have e2:((l++[x]).flatMap Dt.ds).map SV.d=(List.flatMap Dt.ds l).map SV.d++x.ds.map SV.d:=by simp
      refine ⟨none,true,[(bx,.box 31 [.gs (k+1) (l++[x]).length]),(k+1,.arr 37 2 (l++[x]).length (((l++[x]).flatMap Dt.ds).map .d))],⟨rfl,rfl⟩,?_,?_,by simp,⟨⟨l++[x],k+1,by omega,by omega⟩,rfl,rfl,rfl,?_,?_⟩⟩
      · refine HSub.cons ?_ (HSub.cons ?_ (HSub.nil _))
        · simp [aa,f1,f2,f3,g1,g2,g3,g4,g5,g6,g7,cU]
        · rw [e2];simp [aa]
      · simp [Hp.ok,Ob.ok,SV.ay,SV.ok,SV.bh,-List.flatMap_append,-List.map_append];omega
      · simp [dQ,Hp.ok,Ob.ok,SV.ay,SV.ok,SV.bh,-List.flatMap_append,-List.map_append];omega
      · intro n hn
        by_cases hy':n=y
        · exact .inl (by simp [dQ,aa,hy'])
        · by_cases hbx:n=bx
          · exact .inl (by simp [dQ,aa,hbx,f1])
          · refine .inr ?_
            have:n=k+1:=Classical.byContradiction fun hne=>hn (by simp [dQ,aa,bt,hy',hbx,hne])
            omega
    · intro n hn
      simp only [Bool.or_eq_true,beq_iff_eq] at hn
      rcases hn with (rfl | rfl) | rfl <;> simp [dQ,aa,f1,f2,f3]
    · rintro r F' ⟨s',hs',rfl,rfl,hok',hnm⟩ _ _
      obtain ⟨l',rn',h1',h2'⟩:=s'
      refine ⟨rfl,?_⟩
      simp [dQ,Hp.ok,Ob.ok,SV.ay,SV.ok,SV.bh]
      have hh:=hnm rn' (by simp [dQ,aa,h1',h2'])
      rcases hh with hh | ⟨hh1,hh2⟩
      · have:rn'=rn:=by
          refine Classical.byContradiction fun hne=>hh ?_
          simp [dQ,aa,bt,h1',h2',hne]
        simp [this]
      · simp [hh1];omega
end
section
attribute [local irreducible] SW RW aM SC ak au
theorem ij {α β:Type}(f:α→β):∀ {l:List α},(l.map f).Nodup→l.Nodup
 | [],_=>List.nodup_nil
 | x::l,h=>by
  simp only [List.map_cons,List.nodup_cons] at h ⊢
  exact ⟨fun hx=>h.1 (List.mem_map.2 ⟨x,hx,rfl⟩),ij f h.2⟩
theorem wm {L xs:jo}{c:Nat}(hwf:MM.wf L c)(h1:∀ x,x∈xs→x∈L)(h2:(xs.map (·.1)).Nodup)(h3:∀ x,x∈L→x∈xs):(MM.keys xs).Perm (MM.keys L):=
 ((List.perm_ext_iff_of_nodup (ij _ h2) (ij _ hwf.times)).2 fun a=>⟨h1 a,h3 a⟩).map _
def iT (b m:Nat)(L:jo)(c:Nat):Hp:=[(b,.box 174 [.mp m]),(m,.map (an Dt.cells iv L) c)]
theorem xQ {y bx:Nat}{s0 s:A9 y bx}{xs:List Dt}(h:gV (fun (s:A9 y bx) x s'=>s'.l=s.l++[x]) s0 xs s):s.l=s0.l++xs:=by
 induction h with
 | nil=>simp
 | snoc _ h ih=>rw [h,ih];simp
set_option maxHeartbeats 1000000 in
theorem wq {L:jo}{c:Nat}(hwf:MM.wf L c)(hL:L.length<1000000000):
  SB Tryz.prog slices_AppendSeq_Lapi_Dot_api_Dot.f [.d .aU,.fn (.func maps_Keys_dot_set_api_Dot_int_1.f) [] [.ptr 0 0]] (iT 0 1 L c) 2 1
   fun r F=>r= .gs 2 L.length∧∃ l:List Dt,l.Perm (MM.keys L)∧F=(2,.arr 37 2 L.length ((l.flatMap Dt.ds).map .d))::iT 0 1 L c:=by
 refine slices_AppendSeq_Lapi_Dot_api_Dot.enter (by simp [SV.ok,SV.ay]) (by simp [iT,Hp.ok,Ob.ok,SV.ay,SV.ok,bM]) (by simp) ?_
 dsimp only [slices_AppendSeq_Lapi_Dot_api_Dot.s,Co.M,Co.G,Co.J,Co.H,Co.N,Co.F,Co.C,Co.Z,Co.B,Co.b8,Co.aB,Co.bL,Co.i6,Co.z8,Co.bU]
 refine SW.sW 0 37 2 rfl ?_
 simp only [iT]
 refine SW.seq ?_
 refine SW.g0 [0,1,2,4,5,6,7] mixed af ?_
 refine SW.seq (SW.seq ?_)
 refine SW.g0 [0,1,2,4,5,6,7] mixed af ?_
 refine SW.block (SW.mL (nk:=1+L.length*(1+2)) [2] [.ptr 3 0] rfl ⟨rfl,trivial⟩ fun ca cb hca hcb=> ?_)
 let s0:A9 4 3:=⟨[],2,by decide,by decide⟩
 have hy:=tM (y:=4) (bx:=3) (B:=L.length) (by decide) s0 (by simp [s0];omega) hca hcb
 have hsb:=DB (y:=4) (b:=0) (m:=1) (k:=5) hwf s0 hy (by simp [dQ,s0,Hp.ok,Ob.ok,SV.ay,SV.ok]) (by decide) (by decide) (by decide) (by simp [dQ,s0,aa,bt]) (by simp [dQ,s0,aa,bt]) rfl
 have hsubF:HSub ((0,.box 174 [.mp 1])::(1,.map (an Dt.cells iv L) c)::dQ 4 3 13 [2] [7] ca cb s0) ((4,.kJ 13 [2] [.ptr 3 0] [7] ca cb .ready none)::[(3,.box 31 [.gs 2 0]),(2,.arr 37 2 0 []),(0,.box 174 [.mp 1]),(1,.map (an Dt.cells iv L) c)]):=by
  intro n ob hn
  match n with
  | 0 | 1 | 2 | 3 | 4=>simpa [dQ,s0,aa] using hn
  | n+5=>simp [dQ,s0,aa,bt] at hn
 have hsc:=(hsb.here (fun n=>decide (n<5)) (fun n hn=> ?_) (by simp [SV.ay,SV.ok]) (by simp [dQ,s0,Hp.ok,Ob.ok,SV.ay,SV.ok,bM]) ?_).frame hsubF
 ·refine hsc.mono ?_
  rintro r F' ⟨F1,⟨rfl,xs,s',hon,hin,nq,hall,⟨hn0,hn1⟩,rfl⟩,rfl⟩
  have hl:=xQ hon
  have hperm:=wm hwf hin nq (hall rfl)
  obtain ⟨l,rn,hr1,hr2⟩:=s'
  have hl:l=MM.keys xs:=by simpa [s0] using hl
  have hn0:rn≠0:=fun e=>by simp [dQ,e,aa] at hn0
  have hn1:rn≠1:=fun e=>by simp [dQ,e,aa] at hn1
  have hll:l.length=L.length:=by rw [hl,hperm.length_eq];simp [MM.keys]
  rw [← hl] at hperm
  have hlk:=fA (ro:=false) (h:=(4,.kJ 13 [2] [.ptr 3 0] [7] ca cb .ready none)::[(3,.box 31 [.gs 2 0]),(2,.arr 37 2 0 []),(0,.box 174 [.mp 1]),(1,.map (an Dt.cells iv L) c)]) (F:=(0,.box 174 [.mp 1])::(1,.map (an Dt.cells iv L) c)::dQ 4 3 13 [2] [7] ca cb s0) (F':=(0,.box 174 [.mp 1])::(1,.map (an Dt.cells iv L) c)::dQ 4 3 13 [2] [7] ca cb ⟨l,rn,hr1,hr2⟩) hsubF (fun h=>by cases h)
  generalize bV false _ _ _=G at hlk
  have hG:∀ n ob,lk ((0,Ob.box 174 [.mp 1])::(1,.map (an Dt.cells iv L) c)::dQ 4 3 13 [2] [7] ca cb ⟨l,rn,hr1,hr2⟩) n=some ob→lk G n=some ob:=fun n ob h=>by
   rw [hlk,dN (.inr (by rw [h];simp)),h]
  refine ⟨none,hG 4 _ (by simp [dQ,aa,jQ]),?_⟩
  refine SW.weak (fun n=>if n=2 then rn else n) (st1:=⟨[(2,.ptr 3 0)],[(3,.box 31 [.gs 2 L.length]),(2,.arr 37 2 L.length ((l.flatMap Dt.ds).map .d)),(0,.box 174 [.mp 1]),(1,.map (an Dt.cells iv L) c)],6⟩) ?_ ?_
  ·have q3:=hG 3 (.box 31 [.gs rn l.length]) (by simp [dQ,aa])
   have q2:=hG rn (.arr 37 2 l.length ((l.flatMap Dt.ds).map .d)) (by simp [dQ,aa,hn0,hn1,hr1,hr2])
   have q0:=hG 0 (.box 174 [.mp 1]) (by simp [aa])
   have q1:=hG 1 (.map (an Dt.cells iv L) c) (by simp [aa])
   rw [hll] at q3 q2
   refine ⟨by show 2≤6;omega,fun n hn=>if_neg (by omega),?_,?_,?_⟩
   ·simp [aY,List.lookup,SV.aC,SV.ok]
   ·simp [uk,cR,Ob.aC,SV.aW,SV.aC,SV.ia,SV.bh,Ob.ok,SV.ay,SV.ok,q3,q2,q0,q1,hr1,eC,bM]
   ·intro a ha b hb e
    simp only [List.map_cons,List.map_nil,List.mem_cons,List.not_mem_nil,or_false] at ha hb
    rcases ha with rfl | rfl | rfl | rfl <;> rcases hb with rfl | rfl | rfl | rfl <;> simp at e <;> first | rfl | omega
  ·(repeat (first | refine SW.seq ?_ | refine SW.block ?_ | refine SW.g0 [0,1,2,4,5,6,7] mixed af ?_ | refine SW.skip ?_ | refine SW.exit ?_ | refine SW.ret ?_ | refine SW.ah rfl ?_ | refine SW.aj rfl ?_))
   exact End.mk ((2,.arr 37 2 L.length ((l.flatMap Dt.ds).map .d))::iT 0 1 L c) (h4:=⟨rfl,l,hperm,rfl⟩) (h6:=by simp [iT,Hp.ok,Ob.ok,SV.ay,SV.ok,SV.bh,bM])
 ·match n,hn with
  | 0,_ | 1,_ | 2,_ | 3,_ | 4,_=>simp [dQ,s0,aa]
  | n +5,h=>
    have:n+5<5:=by simpa using h
    omega
 ·rintro r F' _ h1 h2
  refine ⟨SV.eT (fun n hn=> ?_) _ h1,Hp.dy (fun n hn=> ?_) h2⟩ <;> (simp at hn ⊢;omega)
end
section
attribute [local irreducible] SW RW aM SC ak au
theorem FM (n:Int):Go.Sl.Pure Tryz.prog cmp_isNaN_uint8.f [.d (.int .u8 n)] (bl false):=by
 refine cmp_isNaN_uint8.enter (by first | rfl | simp [SV.ok,SV.ay]) (by first | rfl | simp [Hp.ok,Ob.ok,SV.ok,SV.ay,aL.ai]) (by simp) ?_
 dsimp only [cmp_isNaN_uint8.s,Co.M,Co.G,Co.J,Co.H,Co.N,Co.F,Co.C,Co.Z,Co.B,Co.b8,Co.aB,Co.bL,Co.i6,Co.z8,Co.bU]
 have e1:(n != n)=false:=bne_self_eq_false n
 (repeat (first | refine SW.seq ?_ | refine SW.block ?_ | refine SW.g0 [0,2] mixed (e1) ?_ | refine SW.skip ?_ | refine SW.exit ?_ | refine SW.ret ?_ | refine SW.ah rfl ?_ | refine SW.aj rfl ?_))
 exact End.mk [] (h4:=⟨rfl,rfl⟩)
theorem n_ (n:Int)(k:Nat):aM Tryz.prog cmp_isNaN_uint8.f [.d (.int .u8 n)] [] k 0 (.d (.bool false)) []:=(FM n).sc rfl k
theorem DC (n:Int):Go.Sl.Pure Tryz.prog cmp_isNaN_uint32.f [.d (.int .u32 n)] (bl false):=by
 refine cmp_isNaN_uint32.enter (by first | rfl | simp [SV.ok,SV.ay]) (by first | rfl | simp [Hp.ok,Ob.ok,SV.ok,SV.ay,aL.ai]) (by simp) ?_
 dsimp only [cmp_isNaN_uint32.s,Co.M,Co.G,Co.J,Co.H,Co.N,Co.F,Co.C,Co.Z,Co.B,Co.b8,Co.aB,Co.bL,Co.i6,Co.z8,Co.bU]
 have e1:(n != n)=false:=bne_self_eq_false n
 (repeat (first | refine SW.seq ?_ | refine SW.block ?_ | refine SW.g0 [0,2] mixed (e1) ?_ | refine SW.skip ?_ | refine SW.exit ?_ | refine SW.ret ?_ | refine SW.ah rfl ?_ | refine SW.aj rfl ?_))
 exact End.mk [] (h4:=⟨rfl,rfl⟩)
theorem lz (n:Int)(k:Nat):aM Tryz.prog cmp_isNaN_uint32.f [.d (.int .u32 n)] [] k 0 (.d (.bool false)) []:=(DC n).sc rfl k
theorem FN (a b:Int):Go.Sl.Pure Tryz.prog cmp_Compare_uint8.f [.d (.int .u8 a),.d (.int .u8 b)] (i64 (fM a b)):=by
 refine cmp_Compare_uint8.enter (by first | rfl | simp [SV.ok,SV.ay]) (by first | rfl | simp [Hp.ok,Ob.ok,SV.ok,SV.ay,aL.ai]) (by simp) ?_
 dsimp only [cmp_Compare_uint8.s,Co.M,Co.G,Co.J,Co.H,Co.N,Co.F,Co.C,Co.Z,Co.B,Co.b8,Co.aB,Co.bL,Co.i6,Co.z8,Co.bU]
 rcases Int.lt_trichotomy a b with h | h | h
 ·have e1:decide (a<b)=true:=by simp [h]
  have e2:fM a b= -1:=by simp [fM,h]
  (repeat (first | refine SW.seq ?_ | refine SW.block ?_ | (refine SW.dL [0,1,4,5,6,11,12,13,16,19] mixed ?_;(repeat (first | refine RW.ro (e1) (h:= ?_) | refine RW.skip (h:= ?_) | refine RW.op (e1) (h:= ?_) | refine RW.eF (e1) (h:= ?_) | refine RW.bH (h:= ?_) | (refine RW.bJ (h:= ?_);(first | refine ak.mk (e1) (hc:=n_ _ _) (h:= ?_) | refine ak.mk (e1) (hc:=lz _ _) (h:= ?_)))));refine RW.nil ⟨by kernel_rfl,au.mk (h:= ?_)⟩) | refine SW.skip ?_ | refine SW.exit ?_ | refine SW.ret ?_ | refine SW.ah rfl ?_ | refine SW.aj rfl ?_))
  exact End.mk [] (h4:=⟨by rw [e2];rfl,rfl⟩)
 ·have e1:decide (a<b)=false:=by simp [h]
  have e3:decide (a>b)=false:=by simp [h]
  have e2:fM a b=0:=by simp [fM,h]
  (repeat (first | refine SW.seq ?_ | refine SW.block ?_ | (refine SW.dL [0,1,4,5,6,11,12,13,16,19] mixed ?_;(repeat (first | refine RW.ro (And.intro (e1) (e3)) (h:= ?_) | refine RW.skip (h:= ?_) | refine RW.op (And.intro (e1) (e3)) (h:= ?_) | refine RW.eF (And.intro (e1) (e3)) (h:= ?_) | refine RW.bH (h:= ?_) | (refine RW.bJ (h:= ?_);(first | refine ak.mk (And.intro (e1) (e3)) (hc:=n_ _ _) (h:= ?_) | refine ak.mk (And.intro (e1) (e3)) (hc:=lz _ _) (h:= ?_)))));refine RW.nil ⟨by kernel_rfl,au.mk (h:= ?_)⟩) | refine SW.skip ?_ | refine SW.exit ?_ | refine SW.ret ?_ | refine SW.ah rfl ?_ | refine SW.aj rfl ?_))
  exact End.mk [] (h4:=⟨by rw [e2];rfl,rfl⟩)
 ·have e1:decide (a<b)=false:=by simp;omega
  have e3:decide (a>b)=true:=by simp [h]
  have e2:fM a b=1:=by unfold fM;rw [if_neg (by omega),if_pos h]
  (repeat (first | refine SW.seq ?_ | refine SW.block ?_ | (refine SW.dL [0,1,4,5,6,11,12,13,16,19] mixed ?_;(repeat (first | refine RW.ro (And.intro (e1) (e3)) (h:= ?_) | refine RW.skip (h:= ?_) | refine RW.op (And.intro (e1) (e3)) (h:= ?_) | refine RW.eF (And.intro (e1) (e3)) (h:= ?_) | refine RW.bH (h:= ?_) | (refine RW.bJ (h:= ?_);(first | refine ak.mk (And.intro (e1) (e3)) (hc:=n_ _ _) (h:= ?_) | refine ak.mk (And.intro (e1) (e3)) (hc:=lz _ _) (h:= ?_)))));refine RW.nil ⟨by kernel_rfl,au.mk (h:= ?_)⟩) | refine SW.skip ?_ | refine SW.exit ?_ | refine SW.ret ?_ | refine SW.ah rfl ?_ | refine SW.aj rfl ?_))
  exact End.mk [] (h4:=⟨by rw [e2];rfl,rfl⟩)
theorem DD (a b:Int):Go.Sl.Pure Tryz.prog cmp_Compare_uint32.f [.d (.int .u32 a),.d (.int .u32 b)] (i64 (fM a b)):=by
 refine cmp_Compare_uint32.enter (by first | rfl | simp [SV.ok,SV.ay]) (by first | rfl | simp [Hp.ok,Ob.ok,SV.ok,SV.ay,aL.ai]) (by simp) ?_
 dsimp only [cmp_Compare_uint32.s,Co.M,Co.G,Co.J,Co.H,Co.N,Co.F,Co.C,Co.Z,Co.B,Co.b8,Co.aB,Co.bL,Co.i6,Co.z8,Co.bU]
 rcases Int.lt_trichotomy a b with h | h | h
 ·have e1:decide (a<b)=true:=by simp [h]
  have e2:fM a b= -1:=by simp [fM,h]
  (repeat (first | refine SW.seq ?_ | refine SW.block ?_ | (refine SW.dL [0,1,4,5,6,11,12,13,16,19] mixed ?_;(repeat (first | refine RW.ro (e1) (h:= ?_) | refine RW.skip (h:= ?_) | refine RW.op (e1) (h:= ?_) | refine RW.eF (e1) (h:= ?_) | refine RW.bH (h:= ?_) | (refine RW.bJ (h:= ?_);(first | refine ak.mk (e1) (hc:=n_ _ _) (h:= ?_) | refine ak.mk (e1) (hc:=lz _ _) (h:= ?_)))));refine RW.nil ⟨by kernel_rfl,au.mk (h:= ?_)⟩) | refine SW.skip ?_ | refine SW.exit ?_ | refine SW.ret ?_ | refine SW.ah rfl ?_ | refine SW.aj rfl ?_))
  exact End.mk [] (h4:=⟨by rw [e2];rfl,rfl⟩)
 ·have e1:decide (a<b)=false:=by simp [h]
  have e3:decide (a>b)=false:=by simp [h]
  have e2:fM a b=0:=by simp [fM,h]
  (repeat (first | refine SW.seq ?_ | refine SW.block ?_ | (refine SW.dL [0,1,4,5,6,11,12,13,16,19] mixed ?_;(repeat (first | refine RW.ro (And.intro (e1) (e3)) (h:= ?_) | refine RW.skip (h:= ?_) | refine RW.op (And.intro (e1) (e3)) (h:= ?_) | refine RW.eF (And.intro (e1) (e3)) (h:= ?_) | refine RW.bH (h:= ?_) | (refine RW.bJ (h:= ?_);(first | refine ak.mk (And.intro (e1) (e3)) (hc:=n_ _ _) (h:= ?_) | refine ak.mk (And.intro (e1) (e3)) (hc:=lz _ _) (h:= ?_)))));refine RW.nil ⟨by kernel_rfl,au.mk (h:= ?_)⟩) | refine SW.skip ?_ | refine SW.exit ?_ | refine SW.ret ?_ | refine SW.ah rfl ?_ | refine SW.aj rfl ?_))
  exact End.mk [] (h4:=⟨by rw [e2];rfl,rfl⟩)
 ·have e1:decide (a<b)=false:=by simp;omega
  have e3:decide (a>b)=true:=by simp [h]
  have e2:fM a b=1:=by unfold fM;rw [if_neg (by omega),if_pos h]
  (repeat (first | refine SW.seq ?_ | refine SW.block ?_ | (refine SW.dL [0,1,4,5,6,11,12,13,16,19] mixed ?_;(repeat (first | refine RW.ro (And.intro (e1) (e3)) (h:= ?_) | refine RW.skip (h:= ?_) | refine RW.op (And.intro (e1) (e3)) (h:= ?_) | refine RW.eF (And.intro (e1) (e3)) (h:= ?_) | refine RW.bH (h:= ?_) | (refine RW.bJ (h:= ?_);(first | refine ak.mk (And.intro (e1) (e3)) (hc:=n_ _ _) (h:= ?_) | refine ak.mk (And.intro (e1) (e3)) (hc:=lz _ _) (h:= ?_)))));refine RW.nil ⟨by kernel_rfl,au.mk (h:= ?_)⟩) | refine SW.skip ?_ | refine SW.exit ?_ | refine SW.ret ?_ | refine SW.ah rfl ?_ | refine SW.aj rfl ?_))
  exact End.mk [] (h4:=⟨by rw [e2];rfl,rfl⟩)
theorem FO (a b:Int)(k:Nat):aM Tryz.prog cmp_Compare_uint8.f [.d (.int .u8 a),.d (.int .u8 b)] [] k 0 (.d (.int .i64 (fM a b))) []:=(FN a b).sc rfl k
theorem DE (a b:Int)(k:Nat):aM Tryz.prog cmp_Compare_uint32.f [.d (.int .u32 a),.d (.int .u32 b)] [] k 0 (.d (.int .i64 (fM a b))) []:=(DD a b).sc rfl k
end
section
attribute [local irreducible] SW RW aM SC ak au
theorem HY (a b:Int):Go.Sl.Pure Tryz.prog cmp_Or_int.f [.d (.sl 2 [.int .i64 a,.int .i64 b])] (i64 (if a=0 then b else a)):=by
 refine cmp_Or_int.enter (by first | rfl | simp [SV.ok,SV.ay]) (by first | rfl | simp [Hp.ok,Ob.ok,SV.ok,SV.ay,aL.ai]) (by simp) ?_
 dsimp only [cmp_Or_int.s,Co.M,Co.G,Co.J,Co.H,Co.N,Co.F,Co.C,Co.Z,Co.B,Co.b8,Co.aB,Co.bL,Co.i6,Co.z8,Co.bU]
 (repeat (first | refine SW.seq ?_ | refine SW.block ?_ | refine SW.g0 [0,2,3,5,6,7,8,9,14] mixed af ?_ | refine SW.skip ?_ | refine SW.exit ?_ | refine SW.ret ?_ | refine SW.ah rfl ?_ | refine SW.aj rfl ?_))
 refine SW.gR (α:={i:Nat // i≤2∧(1≤i→a=0)∧(2≤i→b=0)}) (fun i=>⟨[(8,i64 i.1),(6,.d (.sl 2 [.int .i64 a,.int .i64 b])),(7,i64 2),(3,i64 0)],[],0⟩) (fun i=>2 - i.1) ⟨0,by omega⟩ id af (round:= ?_)
 rintro ⟨i,hi,ha,hb⟩
 match i,hi,ha,hb with
 | 0,_,_,_=>
  rcases h1:(a != 0) with _ | _
  ·(repeat (first | refine SW.seq ?_ | refine SW.block ?_ | refine SW.g0 [0,2,3,5,6,7,8,9,14] mixed (h1) ?_ | refine SW.skip ?_ | refine SW.exit ?_ | refine SW.ret ?_ | refine SW.ah rfl ?_ | refine SW.aj rfl ?_))
   exact Next.mk ⟨1,by omega,fun _=>by simpa using h1,by omega⟩ id af
  ·(repeat (first | refine SW.seq ?_ | refine SW.block ?_ | refine SW.g0 [0,2,3,5,6,7,8,9,14] mixed (h1) ?_ | refine SW.skip ?_ | refine SW.exit ?_ | refine SW.ret ?_ | refine SW.ah rfl ?_ | refine SW.aj rfl ?_))
   exact End.mk [] (h4:=⟨by simp at h1;rw [if_neg h1];rfl,rfl⟩)
 | 1,_,ha,_=>
  rcases h1:(b != 0) with _ | _
  ·(repeat (first | refine SW.seq ?_ | refine SW.block ?_ | refine SW.g0 [0,2,3,5,6,7,8,9,14] mixed (h1) ?_ | refine SW.skip ?_ | refine SW.exit ?_ | refine SW.ret ?_ | refine SW.ah rfl ?_ | refine SW.aj rfl ?_))
   exact Next.mk ⟨2,by omega,fun _=>ha (by omega),fun _=>by simpa using h1⟩ id af
  ·(repeat (first | refine SW.seq ?_ | refine SW.block ?_ | refine SW.g0 [0,2,3,5,6,7,8,9,14] mixed (h1) ?_ | refine SW.skip ?_ | refine SW.exit ?_ | refine SW.ret ?_ | refine SW.ah rfl ?_ | refine SW.aj rfl ?_))
   exact End.mk [] (h4:=⟨by rw [if_pos (ha (by omega))];rfl,rfl⟩)
 | 2,_,ha,hb=>
  (repeat (first | refine SW.seq ?_ | refine SW.block ?_ | refine SW.g0 [0,2,3,5,6,7,8,9,14] mixed af ?_ | refine SW.skip ?_ | refine SW.exit ?_ | refine SW.ret ?_ | refine SW.ah rfl ?_ | refine SW.aj rfl ?_))
  exact End.mk [] (h4:=⟨by rw [if_pos (ha (by omega)),hb (by omega)];rfl,rfl⟩)
theorem HZ (a b:Int)(k:Nat):aM Tryz.prog cmp_Or_int.f [.d (.sl 2 [.int .i64 a,.int .i64 b])] [] k 0 (.d (.int .i64 (if a=0 then b else a))) []:=(HY a b).sc rfl k
def Dt.cmp (a b:Dt):Int:=if fM a.r b.r=0 then fM a.n b.n else fM a.r b.r
theorem yO (a b:Dt):Go.Sl.Pure Tryz.prog dot_Compare.f [.agg a.cells,.agg b.cells] (i64 (Dt.cmp a b)):=by
 refine dot_Compare.enter (by first | rfl | simp [SV.ok,SV.ay]) (by first | rfl | simp [Hp.ok,Ob.ok,SV.ok,SV.ay,aL.ai]) (by simp) ?_
 dsimp only [dot_Compare.s,Co.M,Co.G,Co.J,Co.H,Co.N,Co.F,Co.C,Co.Z,Co.B,Co.b8,Co.aB,Co.bL,Co.i6,Co.z8,Co.bU]
 (repeat (first | refine SW.seq ?_ | refine SW.block ?_ | (refine SW.dL [0,1,2,3,4] mixed ?_;(repeat (first | refine RW.ro (xD) (h:= ?_) | refine RW.skip (h:= ?_) | refine RW.op (xD) (h:= ?_) | refine RW.eF (xD) (h:= ?_) | refine RW.bH (h:= ?_) | (refine RW.bJ (h:= ?_);(first | refine ak.mk (xD) (hc:=FO _ _ _) (h:= ?_) | refine ak.mk (xD) (hc:=DE _ _ _) (h:= ?_) | refine ak.mk (xD) (hc:=HZ _ _ _) (h:= ?_)))));refine RW.nil ⟨by kernel_rfl,au.mk (h:= ?_)⟩) | refine SW.skip ?_ | refine SW.exit ?_ | refine SW.ret ?_ | refine SW.ah rfl ?_ | refine SW.aj rfl ?_))
 exact End.mk [] (h4:=⟨rfl,rfl⟩)
theorem yP (a b:Dt)(k:Nat):aM Tryz.prog dot_Compare.f [.agg a.cells,.agg b.cells] [] k 0 (.d (.int .i64 (Dt.cmp a b))) []:=(yO a b).sc rfl k
end
end Go.Proofs.YtaelhkkjgfobhaaGreat
namespace Go.Proofs.YtaelhkkjgfobhaaGreat
open Go.Proofs Go.Shelf
def vv:Go.Shelf.Ren:=⟨fun | 6=>160 | 15=>191 | 14=>190 | 28=>206 | 29=>207 | 20=>198 | 21=>199 | 22=>200 | 23=>201 | 24=>202 | 25=>203 | 26=>204 | 27=>205 | 46=>208 | 47=>209 | 48=>210 | 49=>211 | 50=>212 | 57=>213 | n=>n,fun | 22=>31 | 24=>37 | 25=>154 | 3=>3 | 39=>221 | 0=>0 | 53=>35 | 55=>40 | 4=>4 | 46=>228 | 45=>227 | 50=>51 | 5=>5 | 9=>9 | 66=>235 | 70=>239 | 76=>241 | 77=>242 | n=>n,fun | n=>n⟩
theorem JS:Go.Proofs.SlLaysF0.n6 Tryz.prog vv where
 mixed:=by kernel_rfl
 f6:=⟨ "slices.SortFunc[[]tranter/api.Dot,tranter/api.Dot]",by decide,Tryz.func160.trans (congrArg some (by kernel_rfl))⟩
 f14:=⟨ "slices.pdqsortCmpFunc[tranter/api.Dot]",by decide,Tryz.func190.trans (congrArg some (by kernel_rfl))⟩
 f15:= Tryz.func191.trans (congrArg some (by kernel_rfl))
 f20:=⟨ "slices.insertionSortCmpFunc[tranter/api.Dot]",by decide,Tryz.func198.trans (congrArg some (by kernel_rfl))⟩
 f21:=⟨ "slices.heapSortCmpFunc[tranter/api.Dot]",by decide,Tryz.func199.trans (congrArg some (by kernel_rfl))⟩
 f22:=⟨ "slices.breakPatternsCmpFunc[tranter/api.Dot]",by decide,Tryz.func200.trans (congrArg some (by kernel_rfl))⟩
 f23:=⟨ "slices.choosePivotCmpFunc[tranter/api.Dot]",by decide,Tryz.func201.trans (congrArg some (by kernel_rfl))⟩
 f24:=⟨ "slices.reverseRangeCmpFunc[tranter/api.Dot]",by decide,Tryz.func202.trans (congrArg some (by kernel_rfl))⟩
 f25:=⟨ "slices.partialInsertionSortCmpFunc[tranter/api.Dot]",by decide,Tryz.func203.trans (congrArg some (by kernel_rfl))⟩
 f26:=⟨ "slices.partitionEqualCmpFunc[tranter/api.Dot]",by decide,Tryz.func204.trans (congrArg some (by kernel_rfl))⟩
 f27:=⟨ "slices.partitionCmpFunc[tranter/api.Dot]",by decide,Tryz.func205.trans (congrArg some (by kernel_rfl))⟩
 f28:= Tryz.func206.trans (congrArg some (by kernel_rfl))
 f29:= Tryz.func207.trans (congrArg some (by kernel_rfl))
 f46:=⟨ "slices.siftDownCmpFunc[tranter/api.Dot]",by decide,Tryz.func208.trans (congrArg some (by kernel_rfl))⟩
 f47:= Tryz.func209.trans (congrArg some (by kernel_rfl))
 f48:= Tryz.func210.trans (congrArg some (by kernel_rfl))
 f49:=⟨ "slices.medianAdjacentCmpFunc[tranter/api.Dot]",by decide,Tryz.func211.trans (congrArg some (by kernel_rfl))⟩
 f50:=⟨ "slices.medianCmpFunc[tranter/api.Dot]",by decide,Tryz.func212.trans (congrArg some (by kernel_rfl))⟩
 f57:=⟨ "slices.order2CmpFunc[tranter/api.Dot]",by decide,Tryz.func213.trans (congrArg some (by kernel_rfl))⟩
 t0:= Tryz.underlying0
 a0:= Tryz.isAgg0
 z0:= Tryz.sizeOf0
 v0:= Tryz.zeroValue0
 t3:= Tryz.underlying3
 a3:= Tryz.isAgg3
 z3:= Tryz.sizeOf3
 v3:= Tryz.zeroValue3
 t4:= Tryz.underlying4
 a4:= Tryz.isAgg4
 z4:= Tryz.sizeOf4
 v4:= Tryz.zeroValue4
 t5:= Tryz.underlying5
 a5:= Tryz.isAgg5
 z5:= Tryz.sizeOf5
 v5:= Tryz.zeroValue5
 t9:= Tryz.underlying9
 a9:= Tryz.isAgg9
 z9:= Tryz.sizeOf9
 v9:= Tryz.zeroValue9
 t22:= Tryz.underlying31
 a22:= Tryz.isAgg31
 z22:= Tryz.sizeOf31
 v22:= Tryz.zeroValue31
 t25:= Tryz.underlying154
 a25:= Tryz.isAgg154
 z25:= Tryz.sizeOf154
 v25:= Tryz.zeroValue154
 t39:= Tryz.underlying221
 a39:= Tryz.isAgg221
 z39:= Tryz.sizeOf221
 v39:= Tryz.zeroValue221
 t45:= Tryz.underlying227
 a45:= Tryz.isAgg227
 z45:= Tryz.sizeOf227
 v45:= Tryz.zeroValue227
 t46:= Tryz.underlying228
 a46:= Tryz.isAgg228
 z46:= Tryz.sizeOf228
 v46:= Tryz.zeroValue228
 t50:= Tryz.underlying51
 a50:= Tryz.isAgg51
 z50:= Tryz.sizeOf51
 v50:= Tryz.zeroValue51
 t53:= Tryz.underlying35
 a53:= Tryz.isAgg35
 z53:= Tryz.sizeOf35
 v53:= Tryz.zeroValue35
 t55:= Tryz.underlying40
 a55:= Tryz.isAgg40
 z55:= Tryz.sizeOf40
 v55:= Tryz.zeroValue40
 t66:= Tryz.underlying235
 a66:= Tryz.isAgg235
 z66:= Tryz.sizeOf235
 v66:= Tryz.zeroValue235
 t70:= Tryz.underlying239
 a70:= Tryz.isAgg239
 z70:= Tryz.sizeOf239
 v70:= Tryz.zeroValue239
 t76:= Tryz.underlying241
 a76:= Tryz.isAgg241
 z76:= Tryz.sizeOf241
 v76:= Tryz.zeroValue241
 t77:= Tryz.underlying242
 a77:= Tryz.isAgg242
 z77:= Tryz.sizeOf242
 v77:= Tryz.zeroValue242
end Go.Proofs.YtaelhkkjgfobhaaGreat
namespace Go.Proofs.YtaelhkkjgfobhaaGreat
open Go.Sl Go.Proofs Go.Sort
section
attribute [local irreducible] SW RW aM SC ak au
theorem Dt.yQ (a b:Dt):Dt.cmp a b<0↔a.r<b.r∨a.r=b.r∧a.n<b.n:=by
 unfold Dt.cmp fM
 split <;> split <;> (try split) <;> (try split) <;> omega
theorem Dt.xR (a b:Dt):Dt.cmp a b= -Dt.cmp b a:=by
 unfold Dt.cmp fM
 repeat' split
 all_goals omega
theorem Dt.xS (a b:Dt):Dt.cmp a b=0↔a=b:=by
 obtain ⟨a1,a2⟩:=a
 obtain ⟨b1,b2⟩:=b
 simp only [Dt.mk.injEq]
 unfold Dt.cmp fM
 dsimp only
 repeat' split
 all_goals omega
theorem Dt.lt_iff (a b:Dt):ltOf Dt.cmp a b=true↔a.r<b.r∨a.r=b.r∧a.n<b.n:=by
 unfold ltOf;rw [decide_eq_true_eq];exact Dt.yQ a b
theorem Dt.swo:SWO (ltOf Dt.cmp):=by
 refine ⟨fun x=> ?_,fun x y z h1 h2=> ?_,fun x y z h1 h2=> ?_⟩
 ·rw [Bool.eq_false_iff,ne_eq,Dt.lt_iff];omega
 ·rw [Dt.lt_iff] at *;omega
 ·rw [Bool.eq_false_iff,ne_eq,Dt.lt_iff] at *;omega
def Dt.le (a b:Dt):Bool:= !ltOf Dt.cmp b a
theorem Dt.le_iff (a b:Dt):Dt.le a b=true↔a.r<b.r∨a.r=b.r∧a.n≤b.n:=by
 unfold Dt.le;rw [Bool.not_eq_true',Bool.eq_false_iff,ne_eq,Dt.lt_iff];omega
theorem Dt.le_antisymm {a b:Dt}(h1:Dt.le a b=true)(h2:Dt.le b a=true):a=b:=by
 rw [Dt.le_iff] at*
 obtain ⟨a1,a2⟩:=a
 obtain ⟨b1,b2⟩:=b
 simp only [Dt.mk.injEq] at*
 omega
def Dt.sorted (l:List Dt):List Dt:=l.mergeSort Dt.le
theorem Dt.gC (l:List Dt):(Dt.sorted l).Pairwise fun a b=>Dt.le a b=true:=
 List.pairwise_mergeSort (fun a b c h1 h2=>by rw [Dt.le_iff] at *;omega) (fun a b=>by rw [Bool.or_eq_true,Dt.le_iff,Dt.le_iff];omega) l
theorem Dt.sorted_perm (l:List Dt):(Dt.sorted l).Perm l:=List.mergeSort_perm l Dt.le
theorem Dt.kD {l l':List Dt}(h:l'.Perm l)(hp:l'.Pairwise fun a b=>Dt.le a b=true):l'=Dt.sorted l:=
 List.Perm.eq_of_pairwise (le:=fun a b=>Dt.le a b=true) (fun a b _ _ h1 h2=>Dt.le_antisymm h1 h2) hp (Dt.gC l) (h.trans (Dt.sorted_perm l).symm)
set_option maxRecDepth 100000 in
theorem rH (n:Nat)(l:List Dt)(hl:l.length<4611686018427387904)(k:Nat):aM Tryz.prog slices_SortFunc_Lapi_Dot_api_Dot.f [.gs n l.length,.fn (.func dot_Compare.f) [] []] [(n,.arr 37 2 l.length ((l.flatMap Dt.ds).map .d))] k 0 (.dM []) [(n,.arr 37 2 l.length (((Dt.sorted l).flatMap Dt.ds).map .d))]:=by
 have h:=SC.Dz (P:= Tryz.prog) (ρ:=vv) JS 2 Tryz.isAgg37 Tryz.sizeOf37 (by kernel_rfl) Dt.ds (fun _=>rfl) Dt.cmp Dt.swo dot_Compare.f [] (by kernel_rfl) (fun x y k=>yP x y k) n 37 l hl k
 unfold aM
 refine SC.mono h ?_
 rintro r F' ⟨rfl,l',hp,hs,rfl⟩
 rw [Dt.kD hp (hs.imp fun {a b} hab=>by unfold Dt.le;rw [hab];rfl)]
 exact ⟨rfl,rfl⟩
end
section
attribute [local irreducible] SW RW aM SC ak au
theorem tN (L:jo)(c n:Nat)(h:decide (n<2)=true):lk (iT 0 1 L c) n≠none:=by
 match n,h with
 | 0,_ | 1,_=>simp [iT,aa]
 | n +2,h=>
   have:n+2<2:=by simpa using h
   omega
theorem pX (q:Nat→Bool)(b m:Nat)(L:jo)(c:Nat)(hb:q b=true)(hm:q m=true):(iT b m L c).ok q=true:=by
 simp [iT,Hp.ok,Ob.ok,SV.ay,SV.ok,bM,hb,hm]
theorem wu {L:jo}{c:Nat}(hwf:MM.wf L c)(hL:L.length<1000000000):
  SC Tryz.prog slices_AppendSeq_Lapi_Dot_api_Dot.f [.d .aU,.fn (.func maps_Keys_dot_set_api_Dot_int_1.f) [] [.ptr 0 0]] (iT 0 1 L c) 2 1
   fun r F=>r= .gs 2 L.length∧∃ l:List Dt,l.Perm (MM.keys L)∧F=(2,.arr 37 2 L.length ((l.flatMap Dt.ds).map .d))::iT 0 1 L c:=
 (wq hwf hL).here (fun n=>decide (n<2)) (tN L c) (by simp [SV.ay,SV.ok]) (pX _ _ _ _ _ rfl rfl) fun r F' _ h1 h2=>⟨SV.eT (fun n hn=>by simp at hn ⊢;omega) _ h1,Hp.dy (fun n hn=>by simp at hn ⊢;omega) h2⟩
theorem yR {L:jo}{c:Nat}(hwf:MM.wf L c)(hL:L.length<1000000000):
  SB Tryz.prog slices_Collect_api_Dot.f [.fn (.func maps_Keys_dot_set_api_Dot_int_1.f) [] [.ptr 0 0]] (iT 0 1 L c) 2 1
   fun r F=>r= .gs 2 L.length∧∃ l:List Dt,l.Perm (MM.keys L)∧F=(2,.arr 37 2 L.length ((l.flatMap Dt.ds).map .d))::iT 0 1 L c:=by
 refine slices_Collect_api_Dot.enter (by simp [SV.ok,SV.ay]) (pX _ _ _ _ _ rfl rfl) (by simp) ?_
 dsimp only [slices_Collect_api_Dot.s,Co.M,Co.G,Co.J,Co.H,Co.N,Co.F,Co.C,Co.Z,Co.B,Co.b8,Co.aB,Co.bL,Co.i6,Co.z8,Co.bU]
 refine SW.seq ?_
 refine SW.g0 [0,2] mixed af ?_
 refine SW.seq (SW.yu ?_)
 (repeat (first | refine bw.op af (h:= ?_) | refine bw.eF af (h:= ?_) | refine bw.skip (h:= ?_)))
 refine bw.bJ (wu hwf hL) (fun _ _ h=>h) (h:= ?_)
 rintro v F' ⟨rfl,l,hl,rfl⟩
 simp only [bV,dg,dh,fZ,gw,di,lk,List.lookup,Nat.reduceBEq,BEq.rfl,beq_self_eq_true,if_true,if_false,reduceIte,Nat.reduceEqDiff,Bool.false_eq_true,Option.isSome_some,Option.isSome_none,Nat.reduceAdd,iT]
 (repeat (first | refine bw.op af (h:= ?_) | refine bw.eF af (h:= ?_) | refine bw.skip (h:= ?_)))
 refine bw.nil (SW.ret ?_)
 exact End.mk ((2,.arr 37 2 L.length ((l.flatMap Dt.ds).map .d))::iT 0 1 L c) (h4:=⟨rfl,l,hl,rfl⟩) (h6:=by simp [iT,Hp.ok,Ob.ok,SV.ay,SV.ok,SV.bh,bM])
theorem yS {L:jo}{c:Nat}(hwf:MM.wf L c)(hL:L.length<1000000000):
  SC Tryz.prog slices_Collect_api_Dot.f [.fn (.func maps_Keys_dot_set_api_Dot_int_1.f) [] [.ptr 0 0]] (iT 0 1 L c) 2 1
   fun r F=>r= .gs 2 L.length∧∃ l:List Dt,l.Perm (MM.keys L)∧F=(2,.arr 37 2 L.length ((l.flatMap Dt.ds).map .d))::iT 0 1 L c:=
 (yR hwf hL).here (fun n=>decide (n<2)) (tN L c) (by simp [SV.ay,SV.ok]) (pX _ _ _ _ _ rfl rfl) fun r F' _ h1 h2=>⟨SV.eT (fun n hn=>by simp at hn ⊢;omega) _ h1,Hp.dy (fun n hn=>by simp at hn ⊢;omega) h2⟩
theorem uu {L:jo}{c:Nat}(hwf:MM.wf L c)(hL:L.length<1000000000):
  SB Tryz.prog slices_SortedFunc_api_Dot.f [.fn (.func maps_Keys_dot_set_api_Dot_int_1.f) [] [.ptr 0 0],.fn (.func dot_Compare.f) [] []] (iT 0 1 L c) 2 0
   fun r F=>r=bS (Dt.sorted (MM.keys L))∧F=iT 0 1 L c:=by
 refine slices_SortedFunc_api_Dot.enter (by simp [SV.ok,SV.ay]) (pX _ _ _ _ _ rfl rfl) (by simp) ?_
 dsimp only [slices_SortedFunc_api_Dot.s,Co.M,Co.G,Co.J,Co.H,Co.N,Co.F,Co.C,Co.Z,Co.B,Co.b8,Co.aB,Co.bL,Co.i6,Co.z8,Co.bU]
 refine SW.seq ?_
 refine SW.g0 [0,1,4,5] mixed af ?_
 refine SW.seq (SW.yu ?_)
 (repeat (first | refine bw.op af (h:= ?_) | refine bw.eF af (h:= ?_) | refine bw.skip (h:= ?_)))
 refine bw.bJ (yS hwf hL) (fun _ _ h=>h) (h:= ?_)
 rintro v F' ⟨rfl,l,hl,rfl⟩
 simp only [bV,dg,dh,fZ,gw,di,lk,List.lookup,Nat.reduceBEq,BEq.rfl,beq_self_eq_true,if_true,if_false,reduceIte,Nat.reduceEqDiff,Bool.false_eq_true,Option.isSome_some,Option.isSome_none,Nat.reduceAdd,iT]
 (repeat (first | refine bw.op af (h:= ?_) | refine bw.eF af (h:= ?_) | refine bw.skip (h:= ?_)))
 refine bw.nil ?_
 have hlen:l.length=L.length:=by rw [hl.length_eq];simp [MM.keys]
 refine SW.seq (SW.yu ?_)
 (repeat (first | refine bw.op af (h:= ?_) | refine bw.eF af (h:= ?_) | refine bw.skip (h:= ?_)))
 rw [← hlen]
 refine bw.oC af (rH 2 l (by omega) 3) (h:= ?_)
 refine bw.nil ?_
 refine SW.seq ?_
 refine SW.g0 [0,1,4,5] mixed af ?_
 have fQ:(Dt.sorted l).length=l.length:=(Dt.sorted_perm l).length_eq
 have hse:Dt.sorted l=Dt.sorted (MM.keys L):=Dt.kD ((Dt.sorted_perm l).trans hl) (Dt.gC l)
 refine SW.weak id (st1:=⟨[(4,.gs 2 l.length)],[(2,.arr 37 2 l.length (((Dt.sorted l).flatMap Dt.ds).map .d)),(0,.box 174 [.mp 1]),(1,.map (an Dt.cells iv L) c)],3⟩) (aJ.same (by simp) (by simp [aY,List.lookup,SV.aC,SV.ok]) (by simp [Hp.ok,Ob.ok,SV.ay,SV.ok,SV.bh,bM]) (by simp [aa])) ?_
 refine SW.freeze 2 ((Dt.sorted l).flatMap Dt.ds) rfl rfl ?_
 have e1:kQ 2 l.length ((Dt.sorted l).flatMap Dt.ds) [(4,.gs 2 l.length)]=[(4,bS (Dt.sorted (MM.keys L)))]:=by
  rw [← hse]
  simp only [kQ,List.map_cons,List.map_nil,SV.iB,if_true,bS,fQ]
 show Go.Sl.SW _ _ _ _ ⟨kQ 2 l.length ((Dt.sorted l).flatMap Dt.ds) [(4,.gs 2 l.length)],iT 0 1 L c,3⟩ _
 rw [e1]
 refine SW.ret ?_
 exact End.mk (iT 0 1 L c) (h3:=fun _ _ h=>h) (h4:=⟨rfl,rfl⟩) (h5:=rfl) (h6:=pX _ _ _ _ _ rfl rfl)
theorem uw {L:jo}{c:Nat}(hwf:MM.wf L c)(hL:L.length<1000000000)(k:Nat)(b m:Nat)(JQ:b≠m):
  aM Tryz.prog slices_SortedFunc_api_Dot.f [.fn (.func maps_Keys_dot_set_api_Dot_int_1.f) [] [.ptr b 0],.fn (.func dot_Compare.f) [] []] (iT b m L c) k 0 (bS (Dt.sorted (MM.keys L))) (iT b m L c):=by
 have h:=SB.qA [b,m] (uu hwf hL) (by simp [JQ]) (fun i hi=>tN L c i (by simpa using hi)) k
 simpa [SV.aW,SV.aC,gx,iT,Hp.aC,Ob.aC,eC] using h
theorem FP (L:jo)(c:Nat):SB Tryz.prog maps_Keys_dot_set_api_Dot_int.f [.mp 0] [(0,.map (an Dt.cells iv L) c)] 1 1 fun r F=>r= .fn (.func maps_Keys_dot_set_api_Dot_int_1.f) [] [.ptr 1 0]∧F=[(1,.box 174 [.mp 0]),(0,.map (an Dt.cells iv L) c)]:=by
 refine maps_Keys_dot_set_api_Dot_int.enter rfl (by simp [Hp.ok,Ob.ok,bM]) (by simp) ?_
 dsimp only [maps_Keys_dot_set_api_Dot_int.s,Co.M,Co.G,Co.J,Co.H,Co.N,Co.F,Co.C,Co.Z,Co.B,Co.b8,Co.aB,Co.bL,Co.i6,Co.z8,Co.bU]
 (repeat (first | refine SW.seq ?_ | refine SW.block ?_ | refine SW.g0 [0,1,2] mixed af ?_ | refine SW.skip ?_ | refine SW.exit ?_ | refine SW.ret ?_ | refine SW.ah rfl ?_ | refine SW.aj rfl ?_))
 exact End.mk [(1,.box 174 [.mp 0]),(0,.map (an Dt.cells iv L) c)] (h4:=⟨rfl,rfl⟩) (h6:=by simp [Hp.ok,Ob.ok,SV.ay,SV.ok,bM])
theorem FQ (L:jo)(c:Nat)(n k:Nat):aM Tryz.prog maps_Keys_dot_set_api_Dot_int.f [.mp n] [(n,.map (an Dt.cells iv L) c)] k 1 (.fn (.func maps_Keys_dot_set_api_Dot_int_1.f) [] [.ptr k 0]) [(k,.box 174 [.mp n]),(n,.map (an Dt.cells iv L) c)]:=by
 have h:=SB.qA [n] (FP L c) (by simp) (fun i hi=>by cases i with | zero=>simp [aa] | succ i=>simp at hi) k
 simpa [SV.aW,SV.aC,gx,Hp.aC,Ob.aC,eC] using h
theorem FR {L:jo}{c:Nat}(hwf:MM.wf L c)(hL:L.length<1000000000):SB Tryz.prog dot_set_list.f [.mp 0] [(0,.map (an Dt.cells iv L) c)] 1 0 fun r F=>r=bS (Dt.sorted (MM.keys L))∧F=[(0,.map (an Dt.cells iv L) c)]:=by
 refine dot_set_list.enter rfl (by simp [Hp.ok,Ob.ok,bM]) (by simp) ?_
 dsimp only [dot_set_list.s,Co.M,Co.G,Co.J,Co.H,Co.N,Co.F,Co.C,Co.Z,Co.B,Co.b8,Co.aB,Co.bL,Co.i6,Co.z8,Co.bU]
 refine SW.seq ?_
 refine SW.g0 [0,2] mixed af ?_
 refine SW.seq (SW.yu ?_)
 (repeat (first | refine bw.op af (h:= ?_) | refine bw.eF af (h:= ?_) | refine bw.skip (h:= ?_)))
 refine bw.oC af (FQ L c 0 1) (h:= ?_)
 refine bw.oC af (uw hwf hL 2 1 0 (by decide)) (h:= ?_)
 (repeat (first | refine bw.op af (h:= ?_) | refine bw.eF af (h:= ?_) | refine bw.skip (h:= ?_)))
 refine bw.nil (SW.ret ?_)
 exact End.mk [(0,.map (an Dt.cells iv L) c)] (h4:=⟨rfl,rfl⟩) (h6:=by simp [Hp.ok,Ob.ok,SV.ay,SV.ok,bM])
theorem FT {L:jo}{c:Nat}(hwf:MM.wf L c)(hL:L.length<1000000000)(n k:Nat):aM Tryz.prog dot_set_list.f [.mp n] [(n,.map (an Dt.cells iv L) c)] k 0 (bS (Dt.sorted (MM.keys L))) [(n,.map (an Dt.cells iv L) c)]:=by
 have h:=SB.qA [n] (FR hwf hL) (by simp) (fun i hi=>by cases i with | zero=>simp [aa] | succ i=>simp at hi) k
 simpa [SV.aW,SV.aC,gx,Hp.aC,Ob.aC,eC] using h
end
section
attribute [local irreducible] SW RW aM SC ak au
theorem pY {α:Type}{motive:List α→Prop}(nil:motive [])(snoc:∀ l x,motive l→motive (l++[x]))(l:List α):motive l:=by
 have key:∀ r:List α,motive r.reverse:=fun r=>by
  induction r with
  | nil=>exact nil
  | cons x r ih=>rw [List.reverse_cons];exact snoc _ _ ih
 simpa using key l.reverse
theorem wv (l:List Dt):MM.wf (mX l).1 (mX l).2:=by
 induction l using pY with
 | nil=>exact MM.kB
 | snoc l d ih=>rw [n9];exact MM.jm ih d 1
theorem DF (l:List Dt)(d:Dt):MM.has (mX l).1 d=decide (d∈l):=by
 induction l using pY with
 | nil=>rfl
 | snoc l x ih=>rw [n9,MM.E9,ih,Bool.eq_iff_iff];simp [or_comm]
theorem DG (l:List Dt):(mX l).1.length≤l.length:=by
 induction l using pY with
 | nil=>exact Nat.le_refl _
 | snoc l x ih=>
  rw [n9]
  have:=congrArg List.length (MM.pJ (L:=(mX l).1) (c:=(mX l).2) (a:=x) (v:=1))
  simp only [MM.keys,List.length_map] at this
  rw [this]
  split <;> simp <;> omega
def Dt.set (l:List Dt):List Dt:=Dt.sorted (MM.keys (mX l).1)
def Dt.pZ (l:List Dt):Prop:=l.Pairwise fun a b=>Dt.cmp a b<0
theorem Dt.jA {l m:List Dt}(h1:Dt.pZ l)(h2:Dt.pZ m)(h:∀ d,d∈l↔d∈m):l=m:=by
 have nd:∀ {l:List Dt},Dt.pZ l→l.Nodup:=fun h=>h.imp fun {a b} hab e=>by
  subst e;rw [(Dt.xS a a).2 rfl] at hab;omega
 refine List.Perm.eq_of_pairwise (le:=fun a b=>Dt.cmp a b<0) (fun a b _ _ h1 h2=> ?_) h1 h2 ((List.perm_ext_iff_of_nodup (nd h1) (nd h2)).2 h)
 rw [Dt.xR] at h1;omega
theorem Dt.p0 {l:List Dt}(h:l.Nodup):Dt.pZ (Dt.sorted l):=by
 have h1:=Dt.gC l
 have h2:(Dt.sorted l).Nodup:=(Dt.sorted_perm l).nodup_iff.2 h
 unfold Dt.pZ
 have:=h1.and h2
 refine this.imp fun {a b} hab=> ?_
 obtain ⟨e1,e2⟩:=hab
 rw [Dt.le_iff] at e1
 rw [Dt.yQ]
 obtain ⟨a1,a2⟩:=a
 obtain ⟨b1,b2⟩:=b
 simp only [ne_eq,Dt.mk.injEq] at*
 omega
theorem Dt.jI (l:List Dt):Dt.pZ (Dt.set l):=Dt.p0 (wv l).keys
theorem Dt.mem_set {l:List Dt}{d:Dt}:d∈Dt.set l↔d∈l:=by
 unfold Dt.set
 rw [(Dt.sorted_perm _).mem_iff,← MM.iV,DF];simp
theorem DH (l:List Dt)(hl:l.length<4611686018427387904)(k:Nat):aM Tryz.prog dot_setOf.f [bS l] [] k 1 (.mp k) [(k,.map (an Dt.cells iv (mX l).1) (mX l).2)]:=by
 have h:=SB.new (DA l hl) k
 simpa [SV.aC,yN,Hp.aC,Ob.aC,eC,gx] using h
theorem FU (l:List Dt)(hl:l.length<1000000000):Go.Sl.Pure Tryz.prog dot_Sort.f [bS l] (bS (Dt.set l)):=by
 refine dot_Sort.enter (by first | rfl | simp [SV.ok,SV.ay]) (by first | rfl | simp [Hp.ok,Ob.ok,SV.ok,SV.ay,aL.ai]) (by simp) ?_
 dsimp only [dot_Sort.s,Co.M,Co.G,Co.J,Co.H,Co.N,Co.F,Co.C,Co.Z,Co.B,Co.b8,Co.aB,Co.bL,Co.i6,Co.z8,Co.bU]
 refine SW.seq ?_
 refine SW.g0 [0,2] mixed af ?_
 refine SW.seq (SW.yu ?_)
 (repeat (first | refine bw.op af (h:= ?_) | refine bw.eF af (h:= ?_) | refine bw.skip (h:= ?_)))
 refine bw.oC af (DH l (by omega) 0) (h:= ?_)
 refine bw.oC af (FT (wv l) (Nat.lt_of_le_of_lt (DG l) hl) 0 1) (h:= ?_)
 (repeat (first | refine bw.op af (h:= ?_) | refine bw.eF af (h:= ?_) | refine bw.skip (h:= ?_)))
 refine bw.nil (SW.ret ?_)
 exact End.mk [] (h4:=⟨rfl,rfl⟩)
theorem sr (l:List Dt)(hl:l.length<1000000000)(k:Nat):aM Tryz.prog dot_Sort.f [bS l] [] k 0 (bS (Dt.set l)) []:=(FU l hl).sc rfl k
def leftOf (L:jo)(p:Dt→Bool)(xs:jo):jo:=L.filter fun x=> !(decide (x∈xs) && p x.2.1)
end
end Go.Proofs.YtaelhkkjgfobhaaGreat
namespace Go.Proofs.YtaelhkkjgfobhaaGreat
open Go.Sl Go.Proofs
attribute [local irreducible] SW RW aM SC ak au
end Go.Proofs.YtaelhkkjgfobhaaGreat
namespace Go.Proofs.YtaelhkkjgfobhaaGreat
open Go.Sl Go.Proofs Go.Sort
section
attribute [local irreducible] SW RW aM SC ak au
theorem H6 (l:List Dt)(d:Dt)(hl:l.length<1000000000):Go.Sl.Pure Tryz.prog ref03_In.f [bS l,.agg d.cells] (bl (decide (d∈l))):=by
 refine ref03_In.enter (by first | rfl | simp [SV.ok,SV.ay]) (by first | rfl | simp [Hp.ok,Ob.ok,SV.ok,SV.ay,aL.ai]) (by simp) ?_
 dsimp only [ref03_In.s,Co.M,Co.G,Co.J,Co.H,Co.N,Co.F,Co.C,Co.Z,Co.B,Co.b8,Co.aB,Co.bL,Co.i6,Co.z8,Co.bU]
 (repeat (first | refine SW.seq ?_ | refine SW.block ?_ | refine SW.g0 [0,1,3,4,5,9,17] mixed af ?_ | refine SW.skip ?_ | refine SW.exit ?_ | refine SW.ret ?_ | refine SW.ah rfl ?_ | refine SW.aj rfl ?_))
 refine SW.gR (α:={i:Nat // i≤l.length∧∀ j x,j<i→l[j]? =some x→x≠d}) (fun i=>⟨[(5,i64 i.1),(0,bS l),(3,.ptr 0 0)],[(0,.box 37 d.cells)],1⟩) (fun i=>l.length - i.1) ⟨0,by omega,by omega⟩ id af (round:= ?_)
 rintro ⟨i,hi,hs⟩
 by_cases h:i<l.length
 ·obtain ⟨x,hx⟩:=br h
  have h1:decide ((i:Int)<l.length)=true:=by simp;exact h
  by_cases hd:x=d
  ·have h2:decide (x=d)=true:=by simp [hd]
   (repeat (first | refine SW.seq ?_ | refine SW.block ?_ | refine SW.g0 [0,1,3,4,5,9,17] mixed (And.intro (h1) (And.intro (gI hx) (h2))) ?_ | refine SW.skip ?_ | refine SW.exit ?_ | refine SW.ret ?_ | refine SW.ah rfl ?_ | refine SW.aj rfl ?_))
   have:d∈l:=by rw [← hd];exact List.mem_of_getElem? hx
   exact End.mk [] (h4:=⟨by simp [this,eP,bl],rfl⟩)
  ·have h2:decide (x=d)=false:=by simp [hd]
   (repeat (first | refine SW.seq ?_ | refine SW.block ?_ | refine SW.g0 [0,1,3,4,5,9,17] mixed (And.intro (h1) (And.intro (gI hx) (h2))) ?_ | refine SW.skip ?_ | refine SW.exit ?_ | refine SW.ret ?_ | refine SW.ah rfl ?_ | refine SW.aj rfl ?_))
   exact ⟨⟨i+1,by omega,fun j y hj hy=>by
    by_cases e:j=i
    ·subst e;rw [hx] at hy;injection hy with hy;subst hy;exact hd
    ·exact hs j y (by omega) hy⟩,id,by simp;omega,aJ.mk af⟩
 ·have h1:decide ((i:Int)<l.length)=false:=by simp;omega
  have h2:i=l.length:=by omega
  subst h2
  (repeat (first | refine SW.seq ?_ | refine SW.block ?_ | refine SW.g0 [0,1,3,4,5,9,17] mixed (h1) ?_ | refine SW.skip ?_ | refine SW.exit ?_ | refine SW.ret ?_ | refine SW.ah rfl ?_ | refine SW.aj rfl ?_))
  have:d∉l:=fun hm=>by
   obtain ⟨j,hj⟩:=List.mem_iff_getElem?.1 hm
   exact hs j d (bu hj) hj rfl
  exact End.mk [] (h4:=⟨by simp [this,eP,bl],rfl⟩)
theorem DI (l:List Dt)(d:Dt)(hl:l.length<1000000000)(k:Nat):aM Tryz.prog ref03_In.f [bS l,.agg d.cells] [] k 0 (.d (.bool (decide (d∈l)))) []:=(H6 l d hl).sc rfl k
def Dt.ins (l:List Dt)(d:Dt):List Dt:=if d∈l then l else l.takeWhile (fun x=>decide (Dt.cmp x d<0))++d::l.dropWhile (fun x=>decide (Dt.cmp x d<0))
end
section
attribute [local irreducible] SW RW aM SC ak au
theorem Dt.FV {l:List Dt}{d x:Dt}:x∈Dt.ins l d↔x∈l∨x=d:=by
 unfold Dt.ins
 split
 ·rename_i h
  refine ⟨.inl,fun h'=> ?_⟩
  rcases h' with h' | rfl
  ·exact h'
  ·exact h
 ·have:=List.takeWhile_append_dropWhile (p:=fun x=>decide (Dt.cmp x d<0)) (l:=l)
  have h2:x∈l↔x∈l.takeWhile (fun x=>decide (Dt.cmp x d<0))∨x∈l.dropWhile (fun x=>decide (Dt.cmp x d<0)):=by
   rw [← List.mem_append,this]
  rw [h2,List.mem_append,List.mem_cons]
  constructor
  ·rintro (h | h | h)
   ·exact .inl (.inl h)
   ·exact .inr h
   ·exact .inl (.inr h)
  ·rintro ((h | h) | h)
   ·exact .inl h
   ·exact .inr (.inr h)
   ·exact .inr (.inl h)
theorem Dt.A_ {l:List Dt}(h:Dt.pZ l)(d:Dt):Dt.pZ (Dt.ins l d):=by
 unfold Dt.ins
 split
 ·exact h
 ·rename_i hd
  induction l with
  | nil=>simp [Dt.pZ]
  | cons x l ih=>
   have h1:=List.pairwise_cons.1 h
   by_cases hx:Dt.cmp x d<0
   ·simp only [List.takeWhile_cons,List.dropWhile_cons,hx,decide_true,if_true,List.cons_append]
    refine List.pairwise_cons.2 ⟨fun y hy=> ?_,ih h1.2 fun hm=>hd (List.mem_cons_of_mem _ hm)⟩
    rcases List.mem_append.1 hy with hy | hy
    ·exact h1.1 y ((List.takeWhile_sublist _).subset hy)
    ·rcases List.mem_cons.1 hy with rfl | hy
     ·exact hx
     ·exact h1.1 y ((List.dropWhile_sublist _).subset hy)
   ·simp only [List.takeWhile_cons,List.dropWhile_cons,hx,decide_false,Bool.false_eq_true,if_false,List.nil_append]
    have hlt:Dt.cmp d x<0:=by
     have e:=Dt.xR d x
     have:Dt.cmp x d≠0:=fun e=>hd (by rw [(Dt.xS x d).1 e];simp)
     omega
    refine List.pairwise_cons.2 ⟨fun y hy=> ?_,h⟩
    rcases List.mem_cons.1 hy with rfl | hy
    ·exact hlt
    ·have:=h1.1 y hy
     rw [Dt.yQ] at*
     omega
def Dt.DJ (l:List Dt):List Dt:=l.foldl Dt.ins []
theorem Dt.vw (l:List Dt)(d:Dt):Dt.DJ (l++[d])=Dt.ins (Dt.DJ l) d:=by simp [Dt.DJ,List.foldl_append]
theorem Dt.od (l:List Dt):Dt.DJ l=Dt.set l:=by
 refine Dt.jA ?_ (Dt.jI l) fun d=> ?_
 ·induction l using pY with
  | nil=>exact List.Pairwise.nil
  | snoc l d ih=>rw [Dt.vw];exact Dt.A_ ih d
 ·rw [Dt.mem_set]
  induction l using pY with
  | nil=>simp [Dt.DJ]
  | snoc l x ih=>rw [Dt.vw,Dt.FV,ih];simp
end
section
attribute [local irreducible] SW RW aM SC ak au
end
end Go.Proofs.YtaelhkkjgfobhaaGreat
