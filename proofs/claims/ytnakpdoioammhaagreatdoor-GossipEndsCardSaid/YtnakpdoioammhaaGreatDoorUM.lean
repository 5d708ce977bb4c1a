/-
 A region in one step whose order conditions want facts.
-/
import Derived.Test.YtnakpdoioammhaaGreatDoorUK
import Derived.Test.YtnakpdoioammhaaGreatDoorUL
import Derived.Shelf.SlSortCmp.NoneTotal
set_option linter.unusedVariables false
set_option linter.unusedSimpArgs false
set_option linter.unusedSectionVars false
namespace Go.Sl
section
variable {P:Program} {N k0:Nat} {st xO:St} {Q:Exit→St→Prop} {ei:List SI} {bs:List Nat} {draw:Bool} {Φ C X:Prop}
end
end Go.Sl
namespace Go.Sl
open Go.RowKit
variable {P:Program}
end Go.Sl
namespace Go.Sl
open Go.RowKit Go.Sort Go.Proofs Go.Shelf
variable {P:Program}
structure Elem {A:Type}(ds:A→List DV)(M:Mem) where
 cells:List Value
 mod:A
 rep:aQ (fun _=>False) (fun _=>⟨0,0,true⟩) M ((ds mod).map .d) cells
theorem aQ.Dm {p:Nat→Prop}{μ:Nat→Nm}{M:Mem}{xs:List DV}{vs:List Value}(h:aQ p μ M (xs.map .d) vs)(p':Nat→Prop)(bh:Nat→Nm):aQ p' bh M (xs.map .d) vs:=by
 induction xs generalizing vs with
 | nil=>exact aQ.aX.2 (aQ.aX.1 h)
 | cons x xs ih=>
  obtain ⟨u,us,e,h1,h2⟩:=aQ.aI.1 h
  exact aQ.aI.2 ⟨u,us,e,Rp.cu.2 (Rp.cu.1 h1),ih h2⟩
theorem qO {A:Type}(ds:A→List DV){p:Nat→Prop}{μ:Nat→Nm}{M:Mem}:∀ (l:List A) (us:List Value),aQ p μ M ((l.flatMap ds).map .d) us→
  ∃ es:List (Elem ds M),es.map (·.mod)=l∧es.flatMap (·.cells)=us
 | [],us,h=>⟨[],rfl,by simpa using (aQ.aX.1 h).symm⟩
 | x::l,us,h=>by
  have h1:aQ p μ M ((ds x).map .d) (us.take (ds x).length):=by simpa using aQ.take (ds x).length h
  have h2:aQ p μ M ((l.flatMap ds).map .d) (us.drop (ds x).length):=by simpa using aQ.drop (ds x).length h
  obtain ⟨es,e1,e2⟩:=qO ds l _ h2
  exact ⟨⟨us.take (ds x).length,x,h1.Dm _ _⟩::es,by simp [e1],by simp [e2]⟩
theorem qP {A:Type}(ds:A→List DV){p:Nat→Prop}{μ:Nat→Nm}{M:Mem}:∀ (es:List (Elem ds M)),aQ p μ M (((es.map (·.mod)).flatMap ds).map .d) (es.flatMap (·.cells))
 | []=>aQ.aX.2 rfl
 | x::es=>by
  have:=aQ.append (x.rep.Dm p μ) (qP ds es)
  simpa using this
theorem qQ {A:Type}{ds:A→List DV}{M:Mem}[Inhabited (Elem ds M)]{k:Nat}(hk:∀ x:Elem ds M,x.cells.length=k)(es:List (Elem ds M)):(flatK (fun x:Elem ds M=>x.cells) k es.toArray).toList=es.flatMap (·.cells):=by
 have hl:=eB (fun x:Elem ds M=>x.cells) k hk es
 apply List.ext_getElem?
 intro t
 by_cases ht:t<es.length*k
 ·have mq:0<k:=by
    rcases Nat.eq_zero_or_pos k with h | h;· subst h;simp at ht
    ·exact h
  have hi:t / k<es.length:=Nat.div_lt_of_lt_mul (by rwa [Nat.mul_comm] at ht)
  have e1:=qo (fun x:Elem ds M=>x.cells) k hk es (t / k) (t % k) es[t / k] (List.getElem?_eq_getElem hi) (Nat.mod_lt _ mq)
  have e2:t / k*k+t % k=t:=by rw [Nat.mul_comm];exact Nat.div_add_mod t k
  rw [e2] at e1
  rw [e1]
  have e3:=get_flatK (fun x:Elem ds M=>x.cells) k es.toArray t (by simpa using ht)
  have e4:t<(flatK (fun x:Elem ds M=>x.cells) k es.toArray).size:=by simpa using ht
  have hc:t % k<es[t / k].cells.length:=by rw [hk];exact Nat.mod_lt _ mq
  rw [getElem!_pos _ t e4] at e3
  rw [Array.getElem?_toList,Array.getElem?_eq_getElem e4,e3]
  simp [hi,hc]
 ·rw [List.getElem?_eq_none (by simpa using ht),List.getElem?_eq_none (by rw [hl];omega)]
theorem Ev.grown {new:Nat→Prop}{μ bh:Nat→Nm}{M M':Mem}{w w':World}{c':Nat→Option Ob}(h:Ev (lk []) new μ M w c' bh M' w'):∃ q os,w'=grow (w.drewN q) os:=by
 refine ⟨w'.drawn - w.drawn,w'.heap.extract w.heap.size w'.heap.size,?_⟩
 have hh:w'.heap=w.heap++w'.heap.extract w.heap.size w'.heap.size:=by
  apply Array.ext_getElem?
  intro i
  rw [Array.getElem?_append]
  split
  ·rename_i hi
   exact (h.frame i hi fun n hn=>by simp [bq] at hn).1
  ·rename_i hi
   rw [Array.getElem?_extract]
   have:=h.size
   split
   ·rw [show w.heap.size+(i - w.heap.size)=i by omega]
   ·rename_i hj
    rw [Array.getElem?_eq_none (by omega)]
 have h1:=h.os
 have h2:=h.tape
 have h3:=h.output
 have hd:w'.drawn=w.drawn+(w'.drawn - w.drawn):=by have:=h2.2;omega
 obtain ⟨a,b,c,d,e⟩:=w'
 obtain ⟨a',b',c',d',e'⟩:=w
 simp only [grow,World.drewN]
 simp only at hh h1 h2 h3 hd
 replace h2:=h2.1
 simp only at h2
 subst h1;subst h2;subst h3
 rw [← hd,← hh]
theorem SC.AY {ρ:Ren}{A:Type}(L:SlLaysF0.n6 P ρ)(sz:Nat)(aE:∀ w,(isAgg (ρ.t 24)).run P w= .ok true w)(zE:∀ w,(Go.sizeOf (ρ.t 24)).run P w= .ok sz w)(cT:gU P (ρ.f 6)=true)
  (ds:A→List DV) (hds:∀ x,(ds x).length=sz) (cf:A→A→Int) (hO:SWO (ltOf cf)) (g:Nat) (FC:List SV) (hg:gU P g=true)
  (hcmp:∀ (x y:A) (k:Nat),bB P g ([.agg ((ds x).map .d),.agg ((ds y).map .d)]++FC) [] k 0 (.d (.int .i64 (cf x y))) []) (n e:Nat) (l:List A) (hl:l.length<4611686018427387904) (k:Nat):
  SC P (ρ.f 6) [.gs n l.length,.fn (.func g) [] FC] [(n,.arr e sz l.length ((l.flatMap ds).map .d))] k 0
   (fun r F'=>r= .cW []∧∃ l':List A,l'.Perm l∧l'.Pairwise (fun a b=>ltOf cf b a=false)∧F'=[(n,.arr e sz l.length ((l'.flatMap ds).map .d))]):=by
 refine ⟨cT,fun p μ M w vals hp hr hS=> ?_⟩
 obtain ⟨u1,us,e1,r1,r2⟩:=aQ.aI.1 hr
 obtain ⟨u2,us2,e2,r3,r4⟩:=aQ.aI.1 r2
 have e3:=aQ.aX.1 r4
 subst e3;subst e2
 obtain ⟨fs,cs,rfl,ra,rc⟩:=Rp.nU.1 r3
 have ra':=aQ.aX.1 ra
 have hvals:vals= #[u1,.func (.func g) fs cs]:=by cases vals;simpa using e1
 have has:fs= #[]:=by cases fs;simpa using ra'
 subst has;subst hvals
 obtain ⟨hpn,bw,hMn⟩:=hS.obs n (.arr e sz l.length ((l.flatMap ds).map .d)) (by simp [cq])
 by_cases h0:l=[]
 ·subst h0
  have gi:∃ A cap,u1= .slice A 0 cap:=by
   rcases r1.ji with ⟨_,rfl⟩ | ⟨_,_,A,rfl⟩ <;> exact ⟨_,_,rfl⟩
  obtain ⟨A',cap,rfl⟩:=gi
  refine (AnyF.slices_SortFunc_none L A' cap (.func (.func g) #[] cs) w).mono ?_
  rintro e w' ⟨rfl,rfl⟩
  exact ⟨.cW [],_,μ,M,.tuple #[],rfl,⟨rfl,[],List.Perm.refl _,List.Pairwise.nil,rfl⟩,Rp.dN.2 ⟨#[],rfl,aQ.aX.2 rfl⟩,hS.more fun n h=> .inl h,Ev.refl _ _ _ _ _ fun n _ h=>by omega⟩
 ·have hpos:0<l.length:=by cases l with
   | nil=>exact absurd rfl h0
   | cons x l=>simp
  rcases bw with ⟨_,hz,_⟩ | ⟨hlive,vs,hb,q1,q2,q3,q4,hrow⟩
  ·omega
  have hMn:=hMn hlive
  obtain ⟨_,rfl⟩:(μ n).live=true∧u1= .slice (some ⟨(μ n).blk,0,none⟩) l.length (μ n).cap:=by
   rcases r1.ji with h | ⟨h,_⟩
   ·exact h
   ·rw [hlive] at h;cases h
  obtain ⟨es,m1,m2⟩:=qO ds l _ hrow
  have hlen:es.length=l.length:=by rw [← m1];simp
  have hk:∀ x:Elem ds M,x.cells.length=sz:=fun x=>by
   have:=x.rep.length
   rw [this];simp [hds]
  have:Inhabited (Elem ds M):=⟨es[0]'(by omega)⟩
  have hone:∀ x:Elem ds M,∀ v∈x.cells,v.oneCell'=true:=fun x=>aQ.Aj (by simp [SV.aZ]) x.rep
  have hblk:(μ n).blk<w.heap.size:=(Array.getElem?_eq_some_iff.1 hb).1
  have hfl:=qQ (k:=sz) hk es
  have hcut:sz*l.length≤vs.size:=by rw [q4,Nat.mul_comm];exact Nat.mul_le_mul_right _ q2
  have hH:HoldsK (fun x:Elem ds M=>x.cells) sz w (μ n).blk 0 es.toArray:=by
   intro j hj
   have hj':j<l.length*sz:=by simpa [hlen] using hj
   have hgot:(flatK (fun x:Elem ds M=>x.cells) sz es.toArray)[j]! =vs[j]! :=by
    have hv:j<vs.size:=by rw [Nat.mul_comm] at hcut;omega
    rw [getElem!_pos _ j hj,getElem!_pos vs j hv]
    have:=congrArg (fun l=>l[j]?) (hfl.trans m2)
    simp only [Array.getElem?_toList,List.getElem?_take,hj',if_true,Array.getElem?_eq_getElem hj,Array.getElem?_eq_getElem hv] at this
    exact Option.some.inj this
   have hv:j<vs.size:=by rw [Nat.mul_comm] at hcut;omega
   refine ⟨?_,?_⟩
   ·rw [Nat.zero_add,cell_of hb,hgot,getElem!_pos vs j hv,Array.getElem?_eq_getElem hv];rfl
   ·simp [World.frozen?,hb]
  have hmem:∀ (q:Nat) (os:Array Obj) (dk:Array (Elem ds M)) (b o:Nat) (v:Value),M b o=some v→(sortWorldK (fun x:Elem ds M=>x.cells) sz w (μ n).blk 0 q dk os).cell? ⟨b,o,none⟩=some v:=by
   intro q os dk b o v hv
   have hbn:b≠(μ n).blk:=fun e=>by rw [e,hMn] at hv;cases hv
   have hc:=hS.mem b o v hv
   have hlt:=World.block_lt_of_cell? w ⟨b,o,none⟩ hc
   unfold sortWorldK
   have hsz:(putRowK (fun x:Elem ds M=>x.cells) sz (Sort.ahead w q) (μ n).blk 0 dk).heap.size=w.heap.size:=by
    unfold putRowK putRow mapBlock
    simp [Sort.ahead]
   rw [cell?_grow _ _ _ (by show b<_;rw [hsz];exact hlt),cell?_putRowK_other _ _ _ _ _ _ _ hbn]
   exact hc
  have hC:CmpLays P g cs (fun x:Elem ds M=>x.cells) sz (fun x y=>cf x.mod y.mod) (μ n).blk 0 es.toArray.size w:=by
   intro q os dk hdk x y
   have hargs:aQ p μ M ([.agg ((ds x.mod).map .d),.agg ((ds y.mod).map .d)]++FC) (#[.agg x.cells.toArray,.agg y.cells.toArray]++cs:Array Value).toList:=by
    have a1:Rp p μ M (.agg ((ds x.mod).map .d)) (.agg x.cells.toArray):=Rp.c8.2 ⟨_,rfl,by simpa using x.rep.Dm p μ⟩
    have a2:Rp p μ M (.agg ((ds y.mod).map .d)) (.agg y.cells.toArray):=Rp.c8.2 ⟨_,rfl,by simpa using y.rep.Dm p μ⟩
    have:=aQ.append (aQ.aI.2 ⟨_,_,rfl,a1,aQ.aI.2 ⟨_,_,rfl,a2,aQ.aX.2 rfl⟩⟩) rc
    simpa using this
   refine ((hcmp x.mod y.mod k).2 p μ M (sortWorldK (fun x:Elem ds M=>x.cells) sz w (μ n).blk 0 q dk os) _ (fun n hn=>by omega) hargs ⟨⟨fun b o v hv=>hmem q os dk b o v hv,hS.mem.jG⟩,fun n ob hn=>by simp [bq] at hn,fun n m hn=>by simp [bq] at hn⟩).mono ?_
   rintro e w' ⟨r,F',bh,M',u,rfl,⟨rfl,rfl⟩,hr',_,hE⟩
   refine ⟨?_,hE.grown⟩
   rw [Rp.aS.1 hr']
  have hO':SWO (ltOf fun x y:Elem ds M=>cf x.mod y.mod):=⟨fun x=>hO.irrefl x.mod,fun x y z h1 h2=>hO.trans x.mod y.mod z.mod h1 h2,fun x y z h1 h2=>hO.ntrans x.mod y.mod z.mod h1 h2⟩
  have hsort:=AnyQ.slices_SortFunc L sz aE zE (fun x:Elem ds M=>x.cells) hk hone (fun x y=>cf x.mod y.mod) hO' g cs (μ n).blk 0 (μ n).cap es.toArray w (fun args w=>kg hg args) hC hH hblk (by simpa [hlen] using hl)
  rw [show es.toArray.size=l.length by simp [hlen]] at hsort
  refine hsort.mono ?_
  rintro e' w' ⟨rfl,d',q,os,hperm,hsorted,rfl⟩
  obtain ⟨p1,_,p3⟩:=hperm
  have hd':d'.size=l.length:=by rw [p1];simp [hlen]
  have p3:d'.toList.Perm es:=by
   have ea:d'.extract 0 l.length=d':=by rw [← hd'];simp
   have eb:es.toArray.extract 0 l.length=es.toArray:=by rw [← hlen];simp
   rw [ea,eb] at p3
   simpa using p3
  have hfl':=qQ (k:=sz) hk d'.toList
  rw [Array.toArray_toList] at hfl'
  have hFs:(flatK (fun x:Elem ds M=>x.cells) sz d').size=l.length*sz:=by simp [hd']
  let vs':Array Value:=putCells id 0 (flatK (fun x:Elem ds M=>x.cells) sz d') vs
  have hvs':vs'.size=vs.size:=by simp [vs',putCells]
  have hput:(putRowK (fun x:Elem ds M=>x.cells) sz (Sort.ahead w q) (μ n).blk 0 d').heap[(μ n).blk]? =some (.cells vs' e (0,0)):=by
   unfold putRowK putRow mapBlock
   simp only [Sort.ahead,Array.getElem?_modify,if_true,hb,Option.map_some,onCells,vs']
  have hsz:(putRowK (fun x:Elem ds M=>x.cells) sz (Sort.ahead w q) (μ n).blk 0 d').heap.size=w.heap.size:=by
   unfold putRowK putRow mapBlock
   simp [Sort.ahead]
  have hother:∀ b,b<w.heap.size→b≠(μ n).blk→(sortWorldK (fun x:Elem ds M=>x.cells) sz w (μ n).blk 0 q d' os).heap[b]? =w.heap[b]? :=by
   intro b hbl hbn
   unfold sortWorldK
   rw [heap_grow_old _ _ (by rw [hsz];exact hbl)]
   unfold putRowK putRow mapBlock
   simp only [Sort.ahead,Array.getElem?_modify,if_neg (Ne.symm hbn)]
  have hnew:(sortWorldK (fun x:Elem ds M=>x.cells) sz w (μ n).blk 0 q d' os).heap[(μ n).blk]? =some (.cells vs' e (0,0)):=by
   unfold sortWorldK
   rw [heap_grow_old _ _ (by rw [hsz];exact hblk)]
   exact hput
  have htake:vs'.toList.take (l.length*sz)=d'.toList.flatMap (·.cells):=by
   rw [← hfl']
   apply List.ext_getElem?
   intro t
   rw [List.getElem?_take]
   by_cases ht:t<l.length*sz
   ·have h1:t<vs.size:=by rw [Nat.mul_comm] at hcut;omega
    have h2:t<(flatK (fun x:Elem ds M=>x.cells) sz d').size:=by rw [hFs];exact ht
    rw [if_pos ht,Array.getElem?_toList,Array.getElem?_toList,Array.getElem?_eq_getElem h2]
    simp only [vs',putCells,Array.getElem?_mapIdx,Array.getElem?_eq_getElem h1,Option.map_some,Nat.zero_le,true_and,Nat.zero_add,Nat.sub_zero,id]
    rw [if_pos h2,getElem!_pos _ t h2]
   ·rw [if_neg ht,Array.getElem?_toList,Array.getElem?_eq_none (by rw [hFs];omega)]
  refine ⟨.cW [],[(n,.arr e sz l.length (((d'.toList.map (·.mod)).flatMap ds).map .d))],μ,M,.tuple #[],rfl,⟨rfl,d'.toList.map (·.mod),?_,?_,rfl⟩,Rp.dN.2 ⟨#[],rfl,aQ.aX.2 rfl⟩,⟨⟨fun b o v hv=>hmem q os d' b o v hv,hS.mem.jG⟩,fun m ob hm=> ?_,fun m m' hm hm' _ _ _=> ?_⟩,⟨fun _ _=>rfl,Mem.le_refl _,fun b hbl hf=>⟨hother b hbl fun ee=>hf n (by simp [cq]) hlive ee.symm,fun _=>rfl⟩,?_,fun m hm=> ?_,rfl,⟨rfl,?_⟩,rfl⟩⟩
  ·rw [← m1];exact p3.map _
  ·rw [List.pairwise_map,List.pairwise_iff_getElem]
   intro i j hi hj hij
   have:=hsorted i j (Nat.zero_le _) hij (by rw [← hd'];simpa using hj)
   rwa [getElem!_pos d' j (by simpa using hj),getElem!_pos d' i (by simpa using hi)] at this
  ·rw [cq] at hm
   split at hm
   ·rename_i ee;subst ee
    injection hm with hm;subst hm
    refine ⟨.inl hpn,.inr ⟨hlive,vs',hnew,?_,q2,q3,by rw [hvs'];exact q4,?_⟩,fun _=>hMn⟩
    ·have:=eB ds sz hds (d'.toList.map (·.mod))
     simp only [List.length_map,Array.length_toList] at this ⊢
     rw [this,hd']
    ·rw [htake]
     exact (qP ds d'.toList)
   ·cases hm
  ·rw [cq] at hm hm'
   split at hm <;> split at hm' <;> first | omega | simp at hm hm'
  ·unfold sortWorldK
   rw [size_grow,hsz];omega
  ·rw [cq] at hm
   split at hm
   ·rename_i ee;subst ee
    exact .inr ⟨by omega,by simp [cq]⟩
   ·simp at hm
  ·show w.drawn≤w.drawn+q
   omega
end Go.Sl
namespace Go.Sl
def ge (R:List Nat)(i:Nat):Nat:=R.getD i 0
theorem qR {R:List Nat}{i x:Nat}(h:R[i]? =some x):ge R i=x:=by simp [ge,List.getD_eq_getElem?_getD,h]
theorem bg {R:List Nat}{i:Nat}(h:i<R.length):R[i]? =some (ge R i):=by
 simp [ge,List.getD_eq_getElem?_getD,List.getElem?_eq_getElem h]
theorem cE {R:List Nat}{i:Nat}(h:i<R.length):ge R i∈R:=List.mem_of_getElem? (bg h)
def swp (R:List Nat)(i j:Nat):List Nat:=(R.set i (ge R j)).set j (ge R i)
theorem Dn (R:List Nat)(i j:Nat):(swp R i j).length=R.length:=by simp [swp]
def sg (i j k:Nat):Nat:=if k=j then i else if k=i then j else k
theorem qS {R:List Nat}{i j:Nat}(hi:i<R.length)(hj:j<R.length)(k:Nat):ge (swp R i j) k=ge R (sg i j k):=by
 unfold swp sg
 by_cases h1:k=j
 ·subst h1
  rw [if_pos rfl]
  apply qR
  rw [List.getElem?_set_self (by simpa using hj)]
 ·rw [if_neg h1]
  by_cases h2:k=i
  ·subst h2
   rw [if_pos rfl]
   apply qR
   rw [List.getElem?_set_ne (fun e=>h1 e.symm),List.getElem?_set_self hi]
  ·rw [if_neg h2]
   unfold ge
   rw [List.getD_eq_getElem?_getD,List.getElem?_set_ne (fun e=>h1 e.symm),List.getElem?_set_ne (fun e=>h2 e.symm),← List.getD_eq_getElem?_getD]
theorem qT {R:List Nat}{i:Nat}(hi:i<R.length)(x b:Nat):(R.set i x).count b+(if ge R i=b then 1 else 0)=R.count b+(if x=b then 1 else 0):=by
 induction R generalizing i with
 | nil=>simp at hi
 | cons y R ih=>
  cases i with
  | zero=>
   simp only [List.set_cons_zero,List.count_cons,ge,List.getD_cons_zero,beq_iff_eq]
   omega
  | succ i=>
   have:=ih (i:=i) (by simpa using hi)
   simp only [List.set_cons_succ,List.count_cons,ge,List.getD_cons_succ,beq_iff_eq] at this ⊢
   by_cases e1:y=b <;> by_cases e2:x=b <;> by_cases e3:R.getD i 0=b <;> simp only [e1,e2,e3,if_true,if_false] at this ⊢ <;> omega
theorem AZ {R:List Nat}{i j:Nat}(hi:i<R.length)(hj:j<R.length):(swp R i j).Perm R:=by
 rw [List.perm_iff_count]
 intro b
 have h1:=qT hi (ge R j) b
 have h2:=qT (R:=R.set i (ge R j)) (i:=j) (by simpa using hj) (ge R i) b
 have h3:ge (R.set i (ge R j)) j=ge R j:=by
  by_cases e:i=j
  ·subst e
   exact qR (List.getElem?_set_self hi)
  ·unfold ge
   rw [List.getD_eq_getElem?_getD,List.getElem?_set_ne e,List.getD_eq_getElem?_getD]
 rw [h3] at h2
 unfold swp
 omega
inductive ek (a b:Nat)(R:List Nat):List Nat→Prop
 | refl:ek a b R R
 | step {R':List Nat} {i j:Nat}:ek a b R R'→a≤i→i<b→a≤j→j<b→ek a b R (swp R' i j)
section
variable {a b:Nat} {R R' R2:List Nat}
theorem ek.len (h:ek a b R R'):R'.length=R.length:=by
 induction h with
 | refl=>rfl
 | step _ _ _ _ _ ih=>rw [Dn,ih]
theorem ek.perm (h:ek a b R R')(hb:b≤R.length):R'.Perm R:=by
 induction h with
 | refl=>exact .refl _
 | step h _ _ _ _ ih=>
  have:=h.len
  exact (AZ (by omega) (by omega)).trans ih
theorem ek.out (h:ek a b R R')(hb:b≤R.length){k:Nat}(hk:k<a∨b≤k):ge R' k=ge R k:=by
 induction h with
 | refl=>rfl
 | step h _ _ _ _ ih=>
  have:=h.len
  rw [qS (by omega) (by omega),sg,if_neg (by omega),if_neg (by omega),ih]
theorem ek.HJ (h:ek a b R R')(hb:b≤R.length){k:Nat}(h1:a≤k)(h2:k<b):∃ m,a≤m∧m<b∧ge R' k=ge R m:=by
 induction h generalizing k with
 | refl=>exact ⟨k,h1,h2,rfl⟩
 | step h q1 q2 q3 q4 ih=>
  have:=h.len
  rw [qS (by omega) (by omega),sg]
  split
  ·exact ih q1 q2
  ·split
   ·exact ih q3 q4
   ·exact ih h1 h2
theorem ek.mono {a' b':Nat}(h:ek a b R R')(h1:a'≤a)(h2:b≤b'):ek a' b' R R':=by
 induction h with
 | refl=>exact .refl
 | step _ q1 q2 q3 q4 ih=>exact .step ih (by omega) (by omega) (by omega) (by omega)
theorem ek.trans (h:ek a b R R')(h2:ek a b R' R2):ek a b R R2:=by
 induction h2 with
 | refl=>exact h
 | step _ q1 q2 q3 q4 ih=>exact .step ih q1 q2 q3 q4
theorem ek.one {i j:Nat}(h1:a≤i)(h2:i<b)(h3:a≤j)(h4:j<b):ek a b R (swp R i j):= .step .refl h1 h2 h3 h4
end
structure HK (c:Nat→Nat→Int)(D:Nat→Prop):Prop where
 asym:∀ x y,D x→D y→c x y<0→ ¬ c y x<0
 trans:∀ x y z,D x→D y→D z→c x y<0→c y z<0→c x z<0
 tot:∀ x y,D x→D y→x≠y→c x y<0∨c y x<0
structure Rw (D:Nat→Prop)(R:List Nat):Prop where
 all:∀ x,x∈R→D x
 nd:R.Nodup
def Lt (c:Nat→Nat→Int)(R:List Nat)(p q:Nat):Prop:=c (ge R p) (ge R q)<0
def gH (c:Nat→Nat→Int)(R:List Nat)(a b:Nat):Prop:=∀ p q,a≤p→p<q→q<b→Lt c R p q
section
variable {c:Nat→Nat→Int} {D:Nat→Prop} {R R':List Nat} (T:HK c D)
theorem Rw.perm (h:Rw D R)(hp:R'.Perm R):Rw D R':=⟨fun x hx=>h.all x (hp.mem_iff.1 hx),hp.symm.nodup h.nd⟩
theorem Rw.s5 {a b:Nat}(h:Rw D R)(hs:ek a b R R')(hb:b≤R.length):Rw D R':=h.perm (hs.perm hb)
theorem Rw.ne (h:Rw D R){p q:Nat}(hp:p<R.length)(hq:q<R.length)(hne:p≠q):ge R p≠ge R q:=fun e=>by
 have h1:=bg hp
 have h2:=bg hq
 rw [e] at h1
 exact hne ((List.getElem?_inj hp h.nd).1 (h1.trans h2.symm))
include T
theorem Lt.asym (h:Rw D R){p q:Nat}(hp:p<R.length)(hq:q<R.length)(hl:Lt c R p q): ¬ Lt c R q p:=T.asym _ _ (h.all _ (cE hp)) (h.all _ (cE hq)) hl
theorem Lt.trans (h:Rw D R){p q r:Nat}(hp:p<R.length)(hq:q<R.length)(hr:r<R.length)(h1:Lt c R p q)(h2:Lt c R q r):Lt c R p r:=T.trans _ _ _ (h.all _ (cE hp)) (h.all _ (cE hq)) (h.all _ (cE hr)) h1 h2
theorem Lt.tot (h:Rw D R){p q:Nat}(hp:p<R.length)(hq:q<R.length)(hne:p≠q)(hn: ¬ Lt c R p q):Lt c R q p:=(T.tot _ _ (h.all _ (cE hp)) (h.all _ (cE hq)) (h.ne hp hq hne)).resolve_left hn
omit T in
theorem Lt.swp {i j p q:Nat}(hi:i<R.length)(hj:j<R.length):Lt c (swp R i j) p q↔Lt c R (sg i j p) (sg i j q):=by
 unfold Lt;rw [qS hi hj,qS hi hj]
def Ins (c:Nat→Nat→Int)(R:List Nat)(a j i:Nat):Prop:=(∀ p q,a≤p→p<q→q≤i→p≠j→q≠j→Lt c R p q)∧∀ q,j<q→q≤i→Lt c R j q
omit T in
theorem Ins.start {a i:Nat}(h:gH c R a i):Ins c R a i i:=⟨fun p q h1 h2 h3 h4 h5=>h p q h1 h2 (by omega),fun q h1 h2=>by omega⟩
omit T in
theorem Ins.next {a j i:Nat}(h:Ins c R a j i)(h1:a<j)(h2:j≤i)(h3:i<R.length)(hl:Lt c R j (j - 1)):Ins c (swp R j (j - 1)) a (j - 1) i:=by
 obtain ⟨x,y⟩:=h
 refine ⟨fun p q k1 k2 k3 k4 k5=> ?_,fun q k1 k2=> ?_⟩
 ·rw [Lt.swp (by omega) (by omega)]
  unfold sg
  rw [if_neg k4,if_neg k5]
  by_cases e1:p=j
  ·subst e1
   rw [if_pos rfl,if_neg (by omega)]
   exact x _ _ (by omega) (by omega) (by omega) (by omega) (by omega)
  ·rw [if_neg e1]
   by_cases e2:q=j
   ·subst e2
    rw [if_pos rfl]
    exact x _ _ (by omega) (by omega) (by omega) (by omega) (by omega)
   ·rw [if_neg e2]
    exact x _ _ (by omega) (by omega) (by omega) (by omega) (by omega)
 ·rw [Lt.swp (by omega) (by omega)]
  unfold sg
  rw [if_pos rfl,if_neg (by omega)]
  by_cases e2:q=j
  ·rw [if_pos e2];exact hl
  ·rw [if_neg e2]
   exact y _ (by omega) (by omega)
theorem Ins.done {a j i:Nat}(hR:Rw D R)(h:Ins c R a j i)(h1:a≤j)(h2:j≤i)(h3:i<R.length)(hl:j=a∨ ¬ Lt c R j (j - 1)):gH c R a (i+1):=by
  obtain ⟨x,y⟩:=h
  intro p q k1 k2 k3
  by_cases e1:p=j
  · subst e1;exact y q k2 (by omega)
  · by_cases e2:q=j
    · subst e2
      have hl:=hl.resolve_left (by omega)
      have h4:=Lt.tot T hR (by omega) (by omega) (by omega) hl
      by_cases e3:p=q - 1
      · rw [e3];exact h4
      · exact Lt.trans T hR (by omega) (by omega) (by omega) (x p (q - 1) k1 (by omega) (by omega) e1 (by omega)) h4
    · exact x p q k1 k2 (by omega) e1 e2
omit T in
theorem gH.one {a b:Nat}(h:b≤a+1):gH c R a b:=fun p q _ _ _=>by omega
omit T in
theorem gH.same {a b:Nat}(h:gH c R a b)(hs:∀ k,a≤k→k<b→ge R' k=ge R k):gH c R' a b:=fun p q h1 h2 h3=>by
 have:=h p q h1 h2 h3
 unfold Lt at*
 rw [hs p h1 (by omega),hs q (by omega) h3];exact this
theorem gH.uniq {A B:List Nat}(hA:Rw D A)(hp:A.Perm B)(h1:gH c A 0 A.length)(h2:gH c B 0 B.length):A=B:=by
 have hB:=hA.perm hp.symm
 have pa:∀ {A:List Nat},gH c A 0 A.length→A.Pairwise (fun x y=>c x y<0):=fun {A} h=>by
  rw [List.pairwise_iff_getElem]
  intro i j hi hj hij
  have:=h i j (Nat.zero_le _) hij hj
  unfold Lt at this
  rw [qR (List.getElem?_eq_getElem hi),qR (List.getElem?_eq_getElem hj)] at this
  exact this
 replace h1:=pa h1
 replace h2:=pa h2
 clear hB pa
 induction A generalizing B with
 | nil=>exact (List.nil_perm.1 hp).symm
 | cons x A ih=>
  cases B with
  | nil=>exact absurd hp.length_eq (by simp)
  | cons y B=>
   rw [List.pairwise_cons] at h1 h2
   have hxy:x=y:=by
    refine Classical.byContradiction fun hne=> ?_
    have m1:x∈B:=(List.mem_cons.1 (hp.mem_iff.1 (List.mem_cons_self))).resolve_left hne
    have m2:y∈A:=(List.mem_cons.1 (hp.mem_iff.2 (List.mem_cons_self))).resolve_left fun e=>hne e.symm
    exact T.asym x y (hA.all _ (by simp)) (hA.all _ (List.mem_cons_of_mem _ m2)) (h1.1 y m2) (h2.1 x m1)
   subst hxy
   have:=ih ⟨fun z hz=>hA.all z (List.mem_cons_of_mem _ hz),(List.nodup_cons.1 hA.nd).2⟩ (List.Perm.cons_inv hp) h1.2 h2.2
   rw [this]
def rV (c:Nat→Nat→Int)(R:List Nat)(f lo hi:Nat):Prop:=∀ p ch,lo≤p→(ch=2*p+1∨ch=2*p+2)→ch<hi→Lt c R (f+ch) (f+p)
def A1 (c:Nat→Nat→Int)(R:List Nat)(f lo hi root:Nat):Prop:=
 (∀ p ch,lo≤p→p≠root→(ch=2*p+1∨ch=2*p+2)→ch<hi→Lt c R (f+ch) (f+p))∧
 ∀ p ch,lo≤p→(root=2*p+1∨root=2*p+2)→(ch=2*root+1∨ch=2*root+2)→ch<hi→Lt c R (f+ch) (f+p)
omit T in
theorem A1.start {f lo hi:Nat}(h:rV c R f (lo+1) hi):A1 c R f lo hi lo:=⟨fun p ch h1 h2 h3 h4=>h p ch (by omega) h3 h4,fun p ch h1 h2=>by omega⟩
omit T in
theorem A1.leaf {f lo hi root:Nat}(h:A1 c R f lo hi root)(hl:hi≤2*root+1):rV c R f lo hi:=fun p ch h1 h2 h3=>by
 by_cases e:p=root
 ·omega
 ·exact h.1 p ch h1 e h2 h3
def H9 (c:Nat→Nat→Int)(R:List Nat)(f hi root ch:Nat):Prop:=(ch=2*root+1∨ch=2*root+2)∧ch<hi∧∀ k,(k=2*root+1∨k=2*root+2)→k<hi→k≠ch→Lt c R (f+k) (f+ch)
theorem A1.stop {f lo hi root ch:Nat}(hR:Rw D R)(hf:f+hi≤R.length)(h:A1 c R f lo hi root)(hb:H9 c R f hi root ch)(hr:root<hi)(hn: ¬ Lt c R (f+root) (f+ch)):rV c R f lo hi:=fun p k h1 h2 h3=>by
 obtain ⟨b1,b2,b3⟩:=hb
 by_cases e:p=root
 ·subst e
  have h4:=Lt.tot T hR (by omega) (by omega) (by omega) hn
  by_cases e2:k=ch
  ·rw [e2];exact h4
  ·exact Lt.trans T hR (by omega) (by omega) (by omega) (b3 k h2 h3 e2) h4
 ·exact h.1 p k h1 e h2 h3
omit T in
theorem A1.next {f lo hi root ch:Nat}(hf:f+hi≤R.length)(h:A1 c R f lo hi root)(hlo:lo≤root)(hb:H9 c R f hi root ch)(hr:root<hi)(hn:Lt c R (f+root) (f+ch)):A1 c (swp R (f+root) (f+ch)) f lo hi ch:=by
  obtain ⟨b1,b2,b3⟩:=hb
  obtain ⟨x,y⟩:=h
  refine ⟨fun p k h1 h2 h3 h4=> ?_,fun p k h1 h2 h3 h4=> ?_⟩
  · rw [Lt.swp (by omega) (by omega)]
    unfold sg
    rw [if_neg (show f+p≠f+ch by omega)]
    by_cases e:p=root
    · subst e
      rw [if_pos (show f+p=f+p from rfl)]
      by_cases e2:k=ch
      · subst e2;rw [if_pos rfl];exact hn
      · rw [if_neg (show ¬ f+k=f+ch by omega),if_neg (show ¬ f+k=f+p by omega)]
        exact b3 k h3 h4 e2
    · rw [if_neg (show ¬ f+p=f+root by omega)]
      by_cases e2:k=root
      · subst e2
        rw [if_neg (show ¬ f+k=f+ch by omega),if_pos rfl]
        exact y p ch h1 h3 b1 b2
      · by_cases e3:k=ch
        · omega
        · rw [if_neg (show ¬ f+k=f+ch by omega),if_neg (show ¬ f+k=f+root by omega)]
          exact x p k h1 e h3 h4
  · have hp:p=root:=by omega
    subst hp
    rw [Lt.swp (by omega) (by omega)]
    unfold sg
    rw [if_neg (show ¬ f+k=f+ch by omega),if_neg (show ¬ f+k=f+p by omega),if_neg (show ¬ f+p=f+ch by omega),if_pos rfl]
    exact x ch k (by omega) (by omega) h3 h4
theorem rV.top {f hi:Nat}(hR:Rw D R)(hf:f+hi≤R.length)(h:rV c R f 0 hi):∀ k,0<k→k<hi→Lt c R (f+k) f:=by
 intro k
 induction k using Nat.strongRecOn with
 | _ k ih=>
  intro h1 h2
  have h3:=h ((k - 1) / 2) k (Nat.zero_le _) (by omega) h2
  by_cases e:(k - 1) / 2=0
  ·rw [e] at h3;exact h3
  ·exact Lt.trans T hR (by omega) (by omega) (by omega) h3 (ih ((k - 1) / 2) (by omega) (by omega) (by omega))
end
section
variable {c:Nat→Nat→Int} {D:Nat→Prop} {R R':List Nat} (T:HK c D)
def pL (c:Nat→Nat→Int)(R:List Nat)(a m b:Nat):Prop:=gH c R m b∧∀ p q,a≤p→p<m→m≤q→q<b→Lt c R p q
theorem pL.start {a b:Nat}:pL c R a b b:=⟨fun p q h1 h2 h3=>by omega,fun p q h1 h2 h3 h4=>by omega⟩
include T
theorem pL.pop {f m b:Nat}(hR:Rw D R)(hb:b≤R.length)(hm:f+m<b)(h:pL c R f (f+m+1) b)(hh:rV c R f 0 (m+1))(hsw:R'=swp R f (f+m)):pL c R' f (f+m) b:=by
 subst hsw
 have ht:=rV.top T hR (by omega) hh
 obtain ⟨h1,h2⟩:=h
 refine ⟨fun p q k1 k2 k3=> ?_,fun p q k1 k2 k3 k4=> ?_⟩
 ·rw [Lt.swp (by omega) (by omega)]
  unfold sg
  by_cases e:p=f+m
  ·rw [if_pos e,if_neg (show ¬ q=f+m by omega),if_neg (show ¬ q=f by omega)]
   exact h2 f q (by omega) (by omega) (by omega) k3
  ·rw [if_neg e,if_neg (show ¬ p=f by omega),if_neg (show ¬ q=f+m by omega),if_neg (show ¬ q=f by omega)]
   exact h1 p q (by omega) k2 k3
 ·rw [Lt.swp (by omega) (by omega)]
  unfold sg
  by_cases e:q=f+m
  ·rw [if_neg (show ¬ p=f+m by omega),if_pos e]
   by_cases e2:p=f
   ·rw [if_pos e2]
    exact ht m (by omega) (by omega)
   ·rw [if_neg e2]
    have:=ht (p - f) (by omega) (by omega)
    rw [show f+(p - f)=p by omega] at this
    exact this
  ·rw [if_neg (show ¬ p=f+m by omega),if_neg e,if_neg (show ¬ q=f by omega)]
   by_cases e2:p=f
   ·rw [if_pos e2]
    exact h2 (f+m) q (by omega) (by omega) (by omega) k4
   ·rw [if_neg e2]
    exact h2 p q k1 (by omega) (by omega) k4
omit T in
theorem rV.FD {f m b:Nat}(hm:f+m<R.length)(hh:rV c R f 0 (m+1)):rV c (swp R f (f+m)) f 1 m:=fun p ch h1 h2 h3=>by
 rw [Lt.swp (by omega) hm]
 unfold sg
 rw [if_neg (show ¬ f+ch=f+m by omega),if_neg (show ¬ f+ch=f by omega),if_neg (show ¬ f+p=f+m by omega),if_neg (show ¬ f+p=f by omega)]
 exact hh p ch (by omega) h2 (by omega)
omit T in
theorem pL.keep {f m b:Nat}(h:pL c R f m b)(hs:ek f m R R')(hmb:m≤b)(hb:b≤R.length):pL c R' f m b:=by
 obtain ⟨h1,h2⟩:=h
 refine ⟨h1.same fun k k1 k2=>hs.out (by omega) (.inr k1),fun p q k1 k2 k3 k4=> ?_⟩
 obtain ⟨r,r1,r2,r3⟩:=hs.HJ (by omega) k1 k2
 unfold Lt
 rw [r3,hs.out (by omega) (.inr k3)]
 exact h2 r q r1 r2 k3 k4
def xQ (c:Nat→Nat→Int)(R:List Nat)(a b:Nat):Prop:=a=0∨∀ q,a≤q→q<b→Lt c R (a - 1) q
omit T in
theorem xQ.keep {a b:Nat}(h:xQ c R a b)(hs:ek a b R R')(hb:b≤R.length):xQ c R' a b:=by
 rcases h with h | h
 ·exact .inl h
 ·by_cases h0:a=0
  ·exact .inl h0
  refine .inr fun q k1 k2=> ?_
  obtain ⟨r,r1,r2,r3⟩:=hs.HJ hb k1 k2
  unfold Lt
  rw [r3,hs.out hb (.inl (by omega))]
  exact h r r1 r2
def vi (c:Nat→Nat→Int)(R:List Nat)(a m b:Nat):Prop:=(∀ k,a≤k→k<m→Lt c R k m)∧∀ k,m<k→k<b→Lt c R m k
def lY (c:Nat→Nat→Int)(R:List Nat)(a i j b:Nat):Prop:=(∀ k,a<k→k<i→Lt c R k a)∧∀ k,j<k→k<b→Lt c R a k
omit T in
theorem lY.start {a b:Nat}:lY c R a (a+1) (b - 1) b:=⟨fun k h1 h2=>by omega,fun k h1 h2=>by omega⟩
omit T in
theorem lY.up {a i j b:Nat}(h:lY c R a i j b)(hl:Lt c R i a):lY c R a (i+1) j b:=⟨fun k h1 h2=>by
 by_cases e:k=i
 ·rw [e];exact hl
 ·exact h.1 k h1 (by omega),h.2⟩
theorem lY.down {a i j b:Nat}(hR:Rw D R)(h:lY c R a i (j+1) b)(ha:a<j+1)(hj:j+1<R.length)(hl: ¬ Lt c R (j+1) a):lY c R a i j b:=⟨h.1,fun k h1 h2=>by
 by_cases e:k=j+1
 ·rw [e];exact Lt.tot T hR hj (by omega) (by omega) hl
 ·exact h.2 k (by omega) h2⟩
theorem lY.swap {a i j b:Nat}(hR:Rw D R)(h:lY c R a i j b)(ha:a<i)(hij:i≤j)(hj:j<b)(hb:b≤R.length)(h1: ¬ Lt c R i a)(h2:Lt c R j a):lY c (swp R i j) a (i+1) (j - 1) b:=by
 refine ⟨fun k k1 k2=> ?_,fun k k1 k2=> ?_⟩
 ·rw [Lt.swp (by omega) (by omega)]
  unfold sg
  rw [if_neg (show ¬ a=j by omega),if_neg (show ¬ a=i by omega)]
  by_cases e:k=j
  ·have:i=j:=by omega
   rw [if_pos e,this];exact h2
  ·rw [if_neg e]
   by_cases e2:k=i
   ·rw [if_pos e2];exact h2
   ·rw [if_neg e2];exact h.1 k k1 (by omega)
 ·rw [Lt.swp (by omega) (by omega)]
  unfold sg
  rw [if_neg (show ¬ a=j by omega),if_neg (show ¬ a=i by omega)]
  by_cases e:k=j
  ·rw [if_pos e]
   exact Lt.tot T hR (by omega) (by omega) (by omega) h1
  ·rw [if_neg e]
   by_cases e2:k=i
   ·omega
   ·rw [if_neg e2];exact h.2 k (by omega) k2
theorem lY.done {a i j b:Nat}(hR:Rw D R)(h:lY c R a i j b)(ha:a<i)(hij:i=j+1)(hj:j<b)(hb:b≤R.length):vi c (swp R j a) a j b:=by
 refine ⟨fun k k1 k2=> ?_,fun k k1 k2=> ?_⟩
 ·rw [Lt.swp (by omega) (by omega)]
  unfold sg
  rw [if_neg (show ¬ j=a by omega),if_pos (show j=j from rfl)]
  by_cases e:k=a
  ·rw [if_pos e];exact h.1 j (by omega) (by omega)
  ·rw [if_neg e,if_neg (show ¬ k=j by omega)];exact h.1 k (by omega) (by omega)
 ·rw [Lt.swp (by omega) (by omega)]
  unfold sg
  rw [if_neg (show ¬ k=a by omega),if_neg (show ¬ k=j by omega)]
  by_cases e:j=a
  ·rw [if_pos e,e];exact h.2 k (by omega) k2
  ·rw [if_neg e,if_pos rfl];exact h.2 k k1 k2
omit T in
theorem vi.left {a m b:Nat}(h:vi c R a m b)(hs:ek a m R R')(hm:m<b)(hb:b≤R.length):vi c R' a m b:=by
 refine ⟨fun k k1 k2=> ?_,fun k k1 k2=> ?_⟩
 ·obtain ⟨r,r1,r2,r3⟩:=hs.HJ (by omega) k1 k2
  unfold Lt;rw [r3,hs.out (by omega) (.inr (Nat.le_refl _))]
  exact h.1 r r1 r2
 ·unfold Lt;rw [hs.out (by omega) (.inr (Nat.le_refl _)),hs.out (by omega) (.inr (by omega))]
  exact h.2 k k1 k2
omit T in
theorem vi.right {a m b:Nat}(h:vi c R a m b)(hs:ek (m+1) b R R')(hm:m<b)(hb:b≤R.length):vi c R' a m b:=by
 refine ⟨fun k k1 k2=> ?_,fun k k1 k2=> ?_⟩
 ·unfold Lt;rw [hs.out hb (.inl (by omega)),hs.out hb (.inl (by omega))]
  exact h.1 k k1 k2
 ·obtain ⟨r,r1,r2,r3⟩:=hs.HJ hb (show m+1≤k by omega) k2
  unfold Lt;rw [r3,hs.out hb (.inl (by omega))]
  exact h.2 r (by omega) r2
theorem vi.sorted {a m b:Nat}(hR:Rw D R)(h:vi c R a m b)(hm:a≤m)(hmb:m<b)(hb:b≤R.length)(h1:gH c R a m)(h2:gH c R (m+1) b):gH c R a b:=fun p q k1 k2 k3=>by
  by_cases e1:p<m
  · by_cases e2:q<m
    · exact h1 p q k1 k2 e2
    · by_cases e3:q=m
      · rw [e3];exact h.1 p k1 e1
      · exact Lt.trans T hR (by omega) (show m<_ by omega) (by omega) (h.1 p k1 e1) (h.2 q (by omega) k3)
  · by_cases e3:p=m
    · rw [e3];exact h.2 q (by omega) k3
    · exact h2 p q (by omega) k2 k3
omit T in
theorem vi.Ho {a m b:Nat}(h:vi c R a m b):xQ c R (m+1) b:= .inr fun q k1 k2=>h.2 q (by omega) k2
omit T in
theorem xQ.left {a m b:Nat}(h:xQ c R a b)(hm:m≤b):xQ c R a m:=h.imp_right fun h q k1 k2=>h q k1 (by omega)
theorem gH.more {a i:Nat}(hR:Rw D R)(h:gH c R a i)(hi:i<R.length)(ha:a<i)(hn: ¬ Lt c R i (i - 1)):gH c R a (i+1):=by
 refine Ins.done T hR (j:=i) (i:=i) (Ins.start h) (by omega) (Nat.le_refl _) hi (.inr hn)
end
end Go.Sl
