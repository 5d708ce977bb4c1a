/-
 Sorting a row by a function: the kit's contract of slices.SortFunc as one of this logic.
-/
import Derived.Test.YtaelhkkjgfobhaaGreatP5
import Derived.Shelf.SlSortCmp.NoneTotal
import Derived.Test.YtaelhkkjgfobhaaGreatP6
import Derived.Test.YtaelhkkjgfobhaaGreatPV
import Derived.Test.YtaelhkkjgfobhaaGreatPA
import Derived.Test.YtaelhkkjgfobhaaGreatP4
import Derived.Test.YtaelhkkjgfobhaaGreatChecked
set_option linter.unusedVariables false
set_option linter.unusedSimpArgs false
set_option linter.unusedSectionVars false
namespace Go.Sl
open Go.RowKit Go.Sort Go.Proofs Go.Shelf
variable {P:Program}
structure Elem {A:Type}(ds:A→List DV)(M:Mem) where
 cells:List Value
 mod:A
 rep:aU (fun _=>False) (fun _=>⟨0,0,true⟩) M ((ds mod).map .d) cells
theorem aU.Is {p:Nat→Prop}{μ:Nat→Nm}{M:Mem}{xs:List DV}{vs:List Value}(h:aU p μ M (xs.map .d) vs)(p':Nat→Prop)(a_:Nat→Nm):aU p' a_ M (xs.map .d) vs:=by
 induction xs generalizing vs with
 | nil=>exact aU.aR.2 (aU.aR.1 h)
 | cons x xs ih=>
  obtain ⟨u,us,e,h1,h2⟩:=aU.aD.1 h;exact aU.aD.2 ⟨u,us,e,Rp.cU.2 (Rp.cU.1 h1),ih h2⟩
theorem uS {A:Type}(ds:A→List DV){p:Nat→Prop}{μ:Nat→Nm}{M:Mem}:∀ (l:List A) (us:List Value),aU p μ M ((l.flatMap ds).map .d) us→
  ∃ es:List (Elem ds M),es.map (·.mod)=l∧es.flatMap (·.cells)=us
 | [],us,h=>⟨[],rfl,by simpa using (aU.aR.1 h).symm⟩
 | x::l,us,h=>by
  have h1:aU p μ M ((ds x).map .d) (us.take (ds x).length):=by simpa using aU.take (ds x).length h
  have h2:aU p μ M ((l.flatMap ds).map .d) (us.drop (ds x).length):=by simpa using aU.drop (ds x).length h
  obtain ⟨es,e1,e2⟩:=uS ds l _ h2;exact ⟨⟨us.take (ds x).length,x,h1.Is _ _⟩::es,by simp [e1],by simp [e2]⟩
theorem uT {A:Type}(ds:A→List DV){p:Nat→Prop}{μ:Nat→Nm}{M:Mem}:∀ (es:List (Elem ds M)),aU p μ M (((es.map (·.mod)).flatMap ds).map .d) (es.flatMap (·.cells))
 | []=>aU.aR.2 rfl
 | x::es=>by
  have:=aU.append (x.rep.Is p μ) (uT ds es)
  simpa using this
theorem uU {A:Type}{ds:A→List DV}{M:Mem}[Inhabited (Elem ds M)]{k:Nat}(hk:∀ x:Elem ds M,x.cells.length=k)(es:List (Elem ds M)):(flatK (fun x:Elem ds M=>x.cells) k es.toArray).toList=es.flatMap (·.cells):=by
 have hl:=eC (fun x:Elem ds M=>x.cells) k hk es;apply List.ext_getElem?;intro t
 by_cases ht:t<es.length*k
 ·have l7:0<k:=by
    rcases Nat.eq_zero_or_pos k with h | h;· subst h;simp at ht
    ·exact h
  have hi:t / k<es.length:=Nat.div_lt_of_lt_mul (by rwa [Nat.mul_comm] at ht);have e1:=uf (fun x:Elem ds M=>x.cells) k hk es (t / k) (t % k) es[t / k] (List.getElem?_eq_getElem hi) (Nat.mod_lt _ l7);have e2:t / k*k+t % k=t:=by rw [Nat.mul_comm];exact Nat.div_add_mod t k
  rw [e2] at e1;rw [e1];have e3:=get_flatK (fun x:Elem ds M=>x.cells) k es.toArray t (by simpa using ht);have e4:t<(flatK (fun x:Elem ds M=>x.cells) k es.toArray).size:=by simpa using ht
  have hc:t % k<es[t / k].cells.length:=by rw [hk];exact Nat.mod_lt _ l7
  rw [getElem!_pos _ t e4] at e3;rw [Array.getElem?_toList,Array.getElem?_eq_getElem e4,e3];simp [hi,hc]
 ·rw [List.getElem?_eq_none (by simpa using ht),List.getElem?_eq_none (by rw [hl];omega)]
theorem Ev.grown {new:Nat→Prop}{μ a_:Nat→Nm}{M M':Mem}{w w':World}{c':Nat→Option Ob}(h:Ev (lk []) new μ M w c' a_ M' w'):∃ q os,w'=grow (w.drewN q) os:=by
 refine ⟨w'.drawn - w.drawn,w'.heap.extract w.heap.size w'.heap.size,?_⟩;have hh:w'.heap=w.heap++w'.heap.extract w.heap.size w'.heap.size:=by
  apply Array.ext_getElem?;intro i;rw [Array.getElem?_append]
  split
  ·rename_i hi
   exact (h.frame i hi fun n hn=>by simp [bE] at hn).1
  ·rename_i hi
   rw [Array.getElem?_extract];have:=h.size
   split
   ·rw [show w.heap.size+(i - w.heap.size)=i by omega]
   ·rename_i hj
    rw [Array.getElem?_eq_none (by omega)]
 have h1:=h.os;have h2:=h.tape;have h3:=h.output;have hd:w'.drawn=w.drawn+(w'.drawn - w.drawn):=by have:=h2.2;omega
 obtain ⟨a,b,c,d,e⟩:=w';obtain ⟨a',b',c',d',e'⟩:=w;simp only [grow,World.drewN];simp only at hh h1 h2 h3 hd
 replace h2:=h2.1
 simp only at h2;subst h1;subst h2;subst h3;rw [← hd,← hh]
theorem SC.FH {ρ:Ren}{A:Type}(L:SlLaysF0.n6 P ρ)(sz:Nat)(aE:∀ w,(isAgg (ρ.t 24)).run P w= .ok true w)(zE:∀ w,(Go.sizeOf (ρ.t 24)).run P w= .ok sz w)(Ec:jR P (ρ.f 6)=true)
  (ds:A→List DV) (hds:∀ x,(ds x).length=sz) (cf:A→A→Int) (hO:SWO (ltOf cf)) (g:Nat) (KW:List SV) (hg:jR P g=true)
  (hcmp:∀ (x y:A) (k:Nat),aF P g ([.agg ((ds x).map .d),.agg ((ds y).map .d)]++KW) [] k 0 (.d (.int .i64 (cf x y))) []) (n e:Nat) (l:List A) (hl:l.length<4611686018427387904) (k:Nat):
  SC P (ρ.f 6) [.gs n l.length,.fn (.func g) [] KW] [(n,.arr e sz l.length ((l.flatMap ds).map .d))] k 0
   (fun r F'=>r= .dm []∧∃ l':List A,l'.Perm l∧l'.Pairwise (fun a b=>ltOf cf b a=false)∧F'=[(n,.arr e sz l.length ((l'.flatMap ds).map .d))]):=by
 refine ⟨Ec,fun p μ M w vals hp hr hS=> ?_⟩;obtain ⟨u1,us,e1,r1,r2⟩:=aU.aD.1 hr;obtain ⟨u2,us2,e2,r3,r4⟩:=aU.aD.1 r2;have e3:=aU.aR.1 r4;subst e3;subst e2;obtain ⟨fs,cs,rfl,ra,rc⟩:=Rp.rX.1 r3;have ra':=aU.aR.1 ra;have hvals:vals= #[u1,.func (.func g) fs cs]:=by cases vals;simpa using e1
 have has:fs= #[]:=by cases fs;simpa using ra'
 subst has;subst hvals;obtain ⟨hpn,bz,hMn⟩:=hS.obs n (.arr e sz l.length ((l.flatMap ds).map .d)) (by simp [cZ])
 by_cases h0:l=[]
 ·subst h0
  have fc:∃ A cap,u1= .slice A 0 cap:=by
   rcases r1.lI with ⟨_,rfl⟩ | ⟨_,_,A,rfl⟩ <;> exact ⟨_,_,rfl⟩
  obtain ⟨A',cap,rfl⟩:=fc;refine (AnyF.slices_SortFunc_none L A' cap (.func (.func g) #[] cs) w).mono ?_;rintro e w' ⟨rfl,rfl⟩;exact ⟨.dm [],_,μ,M,.tuple #[],rfl,⟨rfl,[],List.Perm.refl _,List.Pairwise.nil,rfl⟩,Rp.dX.2 ⟨#[],rfl,aU.aR.2 rfl⟩,hS.more fun n h=> .inl h,Ev.refl _ _ _ _ _ fun n _ h=>by omega⟩
 ·have hpos:0<l.length:=by cases l with
   | nil=>exact absurd rfl h0
   | cons x l=>simp
  rcases bz with ⟨_,hz,_⟩ | ⟨hlive,vs,hb,q1,q2,q3,q4,hrow⟩
  ·omega
  have hMn:=hMn hlive;obtain ⟨_,rfl⟩:(μ n).live=true∧u1= .slice (some ⟨(μ n).blk,0,none⟩) l.length (μ n).cap:=by
   rcases r1.lI with h | ⟨h,_⟩
   ·exact h
   ·rw [hlive] at h;cases h
  obtain ⟨es,m1,m2⟩:=uS ds l _ hrow;have hlen:es.length=l.length:=by rw [← m1];simp
  have hk:∀ x:Elem ds M,x.cells.length=sz:=fun x=>by
   have:=x.rep.length;rw [this];simp [hds]
  have:Inhabited (Elem ds M):=⟨es[0]'(by omega)⟩;have hone:∀ x:Elem ds M,∀ v∈x.cells,v.oneCell'=true:=fun x=>aU.D1 (by simp [SV.dO]) x.rep
  have hblk:(μ n).blk<w.heap.size:=(Array.getElem?_eq_some_iff.1 hb).1;have hfl:=uU (k:=sz) hk es;have hcut:sz*l.length≤vs.size:=by rw [q4,Nat.mul_comm];exact Nat.mul_le_mul_right _ q2
  have hH:HoldsK (fun x:Elem ds M=>x.cells) sz w (μ n).blk 0 es.toArray:=by
   intro j hj;have hj':j<l.length*sz:=by simpa [hlen] using hj
   have hgot:(flatK (fun x:Elem ds M=>x.cells) sz es.toArray)[j]! =vs[j]! :=by
    have hv:j<vs.size:=by rw [Nat.mul_comm] at hcut;omega
    rw [getElem!_pos _ j hj,getElem!_pos vs j hv];have:=congrArg (fun l=>l[j]?) (hfl.trans m2);simp only [Array.getElem?_toList,List.getElem?_take,hj',if_true,Array.getElem?_eq_getElem hj,Array.getElem?_eq_getElem hv] at this;exact Option.some.inj this
   have hv:j<vs.size:=by rw [Nat.mul_comm] at hcut;omega
   refine ⟨?_,?_⟩
   ·rw [Nat.zero_add,cell_of hb,hgot,getElem!_pos vs j hv,Array.getElem?_eq_getElem hv];rfl
   ·simp [World.frozen?,hb]
  have hmem:∀ (q:Nat) (os:Array Obj) (dk:Array (Elem ds M)) (b o:Nat) (v:Value),M b o=some v→(sortWorldK (fun x:Elem ds M=>x.cells) sz w (μ n).blk 0 q dk os).cell? ⟨b,o,none⟩=some v:=by
   intro q os dk b o v hv;have hbn:b≠(μ n).blk:=fun e=>by rw [e,hMn] at hv;cases hv
   have hc:=hS.mem b o v hv;have hlt:=World.block_lt_of_cell? w ⟨b,o,none⟩ hc;unfold sortWorldK;have hsz:(putRowK (fun x:Elem ds M=>x.cells) sz (Sort.ahead w q) (μ n).blk 0 dk).heap.size=w.heap.size:=by
    unfold putRowK putRow mapBlock;simp [Sort.ahead]
   rw [cell?_grow _ _ _ (by show b<_;rw [hsz];exact hlt),cell?_putRowK_other _ _ _ _ _ _ _ hbn];exact hc
  have hC:CmpLays P g cs (fun x:Elem ds M=>x.cells) sz (fun x y=>cf x.mod y.mod) (μ n).blk 0 es.toArray.size w:=by
   intro q os dk hdk x y;have hargs:aU p μ M ([.agg ((ds x.mod).map .d),.agg ((ds y.mod).map .d)]++KW) (#[.agg x.cells.toArray,.agg y.cells.toArray]++cs:Array Value).toList:=by
    have a1:Rp p μ M (.agg ((ds x.mod).map .d)) (.agg x.cells.toArray):=Rp.eT.2 ⟨_,rfl,by simpa using x.rep.Is p μ⟩;have a2:Rp p μ M (.agg ((ds y.mod).map .d)) (.agg y.cells.toArray):=Rp.eT.2 ⟨_,rfl,by simpa using y.rep.Is p μ⟩;have:=aU.append (aU.aD.2 ⟨_,_,rfl,a1,aU.aD.2 ⟨_,_,rfl,a2,aU.aR.2 rfl⟩⟩) rc
    simpa using this
   refine ((hcmp x.mod y.mod k).2 p μ M (sortWorldK (fun x:Elem ds M=>x.cells) sz w (μ n).blk 0 q dk os) _ (fun n hn=>by omega) hargs ⟨⟨fun b o v hv=>hmem q os dk b o v hv,hS.mem.kF⟩,fun n ob hn=>by simp [bE] at hn,fun n m hn=>by simp [bE] at hn⟩).mono ?_;rintro e w' ⟨r,F',a_,M',u,rfl,⟨rfl,rfl⟩,hr',_,hE⟩;refine ⟨?_,hE.grown⟩;rw [Rp.aL.1 hr']
  have Nz:SWO (ltOf fun x y:Elem ds M=>cf x.mod y.mod):=⟨fun x=>hO.irrefl x.mod,fun x y z h1 h2=>hO.trans x.mod y.mod z.mod h1 h2,fun x y z h1 h2=>hO.ntrans x.mod y.mod z.mod h1 h2⟩;have hsort:=AnyQ.slices_SortFunc L sz aE zE (fun x:Elem ds M=>x.cells) hk hone (fun x y=>cf x.mod y.mod) Nz g cs (μ n).blk 0 (μ n).cap es.toArray w (fun args w=>mV hg args) hC hH hblk (by simpa [hlen] using hl);rw [show es.toArray.size=l.length by simp [hlen]] at hsort;refine hsort.mono ?_;rintro e' w' ⟨rfl,d',q,os,hperm,hsorted,rfl⟩;obtain ⟨p1,_,p3⟩:=hperm;have hd':d'.size=l.length:=by rw [p1];simp [hlen]
  have p3:d'.toList.Perm es:=by
   have ea:d'.extract 0 l.length=d':=by rw [← hd'];simp
   have eb:es.toArray.extract 0 l.length=es.toArray:=by rw [← hlen];simp
   rw [ea,eb] at p3
   simpa using p3
  have hfl':=uU (k:=sz) hk d'.toList;rw [Array.toArray_toList] at hfl';have hFs:(flatK (fun x:Elem ds M=>x.cells) sz d').size=l.length*sz:=by simp [hd']
  let vs':Array Value:=putCells id 0 (flatK (fun x:Elem ds M=>x.cells) sz d') vs
  have hvs':vs'.size=vs.size:=by simp [vs',putCells]
  have hput:(putRowK (fun x:Elem ds M=>x.cells) sz (Sort.ahead w q) (μ n).blk 0 d').heap[(μ n).blk]? =some (.cells vs' e (0,0)):=by
   unfold putRowK putRow mapBlock;simp only [Sort.ahead,Array.getElem?_modify,if_true,hb,Option.map_some,onCells,vs']
  have hsz:(putRowK (fun x:Elem ds M=>x.cells) sz (Sort.ahead w q) (μ n).blk 0 d').heap.size=w.heap.size:=by
   unfold putRowK putRow mapBlock;simp [Sort.ahead]
  have hother:∀ b,b<w.heap.size→b≠(μ n).blk→(sortWorldK (fun x:Elem ds M=>x.cells) sz w (μ n).blk 0 q d' os).heap[b]? =w.heap[b]? :=by
   intro b hbl hbn;unfold sortWorldK;rw [heap_grow_old _ _ (by rw [hsz];exact hbl)];unfold putRowK putRow mapBlock;simp only [Sort.ahead,Array.getElem?_modify,if_neg (Ne.symm hbn)]
  have hnew:(sortWorldK (fun x:Elem ds M=>x.cells) sz w (μ n).blk 0 q d' os).heap[(μ n).blk]? =some (.cells vs' e (0,0)):=by
   unfold sortWorldK;rw [heap_grow_old _ _ (by rw [hsz];exact hblk)];exact hput
  have htake:vs'.toList.take (l.length*sz)=d'.toList.flatMap (·.cells):=by
   rw [← hfl'];apply List.ext_getElem?;intro t;rw [List.getElem?_take]
   by_cases ht:t<l.length*sz
   ·have h1:t<vs.size:=by rw [Nat.mul_comm] at hcut;omega
    have h2:t<(flatK (fun x:Elem ds M=>x.cells) sz d').size:=by rw [hFs];exact ht
    rw [if_pos ht,Array.getElem?_toList,Array.getElem?_toList,Array.getElem?_eq_getElem h2];simp only [vs',putCells,Array.getElem?_mapIdx,Array.getElem?_eq_getElem h1,Option.map_some,Nat.zero_le,true_and,Nat.zero_add,Nat.sub_zero,id];rw [if_pos h2,getElem!_pos _ t h2]
   ·rw [if_neg ht,Array.getElem?_toList,Array.getElem?_eq_none (by rw [hFs];omega)]
  refine ⟨.dm [],[(n,.arr e sz l.length (((d'.toList.map (·.mod)).flatMap ds).map .d))],μ,M,.tuple #[],rfl,⟨rfl,d'.toList.map (·.mod),?_,?_,rfl⟩,Rp.dX.2 ⟨#[],rfl,aU.aR.2 rfl⟩,⟨⟨fun b o v hv=>hmem q os d' b o v hv,hS.mem.kF⟩,fun m ob hm=> ?_,fun m m' hm hm' _ _ _=> ?_⟩,⟨fun _ _=>rfl,Mem.le_refl _,fun b hbl hf=>⟨hother b hbl fun ee=>hf n (by simp [cZ]) hlive ee.symm,fun _=>rfl⟩,?_,fun m hm=> ?_,rfl,⟨rfl,?_⟩,rfl⟩⟩
  ·rw [← m1];exact p3.map _
  ·rw [List.pairwise_map,List.pairwise_iff_getElem]
   intro i j hi hj hij;have:=hsorted i j (Nat.zero_le _) hij (by rw [← hd'];simpa using hj)
   rwa [getElem!_pos d' j (by simpa using hj),getElem!_pos d' i (by simpa using hi)] at this
  ·rw [cZ] at hm
   split at hm
   ·rename_i ee;subst ee
    injection hm with hm;subst hm;refine ⟨.inl hpn,.inr ⟨hlive,vs',hnew,?_,q2,q3,by rw [hvs'];exact q4,?_⟩,fun _=>hMn⟩
    ·have:=eC ds sz hds (d'.toList.map (·.mod))
     simp only [List.length_map,Array.length_toList] at this ⊢;rw [this,hd']
    ·rw [htake]
     exact (uT ds d'.toList)
   ·cases hm
  ·rw [cZ] at hm hm'
   split at hm <;> split at hm' <;> first | omega | simp at hm hm'
  ·unfold sortWorldK
   rw [size_grow,hsz];omega
  ·rw [cZ] at hm
   split at hm
   ·rename_i ee;subst ee
    exact .inr ⟨by omega,by simp [cZ]⟩
   ·simp at hm
  ·show w.drawn≤w.drawn+q
   omega
end Go.Sl
namespace Go.Proofs.YtaelhkkjgfobhaaGreat
open Go.Sl Go.Proofs
section
attribute [local irreducible] SW RW aF SC ai aq
def oG (l:List Dt):j3×Nat:=l.foldl (fun s d=>(MM.put s.1 s.2 d 1,MM.jl s.1 s.2 d)) ([],0)
theorem pN (l:List Dt)(d:Dt):oG (l++[d])=(MM.put (oG l).1 (oG l).2 d 1,MM.jl (oG l).1 (oG l).2 d):=by simp [oG,List.foldl_append]
def AP (n:Nat)(l:List Dt):Hp:=[(n,.map (au Dt.cells iv (oG l).1) (oG l).2)]
theorem FI (l:List Dt)(hl:l.length<4611686018427387904):SB Tryz.prog dot_setOf.f [aW l] [] 0 1 fun r F=>r= .mp 0∧F=AP 0 l:=by
 refine dot_setOf.enter (by first | rfl | simp [SV.ok,SV.ax]) (by first | rfl | simp [Hp.ok,Ob.ok,SV.ok,SV.ax,aB.ak]) (by simp) ?_;dsimp only [dot_setOf.s,Co.M,Co.J,Co.N,Co.F,Co.Z,Co.b8,Co.av,Co.K,Co.L,Co.W,Co.Y,Co.V,Co.I,Co.S];(repeat (first | refine SW.seq ?_ | refine SW.block ?_ | refine SW.g0 [0,2,3,5,7,8,9,10] mixed af ?_ | refine SW.skip ?_ | refine SW.exit ?_ | refine SW.ret ?_ | refine SW.aj rfl ?_ | refine SW.ah rfl ?_));refine SW.gY (α:={i:Nat // i≤l.length}) (fun i=>⟨[(9,i64 i.1),(7,aW l),(8,i64 l.length),(3,.mp 0)],AP 0 (l.take i.1),1⟩) (fun i=>l.length - i.1) ⟨0,by omega⟩ id (And.intro (show AP 0 []=[(0,.map [] 0)] from rfl) af) (round:= ?_);rintro ⟨i,hi⟩
 by_cases h:i<l.length
 ·obtain ⟨x,hx⟩:=aZ h
  have h1:decide ((i:Int)<l.length)=true:=by simp;exact h
  simp only [AP];(repeat (first | refine SW.seq ?_ | refine SW.block ?_ | refine SW.g0 [0,2,3,5,7,8,9,10] mixed (And.intro (h1) (bW hx)) ?_ | refine SW.skip ?_ | refine SW.exit ?_ | refine SW.ret ?_ | refine SW.aj rfl ?_ | refine SW.ah rfl ?_));exact ⟨⟨i+1,by omega⟩,id,by simp;omega,aK.mk (And.intro (bH hx) (And.intro (pN (l.take i) x) af))⟩
 ·have h1:decide ((i:Int)<l.length)=false:=by simp;omega
  have h2:i=l.length:=by omega
  subst h2;simp only [AP,List.take_length];(repeat (first | refine SW.seq ?_ | refine SW.block ?_ | refine SW.g0 [0,2,3,5,7,8,9,10] mixed (h1) ?_ | refine SW.skip ?_ | refine SW.exit ?_ | refine SW.ret ?_ | refine SW.aj rfl ?_ | refine SW.ah rfl ?_));exact End.mk _ (h4:=⟨rfl,rfl⟩) (h6:=by simp [Hp.ok,Ob.ok,bJ,AP])
end
section
attribute [local irreducible] SW RW aF SC ai aq
structure KX {σ:Type}(Fh:σ→Hp)(Step:σ→Dt→σ→Prop)(go:σ→Bool)(aQ b m k:Nat)(L:j3)(s0 s:σ)(xs:j3)(kk:Nat):Prop where
 p1:lF Step s0 (MM.keys xs) s
 p2:go s=true
 p3:∀ x,x∈xs→x∈L
 p4:(xs.map (·.1)).Nodup
 p5:k+1≤kk
 p6:kk≤k+1+xs.length*(1+aQ)
 p7:(Fh s).ok (fun n=>decide (n<kk))=true
 p8:lk (Fh s) b=none
 p9:lk (Fh s) m=none
 CG:lk (Fh s) k=none
set_option maxHeartbeats 1000000 in
theorem FJ {σ:Type}{Fh:σ→Hp}{Step:σ→Dt→σ→Prop}{go:σ→Bool}{aQ y b m k c:Nat}{L:j3}(hwf:MM.wf L c)(s0:σ)(hy:pE Tryz.prog y (fun x:Dt=> .agg x.cells) aQ Fh Step go s0 L.length)(h0:(Fh s0).ok (fun n=>decide (n<k))=true)
  (hb:b<k) (hm:m<k) (KY:b≠m) (hdb:lk (Fh s0) b=none) (MR:lk (Fh s0) m=none) (vz:go s0=true):
  SB Tryz.prog maps_Keys_dot_set_api_Dot_int_1.f [.yl y,.ptr b 0] ((b,.box 174 [.mp m])::(m,.map (au Dt.cells iv L) c)::Fh s0) k (1+L.length*(1+aQ))
   fun r F=>r= .dm []∧∃ (xs:j3) (s':σ),lF Step s0 (MM.keys xs) s'∧(∀ x,x∈xs→x∈L)∧(xs.map (·.1)).Nodup∧(go s'=true→∀ x,x∈L→x∈xs)∧(lk (Fh s') b=none∧lk (Fh s') m=none)∧F=(b,.box 174 [.mp m])::(m,.map (au Dt.cells iv L) c)::Fh s':=by
 have hyk:y<k:=by
  obtain ⟨ob,ho⟩:=Option.ne_none_iff_exists'.1 (hy.vD s0)
  simpa using (Hp.eW h0 ho).1
 refine maps_Keys_dot_set_api_Dot_int_1.enter (by simp [SV.ok,SV.ax];omega) (by simp only [Hp.ok,List.all_cons,Ob.ok,SV.ax,SV.ok,bJ,Bool.and_true,Bool.and_eq_true,decide_eq_true_eq];exact ⟨⟨hb,hm⟩,hm,h0⟩) (by simp) ?_;dsimp only [maps_Keys_dot_set_api_Dot_int_1.s,Co.M,Co.J,Co.F,Co.b8,Co.av,Co.T,Co.K,Co.E,Co.W,Co.O,Co.S];have f1:=cQ (show m≠b by omega);have f2:=cQ (show k≠b by omega);have f3:=cQ (show k≠m by omega);have f4:List.lookup k (Fh s0)=none:=by
  cases hh:lk (Fh s0) k with
  | none=>exact hh
  | some ob=>have:=(Hp.eW h0 hh).1;simp at this
 refine SW.seq ?_;refine SW.g0 [0,1,3,5,7,13] mixed (And.intro (f1) (And.intro (f2) (And.intro (f3) (f4)))) ?_;refine SW.block (SW.q_ (es:=fun _=>au Dt.cells iv L) (c:=fun _=>c) (uG:=fun _=>k) (nm:=fun _=>m) (since:=fun _=>c) (Bv:=fun _=>c)
  (α:={i:σ×j3×Nat // KX Fh Step go aQ b m k L s0 i.1 i.2.1 i.2.2})
  (fun i=>⟨[(5,.it k),(0,.yl y),(1,.ptr b 0)],(k,.iter (some m) c (i.1.2.1.map (·.1)) c)::(b,.box 174 [.mp m])::(m,.map (au Dt.cells iv L) c)::Fh i.1.1,i.1.2.2⟩)
  (fun i=>jd (au Dt.cells iv L) (i.1.2.1.map (·.1))) ⟨(s0,[],k+1),⟨.nil,vz,by simp,by simp,by simp,by simp,Hp.bB (by simp) h0,hdb,MR,f4⟩⟩ id (seen:=fun i=>i.1.2.1.map (·.1)) ?_ (fun i=>by simp [List.lookup]) (fun i=>by simp [aa]) (fun i=> ?_) (fun i=>by omega) (fun i e he=> ?_) (fun i=>Nat.le_refl _) (fun i hall=> ?_) (fun i e he hs=> ?_))
 ·refine aK.same (by simp) (by simp [bp,lE,List.lookup,SV.aC,SV.ok];omega) ?_ ?_
  ·simp only [Hp.ok,List.all_cons,Ob.ok,SV.ax,SV.ok,bJ,Bool.and_true,Bool.and_eq_true,decide_eq_true_eq]
   exact ⟨⟨by omega,by omega⟩,⟨by omega,by omega⟩,by omega,Hp.bB (by simp) h0⟩
  ·intro x hx
   simp only [List.mem_cons] at hx;rcases hx with rfl | rfl | rfl | hx
   ·simp [aa]
   ·simp [aa,f1,f2,f3]
   ·simp [aa,f1,f2,f3]
   ·have:=hy.nd s0 x hx
    have h1:x.1≠k:=fun e=>by rw [e] at this;rw [show lk (Fh s0) k=none from f4] at this;cases this
    have h2:x.1≠b:=fun e=>by rw [e,hdb] at this;cases this
    have h3:x.1≠m:=fun e=>by rw [e,MR] at this;cases this
    simp [aa,h1,h2,h3,this]
 ·simp [aa,f1,f2,f3]
 ·obtain ⟨x,hx,rfl⟩:=fV he
  exact hwf.old x hx
 ·obtain ⟨⟨s,xs,kk⟩,hi⟩:=i
  have hi:KX Fh Step go aQ b m k L s0 s xs kk:=hi;have hi':=hi;obtain ⟨p1,p2,p3,p4,p5,p6,p7,p8,p9,CG⟩:=hi';dsimp only at*;have hsub:xs.length≤L.length:=by
   have:=p4.length_le_of_subset (l₂:=L.map (·.1)) (fun t ht=>by
    obtain ⟨x,hx,rfl⟩:=List.mem_map.1 ht;exact List.mem_map.2 ⟨x,p3 x hx,rfl⟩)
   simpa using this
  have hmul:xs.length*(1+aQ)≤L.length*(1+aQ):=Nat.mul_le_mul_right _ hsub;have hhp:∀ kx,kk≤kx→Hp.ok (fun n=>decide (n<kx)) ((b,Ob.box 174 [.mp m])::(m,.map (au Dt.cells iv L) c)::Fh s)=true:=fun kx hkx=>by
   simp only [Hp.ok,List.all_cons,Ob.ok,SV.ax,SV.ok,bJ,Bool.and_true,Bool.and_eq_true,decide_eq_true_eq];exact ⟨⟨by omega,by omega⟩,by omega,Hp.bB hkx p7⟩
  refine ⟨⟨[],(b,.box 174 [.mp m])::(m,.map (au Dt.cells iv L) c)::Fh s,k+(1+L.length*(1+aQ))⟩,id,aK.same (Nat.le_add_right _ _) trivial (hhp _ (by show kk≤k+(1+L.length*(1+aQ));omega)) ?_,?_⟩
  ·intro x hx
   simp only [List.mem_cons] at hx;rcases hx with rfl | rfl | hx
   ·simp [aa,f1,f2,f3]
   ·simp [aa,f1,f2,f3]
   ·have:=hy.nd s x hx
    have h1:x.1≠k:=fun e=>by rw [e,CG] at this;cases this
    have h2:x.1≠b:=fun e=>by rw [e,p8] at this;cases this
    have h3:x.1≠m:=fun e=>by rw [e,p9] at this;cases this
    simp [aa,h1,h2,h3,this]
  ·rw [if_pos rfl]
   refine End.mk ((b,.box 174 [.mp m])::(m,.map (au Dt.cells iv L) c)::Fh s) (h3:=fun _ _ h=>h) (h4:=⟨rfl,xs,s,p1,p3,p4,fun _ x hx=> ?_,⟨p8,p9⟩,rfl⟩) (h6:=hhp _ (by omega)) (h7:=Nat.le_refl _);have:=hall _ (List.mem_map.2 ⟨x,hx,rfl⟩);simp only [List.contains_iff_mem] at this;obtain ⟨z,hz,e⟩:=List.mem_map.1 this;have:z=x:=MM.qY hwf.times (p3 z hz) hx e;rw [← this];exact hz
 ·obtain ⟨⟨s,xs,kk⟩,hi⟩:=i
  have hi:KX Fh Step go aQ b m k L s0 s xs kk:=hi;have hi':=hi;obtain ⟨p1,p2,p3,p4,p5,p6,p7,p8,p9,CG⟩:=hi';dsimp only at*;obtain ⟨x,hx,rfl⟩:=fV he;dsimp only at hs;have g1:=cQ (show kk≠k by omega);have g2:=cQ (show kk≠b by omega);have g3:=cQ (show kk≠m by omega);have g4:List.lookup kk (Fh s)=none:=Hp.out p7 (Nat.le_refl _);have g5:(xs.map (·.1)++[x.1]).getLast? =some x.1:=by simp
  have g6:=mz (kc:=Dt.cells) (vs:=iv) hwf.times hx;rw [jD];dsimp only;refine SW.block (SW.seq ?_);refine SW.g0 [0,1,3,5,7,13] mixed (And.intro (f1) (And.intro (f2) (And.intro (f3) (And.intro (g1) (And.intro (g2) (And.intro (g3) (And.intro (g4) (And.intro (g5) (g6))))))))) ?_;refine SW.seq (SW.vC ?_);(repeat (first | refine bu.op (And.intro (g1) (And.intro (g2) (g3))) (h:= ?_) | refine bu.dD (And.intro (g1) (And.intro (g2) (g3))) (h:= ?_) | refine bu.skip (h:= ?_)));have hokk:(Fh s).ok (fun n=>decide (n<kk+1))=true:=Hp.bB (by omega) p7;have n9:∀ s',(∀ n,lk (Fh s') n≠none→lk (Fh s) n≠none∨(kk+1≤n∧n<kk+1+aQ))→lk (Fh s') b=none∧lk (Fh s') m=none∧lk (Fh s') k=none:=fun s' h=>by
   refine ⟨?_,?_,?_⟩
   ·exact Classical.byContradiction fun hn=>(h b hn).elim (fun h=>h p8) (fun h=>by omega)
   ·exact Classical.byContradiction fun hn=>(h m hn).elim (fun h=>h p9) (fun h=>by omega)
   ·exact Classical.byContradiction fun hn=>(h k hn).elim (fun h=>h CG) (fun h=>by omega)
  have hxs:x∉xs:=fun h=>by
   have:(xs.map (·.1)).contains x.1=true:=by simp only [List.contains_iff_mem];exact List.mem_map.2 ⟨x,h,rfl⟩
   rw [this] at hs;cases hs
  have hxt:x.1∉xs.map (·.1):=fun h=>by
   have:(xs.map (·.1)).contains x.1=true:=by simpa only [List.contains_iff_mem] using h
   rw [this] at hs;cases hs
  have q3:∀ z,z∈xs++[x]→z∈L:=fun z hz=>by
   rcases List.mem_append.1 hz with hz | hz
   ·exact p3 z hz
   ·rw [List.mem_singleton.1 hz];exact hx
  have q4:((xs++[x]).map (·.1)).Nodup:=by
   rw [List.map_append,List.nodup_append];refine ⟨p4,by simp,fun a ha b' hb'=> ?_⟩;simp only [List.map_cons,List.map_nil,List.mem_singleton] at hb';intro e;exact hxt (by rw [← hb',← e];exact ha)
  have hsub2:(xs++[x]).length≤L.length:=by
   have:=q4.length_le_of_subset (l₂:=L.map (·.1)) (fun t ht=>by
    obtain ⟨z,hz,rfl⟩:=List.mem_map.1 ht;exact List.mem_map.2 ⟨z,q3 z hz,rfl⟩)
   simpa using this
  have hlt:(MM.keys xs).length<L.length:=by
   simp only [List.length_append,List.length_singleton] at hsub2;simp only [MM.keys,List.length_map];omega
  have hsub:HSub (Fh s) ((kk,Ob.box 37 x.2.1.cells)::(k,Ob.iter (some m) c (xs.map (·.1)++[x.1]) c)::(b,Ob.box 174 [.mp m])::(m,.map (au Dt.cells iv L) c)::Fh s):=fun n ob hn=>by
   have h1:n≠k:=fun e=>by rw [e,CG] at hn;cases hn
   have h2:n≠b:=fun e=>by rw [e,p8] at hn;cases hn
   have h3:n≠m:=fun e=>by rw [e,p9] at hn;cases hn
   have h4:n≠kk:=fun e=>by rw [e,show lk (Fh s) kk=none from g4] at hn;cases hn
   simp [aa,h1,h2,h3,h4,hn]
  refine bu.yield (by simp only [ev,List.lookup,Nat.reduceBEq] <;> rfl) (by simp only [ev,pY,List.lookup,Nat.reduceBEq] <;> rfl) (hy.vD s) (hy.call s _ x.2.1 (kk+1) p1 hlt hokk p2) hsub ?_;rintro v F' ⟨s',hstep,rfl,rfl,hok',hnm⟩;obtain ⟨n1,n2,n3⟩:=n9 s' hnm;rw [g_];show bu Tryz.prog 14 k _ ⟨(12,.d (.bool (go s')))::_,_,_⟩ _;(repeat (first | refine bu.op af (h:= ?_) | refine bu.dD af (h:= ?_) | refine bu.skip (h:= ?_)));refine bu.nil ?_;have hlk:=iy (ro:=false) hsub (F':=Fh s') (fun h=>by cases h);have hhp:∀ kx,kk+1+aQ≤kx→Hp.ok (fun n=>decide (n<kx)) ((b,Ob.box 174 [.mp m])::(m,.map (au Dt.cells iv L) c)::Fh s')=true:=fun kx hkx=>by
   simp only [Hp.ok,List.all_cons,Ob.ok,SV.ax,SV.ok,bJ,Bool.and_true,Bool.and_eq_true,decide_eq_true_eq];exact ⟨⟨by omega,by omega⟩,by omega,Hp.bB hkx hok'⟩
  have hin:∀ z,z∈((b,Ob.box 174 [.mp m])::(m,.map (au Dt.cells iv L) c)::Fh s')→zY (lk ((kk,Ob.box 37 x.2.1.cells)::(k,Ob.iter (some m) c (xs.map (·.1)++[x.1]) c)::(b,Ob.box 174 [.mp m])::(m,.map (au Dt.cells iv L) c)::Fh s)) (lk (Fh s)) (lk (Fh s')) z.1=some z.2:=by
   intro z hz;simp only [List.mem_cons] at hz;rcases hz with rfl | rfl | hz
   ·rw [dF p8 n1];simp [aa,f1,f2,f3,g1,g2,g3]
   ·rw [dF p9 n2];simp [aa,f1,f2,f3,g1,g2,g3]
   ·have:=hy.nd s' z hz
    rw [fq (.inr (by rw [this];simp)),this]
  have q1:lF Step s0 (MM.keys (xs++[x])) s':=by
   have:=lF.snoc p1 hstep
   simpa [MM.keys] using this
  have q6:kk+1+aQ≤k+1+(xs++[x]).length*(1+aQ):=by
   have e:(xs++[x]).length*(1+aQ)=xs.length*(1+aQ)+(1+aQ):=by rw [List.length_append,List.length_singleton,Nat.add_mul,Nat.one_mul]
   rw [e];omega
  have hmul:(xs++[x]).length*(1+aQ)≤L.length*(1+aQ):=Nat.mul_le_mul_right _ hsub2;cases hg:go s' with
  | true=>
   refine SW.ah (by simp [ev,List.lookup,hg]) (SW.skip ?_);refine ⟨⟨(s',xs++[x],kk+1+aQ),q1,hg,q3,q4,by show k+1≤kk+1+aQ;omega,q6,hok',n1,n2,n3⟩,id,?_,aK.same (by show k≤kk+1+aQ;omega) (by simp [bp,List.lookup,SV.aC,SV.ok];omega) ?_ ?_⟩
   ·have:=mB he hs
    simpa using this
   ·have:=hhp (kk+1+aQ) (Nat.le_refl _)
    simp only [Hp.ok,List.all_cons,Ob.ok,Bool.and_eq_true,decide_eq_true_eq] at this ⊢;exact ⟨⟨by omega,by omega⟩,this⟩
   ·intro z hz
    rcases List.mem_cons.1 hz with rfl | hz
    ·have:lk (bS false ((kk,Ob.box 37 x.2.1.cells)::(k,Ob.iter (some m) c (xs.map (·.1)++[x.1]) c)::(b,Ob.box 174 [.mp m])::(m,.map (au Dt.cells iv L) c)::Fh s) (Fh s) (Fh s')) k=some (.iter (some m) c (xs.map (·.1)++[x.1]) c):=by
      rw [hlk,dF CG n3];simp [aa,g1]
     simpa [bS] using this
    ·have:lk (bS false ((kk,Ob.box 37 x.2.1.cells)::(k,Ob.iter (some m) c (xs.map (·.1)++[x.1]) c)::(b,Ob.box 174 [.mp m])::(m,.map (au Dt.cells iv L) c)::Fh s) (Fh s) (Fh s')) z.1=some z.2:=by
      rw [hlk];exact hin z hz
     exact this
  | false=>
   refine SW.aj (by simp [ev,List.lookup,hg]) ?_;refine SW.weak id (st1:=⟨[],(b,.box 174 [.mp m])::(m,.map (au Dt.cells iv L) c)::Fh s',k+(1+L.length*(1+aQ))⟩) (aK.same (Nat.le_add_right _ _) trivial (hhp _ (by show kk+1+aQ≤k+(1+L.length*(1+aQ));omega)) fun z hz=> ?_) (SW.ret ?_)
   ·have:lk (bS false ((kk,Ob.box 37 x.2.1.cells)::(k,Ob.iter (some m) c (xs.map (·.1)++[x.1]) c)::(b,Ob.box 174 [.mp m])::(m,.map (au Dt.cells iv L) c)::Fh s) (Fh s) (Fh s')) z.1=some z.2:=by
     rw [hlk];exact hin z hz
    exact this
   ·refine End.mk ((b,.box 174 [.mp m])::(m,.map (au Dt.cells iv L) c)::Fh s') (h3:=fun _ _ h=>h) (h4:=⟨rfl,xs++[x],s',q1,q3,q4,fun (h:go s'=true)=>absurd h (by rw [hg];decide),⟨n1,n2⟩,rfl⟩) (h6:=hhp _ (by omega)) (h7:=Nat.le_refl _)
end
section
attribute [local irreducible] SW RW aF SC ai aq
structure CH (y bx:Nat) where
 l:List Dt
 rn:Nat
 h1:rn≠y
 h2:rn≠bx
def eU (y bx N:Nat)(ts ps:List Nat)(ca cb:Code)(s:CH y bx):Hp:=
 [(y,.pT N ts [.ptr bx 0] ps ca cb .ready none),(bx,.box 31 [.gs s.rn s.l.length]),(s.rn,.arr 37 2 s.l.length ((s.l.flatMap Dt.ds).map .d))]
set_option maxHeartbeats 1000000 in
theorem uV {y bx B:Nat}(Mz:y≠bx)(s0:CH y bx)(hB:s0.l.length+B<4611686018427){ca cb:Code}(hca:cK Tryz.prog 13 ca=some (.fm [⟨some 5,.alloc 37 [.d (.int .u8 0),.d (.int .u32 0)],none⟩,⟨none,.store 2 (.t 5) (.t 7),none⟩] (nV 2) false))
    (hcb:cK Tryz.prog 13 cb=some (.block 1 (.fm [⟨some 8,.load none (.t 2),none⟩,⟨some 9,.load (some 2) (.t 5),none⟩,⟨some 10,.lB 37 2 1 [.d (.int .u8 0),.d (.int .u32 0)] [(0,2,.t 9)],none⟩,⟨some 11,.app 37 2 8 (.t 8) (.t 10),none⟩,⟨none,.store 1 (.t 2) (.t 11),none⟩] (nV 5) false))):
    pE Tryz.prog y (fun x:Dt=> .agg x.cells) 2 (eU y bx 13 [2] [7] ca cb) (fun s x s'=>s'.l=s.l++[x]) (fun _=>true) s0 B:=by
  refine ⟨fun s=>by simp [eU,aa],fun s x hx=> ?_,fun s xs x k hon hlt hok _=> ?_⟩
  · have f1:=cQ Mz
    have f2:=cQ s.h1;have f3:=cQ s.h2;simp only [eU,List.mem_cons,List.not_mem_nil,or_false] at hx;rcases hx with rfl | rfl | rfl <;> simp [eU,aa,f1,f2,f3]
  · have hlen:s.l.length=s0.l.length+xs.length:=by
      clear hlt hok
      induction hon with
      | nil=>rfl
      | snoc _ h ih=>rw [h];simp [ih];omega
    obtain ⟨l,rn,h1,h2⟩:=s;simp only at hlen;simp only [eU,Hp.ok,List.all_cons,List.all_nil,Ob.ok,SV.ax,SV.ok,SV.br,Bool.and_true,Bool.and_eq_true,decide_eq_true_eq] at hok;obtain ⟨⟨k1,_⟩,⟨k2,_⟩,k3⟩:=hok;have f1:=cQ Mz;have f2:=cQ h1;have f3:=cQ h2;have g1:=cQ (show k≠y by omega);have g2:=cQ (show k≠bx by omega);have g3:=cQ (show k≠rn by omega);have g4:=cQ (show k+1≠k by omega);have g5:=cQ (show k+1≠y by omega);have g6:=cQ (show k+1≠bx by omega);have g7:=cQ (show k+1≠rn by omega);have e1:(List.flatMap Dt.ds l++x.ds).map SV.d=(List.flatMap Dt.ds l).map SV.d++x.cells:=by simp [Dt.lX]
    refine DN.here (fun n=>n == y || n == bx || n == rn) (DN.tF (cs:=[.ptr bx 0]) (H:=[(bx,.box 31 [.gs rn l.length]),(rn,.arr 37 2 l.length ((l.flatMap Dt.ds).map .d))]) hca hcb rfl rfl rfl (by simp) k1 (by simp [aa,bE,f1,f2]) (by simp [SV.ax,SV.ok]) (by simp [Hp.ok,Ob.ok,SV.ax,SV.ok,SV.br];omega) (by simp [SV.ax,SV.ok];omega) ?_) ?_ (by simp [SV.ax,SV.ok]) (by simp [eU,Hp.ok,Ob.ok,SV.ax,SV.ok,SV.br]) ?_
    · skip
      show Go.Sl.SW _ _ _ _ ⟨[(7,.agg x.cells),(2,.ptr bx 0)],_,_⟩ _;refine SW.g0 [2,5,7] mixed (And.intro (f1) (And.intro (f2) (And.intro (f3) (And.intro (g1) (And.intro (g2) (g3)))))) ?_;refine ⟨rfl,SW.block ?_⟩;refine SW.g0 [2,5,7] mixed (And.intro (f1) (And.intro (f2) (And.intro (f3) (And.intro (g1) (And.intro (g2) (And.intro (g3) (And.intro (g4) (And.intro (g5) (And.intro (g6) (g7)))))))))) ?_;have e2:((l++[x]).flatMap Dt.ds).map SV.d=(List.flatMap Dt.ds l).map SV.d++x.ds.map SV.d:=by simp
      refine ⟨none,true,[(bx,.box 31 [.gs (k+1) (l++[x]).length]),(k+1,.arr 37 2 (l++[x]).length (((l++[x]).flatMap Dt.ds).map .d))],⟨rfl,rfl⟩,?_,?_,by simp,⟨⟨l++[x],k+1,by omega,by omega⟩,rfl,rfl,rfl,?_,?_⟩⟩
      · refine HSub.cons ?_ (HSub.cons ?_ (HSub.nil _))
        · simp [aa,f1,f2,f3,g1,g2,g3,g4,g5,g6,g7,cN]
        · rw [e2];simp [aa]
      · simp [Hp.ok,Ob.ok,SV.ax,SV.ok,SV.br,-List.flatMap_append,-List.map_append];omega
      · simp [eU,Hp.ok,Ob.ok,SV.ax,SV.ok,SV.br,-List.flatMap_append,-List.map_append];omega
      · intro n hn
        by_cases hy':n=y
        · exact .inl (by simp [eU,aa,hy'])
        · by_cases AL:n=bx
          · exact .inl (by simp [eU,aa,AL,f1])
          · refine .inr ?_
            have:n=k+1:=Classical.byContradiction fun hne=>hn (by simp [eU,aa,bE,hy',AL,hne])
            omega
    · intro n hn
      simp only [Bool.or_eq_true,beq_iff_eq] at hn;rcases hn with (rfl | rfl) | rfl <;> simp [eU,aa,f1,f2,f3]
    · rintro r F' ⟨s',hs',rfl,rfl,hok',hnm⟩ _ _
      obtain ⟨l',rn',h1',h2'⟩:=s';refine ⟨rfl,?_⟩;simp [eU,Hp.ok,Ob.ok,SV.ax,SV.ok,SV.br];have hh:=hnm rn' (by simp [eU,aa,h1',h2']);rcases hh with hh | ⟨hh1,hh2⟩
      · have:rn'=rn:=by
          refine Classical.byContradiction fun hne=>hh ?_
          simp [eU,aa,bE,h1',h2',hne]
        simp [this]
      · simp [hh1];omega
end
section
attribute [local irreducible] SW RW aF SC ai aq
theorem jg {α β:Type}(f:α→β):∀ {l:List α},(l.map f).Nodup→l.Nodup
 | [],_=>List.nodup_nil
 | x::l,h=>by
  simp only [List.map_cons,List.nodup_cons] at h ⊢;exact ⟨fun hx=>h.1 (List.mem_map.2 ⟨x,hx,rfl⟩),jg f h.2⟩
theorem xR {L xs:j3}{c:Nat}(hwf:MM.wf L c)(h1:∀ x,x∈xs→x∈L)(h2:(xs.map (·.1)).Nodup)(h3:∀ x,x∈L→x∈xs):(MM.keys xs).Perm (MM.keys L):=
 ((List.perm_ext_iff_of_nodup (jg _ h2) (jg _ hwf.times)).2 fun a=>⟨h1 a,h3 a⟩).map _
def jJ (b m:Nat)(L:j3)(c:Nat):Hp:=[(b,.box 174 [.mp m]),(m,.map (au Dt.cells iv L) c)]
theorem zi {y bx:Nat}{s0 s:CH y bx}{xs:List Dt}(h:lF (fun (s:CH y bx) x s'=>s'.l=s.l++[x]) s0 xs s):s.l=s0.l++xs:=by
 induction h with
 | nil=>simp
 | snoc _ h ih=>rw [h,ih];simp
set_option maxHeartbeats 1000000 in
theorem xS {L:j3}{c:Nat}(hwf:MM.wf L c)(hL:L.length<1000000000):
  SB Tryz.prog slices_AppendSeq_Lapi_Dot_api_Dot.f [.d .aJ,.fn (.func maps_Keys_dot_set_api_Dot_int_1.f) [] [.ptr 0 0]] (jJ 0 1 L c) 2 1
   fun r F=>r= .gs 2 L.length∧∃ l:List Dt,l.Perm (MM.keys L)∧F=(2,.arr 37 2 L.length ((l.flatMap Dt.ds).map .d))::jJ 0 1 L c:=by
 refine slices_AppendSeq_Lapi_Dot_api_Dot.enter (by simp [SV.ok,SV.ax]) (by simp [jJ,Hp.ok,Ob.ok,SV.ax,SV.ok,bJ]) (by simp) ?_;dsimp only [slices_AppendSeq_Lapi_Dot_api_Dot.s,Co.M,Co.J,Co.F,Co.b8,Co.av,Co.T,Co.K,Co.x,Co.W,Co.S];refine SW.jb 0 37 2 rfl ?_;simp only [jJ];refine SW.seq ?_;refine SW.g0 [0,1,2,4,5,6,7] mixed af ?_;refine SW.seq (SW.seq ?_);refine SW.g0 [0,1,2,4,5,6,7] mixed af ?_;refine SW.block (SW.sn (nk:=1+L.length*(1+2)) [2] [.ptr 3 0] rfl ⟨rfl,trivial⟩ fun ca cb hca hcb=> ?_)
 let s0:CH 4 3:=⟨[],2,by decide,by decide⟩
 have hy:=uV (y:=4) (bx:=3) (B:=L.length) (by decide) s0 (by simp [s0];omega) hca hcb;have hsb:=FJ (y:=4) (b:=0) (m:=1) (k:=5) hwf s0 hy (by simp [eU,s0,Hp.ok,Ob.ok,SV.ax,SV.ok]) (by decide) (by decide) (by decide) (by simp [eU,s0,aa,bE]) (by simp [eU,s0,aa,bE]) rfl;have hsubF:HSub ((0,.box 174 [.mp 1])::(1,.map (au Dt.cells iv L) c)::eU 4 3 13 [2] [7] ca cb s0) ((4,.pT 13 [2] [.ptr 3 0] [7] ca cb .ready none)::[(3,.box 31 [.gs 2 0]),(2,.arr 37 2 0 []),(0,.box 174 [.mp 1]),(1,.map (au Dt.cells iv L) c)]):=by
  intro n ob hn
  match n with
  | 0 | 1 | 2 | 3 | 4=>simpa [eU,s0,aa] using hn
  | n+5=>simp [eU,s0,aa,bE] at hn
 have hsc:=(hsb.here (fun n=>decide (n<5)) (fun n hn=> ?_) (by simp [SV.ax,SV.ok]) (by simp [eU,s0,Hp.ok,Ob.ok,SV.ax,SV.ok,bJ]) ?_).frame hsubF
 ·refine hsc.mono ?_
  rintro r F' ⟨F1,⟨rfl,xs,s',hon,hin,n9,hall,⟨hn0,hn1⟩,rfl⟩,rfl⟩;have hl:=zi hon;have hperm:=xR hwf hin n9 (hall rfl);obtain ⟨l,rn,hr1,hr2⟩:=s';have hl:l=MM.keys xs:=by simpa [s0] using hl
  have hn0:rn≠0:=fun e=>by simp [eU,e,aa] at hn0
  have hn1:rn≠1:=fun e=>by simp [eU,e,aa] at hn1
  have hll:l.length=L.length:=by rw [hl,hperm.length_eq];simp [MM.keys]
  rw [← hl] at hperm;have hlk:=iy (ro:=false) (h:=(4,.pT 13 [2] [.ptr 3 0] [7] ca cb .ready none)::[(3,.box 31 [.gs 2 0]),(2,.arr 37 2 0 []),(0,.box 174 [.mp 1]),(1,.map (au Dt.cells iv L) c)]) (F:=(0,.box 174 [.mp 1])::(1,.map (au Dt.cells iv L) c)::eU 4 3 13 [2] [7] ca cb s0) (F':=(0,.box 174 [.mp 1])::(1,.map (au Dt.cells iv L) c)::eU 4 3 13 [2] [7] ca cb ⟨l,rn,hr1,hr2⟩) hsubF (fun h=>by cases h);generalize bS false _ _ _=G at hlk;have hG:∀ n ob,lk ((0,Ob.box 174 [.mp 1])::(1,.map (au Dt.cells iv L) c)::eU 4 3 13 [2] [7] ca cb ⟨l,rn,hr1,hr2⟩) n=some ob→lk G n=some ob:=fun n ob h=>by
   rw [hlk,fq (.inr (by rw [h];simp)),h]
  refine ⟨none,hG 4 _ (by simp [eU,aa,mA]),?_⟩;refine SW.weak (fun n=>if n=2 then rn else n) (st1:=⟨[(2,.ptr 3 0)],[(3,.box 31 [.gs 2 L.length]),(2,.arr 37 2 L.length ((l.flatMap Dt.ds).map .d)),(0,.box 174 [.mp 1]),(1,.map (au Dt.cells iv L) c)],6⟩) ?_ ?_
  ·have q3:=hG 3 (.box 31 [.gs rn l.length]) (by simp [eU,aa])
   have q2:=hG rn (.arr 37 2 l.length ((l.flatMap Dt.ds).map .d)) (by simp [eU,aa,hn0,hn1,hr1,hr2]);have q0:=hG 0 (.box 174 [.mp 1]) (by simp [aa]);have q1:=hG 1 (.map (au Dt.cells iv L) c) (by simp [aa]);rw [hll] at q3 q2;refine ⟨by show 2≤6;omega,fun n hn=>if_neg (by omega),?_,?_,?_⟩
   ·simp [bp,List.lookup,SV.aC,SV.ok]
   ·simp [vZ,dY,Ob.aC,SV.aT,SV.aC,SV.gD,SV.br,Ob.ok,SV.ax,SV.ok,q3,q2,q0,q1,hr1,cH,bJ]
   ·intro a ha b hb e
    simp only [List.map_cons,List.map_nil,List.mem_cons,List.not_mem_nil,or_false] at ha hb;rcases ha with rfl | rfl | rfl | rfl <;> rcases hb with rfl | rfl | rfl | rfl <;> simp at e <;> first | rfl | omega
  ·(repeat (first | refine SW.seq ?_ | refine SW.block ?_ | refine SW.g0 [0,1,2,4,5,6,7] mixed af ?_ | refine SW.skip ?_ | refine SW.exit ?_ | refine SW.ret ?_ | refine SW.aj rfl ?_ | refine SW.ah rfl ?_))
   exact End.mk ((2,.arr 37 2 L.length ((l.flatMap Dt.ds).map .d))::jJ 0 1 L c) (h4:=⟨rfl,l,hperm,rfl⟩) (h6:=by simp [jJ,Hp.ok,Ob.ok,SV.ax,SV.ok,SV.br,bJ])
 ·match n,hn with
  | 0,_ | 1,_ | 2,_ | 3,_ | 4,_=>simp [eU,s0,aa]
  | n +5,h=>
    have:n+5<5:=by simpa using h
    omega
 ·rintro r F' _ h1 h2
  refine ⟨SV.gu (fun n hn=> ?_) _ h1,Hp.ez (fun n hn=> ?_) h2⟩ <;> (simp at hn ⊢;omega)
end
section
attribute [local irreducible] SW RW aF SC ai aq
theorem It (n:Int):Go.Sl.Pure Tryz.prog cmp_isNaN_uint8.f [.d (.int .u8 n)] (bl false):=by
 refine cmp_isNaN_uint8.enter (by first | rfl | simp [SV.ok,SV.ax]) (by first | rfl | simp [Hp.ok,Ob.ok,SV.ok,SV.ax,aB.ak]) (by simp) ?_;dsimp only [cmp_isNaN_uint8.s,Co.M,Co.J,Co.F,Co.B,Co.V,Co.S];have e1:(n != n)=false:=bne_self_eq_false n;(repeat (first | refine SW.seq ?_ | refine SW.block ?_ | refine SW.g0 [0,2] mixed (e1) ?_ | refine SW.skip ?_ | refine SW.exit ?_ | refine SW.ret ?_ | refine SW.aj rfl ?_ | refine SW.ah rfl ?_));exact End.mk [] (h4:=⟨rfl,rfl⟩)
theorem pO (n:Int)(k:Nat):aF Tryz.prog cmp_isNaN_uint8.f [.d (.int .u8 n)] [] k 0 (.d (.bool false)) []:=(It n).sc rfl k
theorem FK (n:Int):Go.Sl.Pure Tryz.prog cmp_isNaN_uint32.f [.d (.int .u32 n)] (bl false):=by
 refine cmp_isNaN_uint32.enter (by first | rfl | simp [SV.ok,SV.ax]) (by first | rfl | simp [Hp.ok,Ob.ok,SV.ok,SV.ax,aB.ak]) (by simp) ?_;dsimp only [cmp_isNaN_uint32.s,Co.M,Co.J,Co.F,Co.B,Co.V,Co.S];have e1:(n != n)=false:=bne_self_eq_false n;(repeat (first | refine SW.seq ?_ | refine SW.block ?_ | refine SW.g0 [0,2] mixed (e1) ?_ | refine SW.skip ?_ | refine SW.exit ?_ | refine SW.ret ?_ | refine SW.aj rfl ?_ | refine SW.ah rfl ?_));exact End.mk [] (h4:=⟨rfl,rfl⟩)
theorem mG (n:Int)(k:Nat):aF Tryz.prog cmp_isNaN_uint32.f [.d (.int .u32 n)] [] k 0 (.d (.bool false)) []:=(FK n).sc rfl k
theorem Iu (a b:Int):Go.Sl.Pure Tryz.prog cmp_Compare_uint8.f [.d (.int .u8 a),.d (.int .u8 b)] (i64 (dJ a b)):=by
 refine cmp_Compare_uint8.enter (by first | rfl | simp [SV.ok,SV.ax]) (by first | rfl | simp [Hp.ok,Ob.ok,SV.ok,SV.ax,aB.ak]) (by simp) ?_;dsimp only [cmp_Compare_uint8.s,Co.M,Co.J,Co.F,Co.Z,Co.P,Co.V,Co.S];rcases Int.lt_trichotomy a b with h | h | h
 ·have e1:decide (a<b)=true:=by simp [h]
  have e2:dJ a b= -1:=by simp [dJ,h]
  (repeat (first | refine SW.seq ?_ | refine SW.block ?_ | (refine SW.bT [0,1,4,5,6,11,12,13,16,19] mixed ?_;(repeat (first | refine RW.ro (e1) (h:= ?_) | refine RW.skip (h:= ?_) | refine RW.op (e1) (h:= ?_) | refine RW.dD (e1) (h:= ?_) | refine RW.aY (h:= ?_) | (refine RW.aM (h:= ?_);(first | refine ai.mk (e1) (hc:=pO _ _) (h:= ?_) | refine ai.mk (e1) (hc:=mG _ _) (h:= ?_)))));refine RW.nil ⟨by kernel_rfl,aq.mk (h:= ?_)⟩) | refine SW.skip ?_ | refine SW.exit ?_ | refine SW.ret ?_ | refine SW.aj rfl ?_ | refine SW.ah rfl ?_));exact End.mk [] (h4:=⟨by rw [e2];rfl,rfl⟩)
 ·have e1:decide (a<b)=false:=by simp [h]
  have e3:decide (a>b)=false:=by simp [h]
  have e2:dJ a b=0:=by simp [dJ,h]
  (repeat (first | refine SW.seq ?_ | refine SW.block ?_ | (refine SW.bT [0,1,4,5,6,11,12,13,16,19] mixed ?_;(repeat (first | refine RW.ro (And.intro (e1) (e3)) (h:= ?_) | refine RW.skip (h:= ?_) | refine RW.op (And.intro (e1) (e3)) (h:= ?_) | refine RW.dD (And.intro (e1) (e3)) (h:= ?_) | refine RW.aY (h:= ?_) | (refine RW.aM (h:= ?_);(first | refine ai.mk (And.intro (e1) (e3)) (hc:=pO _ _) (h:= ?_) | refine ai.mk (And.intro (e1) (e3)) (hc:=mG _ _) (h:= ?_)))));refine RW.nil ⟨by kernel_rfl,aq.mk (h:= ?_)⟩) | refine SW.skip ?_ | refine SW.exit ?_ | refine SW.ret ?_ | refine SW.aj rfl ?_ | refine SW.ah rfl ?_));exact End.mk [] (h4:=⟨by rw [e2];rfl,rfl⟩)
 ·have e1:decide (a<b)=false:=by simp;omega
  have e3:decide (a>b)=true:=by simp [h]
  have e2:dJ a b=1:=by unfold dJ;rw [if_neg (by omega),if_pos h]
  (repeat (first | refine SW.seq ?_ | refine SW.block ?_ | (refine SW.bT [0,1,4,5,6,11,12,13,16,19] mixed ?_;(repeat (first | refine RW.ro (And.intro (e1) (e3)) (h:= ?_) | refine RW.skip (h:= ?_) | refine RW.op (And.intro (e1) (e3)) (h:= ?_) | refine RW.dD (And.intro (e1) (e3)) (h:= ?_) | refine RW.aY (h:= ?_) | (refine RW.aM (h:= ?_);(first | refine ai.mk (And.intro (e1) (e3)) (hc:=pO _ _) (h:= ?_) | refine ai.mk (And.intro (e1) (e3)) (hc:=mG _ _) (h:= ?_)))));refine RW.nil ⟨by kernel_rfl,aq.mk (h:= ?_)⟩) | refine SW.skip ?_ | refine SW.exit ?_ | refine SW.ret ?_ | refine SW.aj rfl ?_ | refine SW.ah rfl ?_));exact End.mk [] (h4:=⟨by rw [e2];rfl,rfl⟩)
theorem FL (a b:Int):Go.Sl.Pure Tryz.prog cmp_Compare_uint32.f [.d (.int .u32 a),.d (.int .u32 b)] (i64 (dJ a b)):=by
 refine cmp_Compare_uint32.enter (by first | rfl | simp [SV.ok,SV.ax]) (by first | rfl | simp [Hp.ok,Ob.ok,SV.ok,SV.ax,aB.ak]) (by simp) ?_;dsimp only [cmp_Compare_uint32.s,Co.M,Co.J,Co.F,Co.Z,Co.P,Co.V,Co.S];rcases Int.lt_trichotomy a b with h | h | h
 ·have e1:decide (a<b)=true:=by simp [h]
  have e2:dJ a b= -1:=by simp [dJ,h]
  (repeat (first | refine SW.seq ?_ | refine SW.block ?_ | (refine SW.bT [0,1,4,5,6,11,12,13,16,19] mixed ?_;(repeat (first | refine RW.ro (e1) (h:= ?_) | refine RW.skip (h:= ?_) | refine RW.op (e1) (h:= ?_) | refine RW.dD (e1) (h:= ?_) | refine RW.aY (h:= ?_) | (refine RW.aM (h:= ?_);(first | refine ai.mk (e1) (hc:=pO _ _) (h:= ?_) | refine ai.mk (e1) (hc:=mG _ _) (h:= ?_)))));refine RW.nil ⟨by kernel_rfl,aq.mk (h:= ?_)⟩) | refine SW.skip ?_ | refine SW.exit ?_ | refine SW.ret ?_ | refine SW.aj rfl ?_ | refine SW.ah rfl ?_));exact End.mk [] (h4:=⟨by rw [e2];rfl,rfl⟩)
 ·have e1:decide (a<b)=false:=by simp [h]
  have e3:decide (a>b)=false:=by simp [h]
  have e2:dJ a b=0:=by simp [dJ,h]
  (repeat (first | refine SW.seq ?_ | refine SW.block ?_ | (refine SW.bT [0,1,4,5,6,11,12,13,16,19] mixed ?_;(repeat (first | refine RW.ro (And.intro (e1) (e3)) (h:= ?_) | refine RW.skip (h:= ?_) | refine RW.op (And.intro (e1) (e3)) (h:= ?_) | refine RW.dD (And.intro (e1) (e3)) (h:= ?_) | refine RW.aY (h:= ?_) | (refine RW.aM (h:= ?_);(first | refine ai.mk (And.intro (e1) (e3)) (hc:=pO _ _) (h:= ?_) | refine ai.mk (And.intro (e1) (e3)) (hc:=mG _ _) (h:= ?_)))));refine RW.nil ⟨by kernel_rfl,aq.mk (h:= ?_)⟩) | refine SW.skip ?_ | refine SW.exit ?_ | refine SW.ret ?_ | refine SW.aj rfl ?_ | refine SW.ah rfl ?_));exact End.mk [] (h4:=⟨by rw [e2];rfl,rfl⟩)
 ·have e1:decide (a<b)=false:=by simp;omega
  have e3:decide (a>b)=true:=by simp [h]
  have e2:dJ a b=1:=by unfold dJ;rw [if_neg (by omega),if_pos h]
  (repeat (first | refine SW.seq ?_ | refine SW.block ?_ | (refine SW.bT [0,1,4,5,6,11,12,13,16,19] mixed ?_;(repeat (first | refine RW.ro (And.intro (e1) (e3)) (h:= ?_) | refine RW.skip (h:= ?_) | refine RW.op (And.intro (e1) (e3)) (h:= ?_) | refine RW.dD (And.intro (e1) (e3)) (h:= ?_) | refine RW.aY (h:= ?_) | (refine RW.aM (h:= ?_);(first | refine ai.mk (And.intro (e1) (e3)) (hc:=pO _ _) (h:= ?_) | refine ai.mk (And.intro (e1) (e3)) (hc:=mG _ _) (h:= ?_)))));refine RW.nil ⟨by kernel_rfl,aq.mk (h:= ?_)⟩) | refine SW.skip ?_ | refine SW.exit ?_ | refine SW.ret ?_ | refine SW.aj rfl ?_ | refine SW.ah rfl ?_));exact End.mk [] (h4:=⟨by rw [e2];rfl,rfl⟩)
theorem BP (a b:Int)(k:Nat):aF Tryz.prog cmp_Compare_uint8.f [.d (.int .u8 a),.d (.int .u8 b)] [] k 0 (.d (.int .i64 (dJ a b))) []:=(Iu a b).sc rfl k
theorem zj (a b:Int)(k:Nat):aF Tryz.prog cmp_Compare_uint32.f [.d (.int .u32 a),.d (.int .u32 b)] [] k 0 (.d (.int .i64 (dJ a b))) []:=(FL a b).sc rfl k
end
section
attribute [local irreducible] SW RW aF SC ai aq
theorem KZ (a b:Int):Go.Sl.Pure Tryz.prog cmp_Or_int.f [.d (.sl 2 [.int .i64 a,.int .i64 b])] (i64 (if a=0 then b else a)):=by
 refine cmp_Or_int.enter (by first | rfl | simp [SV.ok,SV.ax]) (by first | rfl | simp [Hp.ok,Ob.ok,SV.ok,SV.ax,aB.ak]) (by simp) ?_;dsimp only [cmp_Or_int.s,Co.M,Co.J,Co.F,Co.Z,Co.T,Co.L,Co.Y,Co.V,Co.I,Co.S];(repeat (first | refine SW.seq ?_ | refine SW.block ?_ | refine SW.g0 [0,2,3,5,6,7,8,9,14] mixed af ?_ | refine SW.skip ?_ | refine SW.exit ?_ | refine SW.ret ?_ | refine SW.aj rfl ?_ | refine SW.ah rfl ?_));refine SW.gY (α:={i:Nat // i≤2∧(1≤i→a=0)∧(2≤i→b=0)}) (fun i=>⟨[(8,i64 i.1),(6,.d (.sl 2 [.int .i64 a,.int .i64 b])),(7,i64 2),(3,i64 0)],[],0⟩) (fun i=>2 - i.1) ⟨0,by omega⟩ id af (round:= ?_);rintro ⟨i,hi,ha,hb⟩
 match i,hi,ha,hb with
 | 0,_,_,_=>
  rcases h1:(a != 0) with _ | _
  ·(repeat (first | refine SW.seq ?_ | refine SW.block ?_ | refine SW.g0 [0,2,3,5,6,7,8,9,14] mixed (h1) ?_ | refine SW.skip ?_ | refine SW.exit ?_ | refine SW.ret ?_ | refine SW.aj rfl ?_ | refine SW.ah rfl ?_))
   exact Next.mk ⟨1,by omega,fun _=>by simpa using h1,by omega⟩ id af
  ·(repeat (first | refine SW.seq ?_ | refine SW.block ?_ | refine SW.g0 [0,2,3,5,6,7,8,9,14] mixed (h1) ?_ | refine SW.skip ?_ | refine SW.exit ?_ | refine SW.ret ?_ | refine SW.aj rfl ?_ | refine SW.ah rfl ?_))
   exact End.mk [] (h4:=⟨by simp at h1;rw [if_neg h1];rfl,rfl⟩)
 | 1,_,ha,_=>
  rcases h1:(b != 0) with _ | _
  ·(repeat (first | refine SW.seq ?_ | refine SW.block ?_ | refine SW.g0 [0,2,3,5,6,7,8,9,14] mixed (h1) ?_ | refine SW.skip ?_ | refine SW.exit ?_ | refine SW.ret ?_ | refine SW.aj rfl ?_ | refine SW.ah rfl ?_))
   exact Next.mk ⟨2,by omega,fun _=>ha (by omega),fun _=>by simpa using h1⟩ id af
  ·(repeat (first | refine SW.seq ?_ | refine SW.block ?_ | refine SW.g0 [0,2,3,5,6,7,8,9,14] mixed (h1) ?_ | refine SW.skip ?_ | refine SW.exit ?_ | refine SW.ret ?_ | refine SW.aj rfl ?_ | refine SW.ah rfl ?_))
   exact End.mk [] (h4:=⟨by rw [if_pos (ha (by omega))];rfl,rfl⟩)
 | 2,_,ha,hb=>
  (repeat (first | refine SW.seq ?_ | refine SW.block ?_ | refine SW.g0 [0,2,3,5,6,7,8,9,14] mixed af ?_ | refine SW.skip ?_ | refine SW.exit ?_ | refine SW.ret ?_ | refine SW.aj rfl ?_ | refine SW.ah rfl ?_));exact End.mk [] (h4:=⟨by rw [if_pos (ha (by omega)),hb (by omega)];rfl,rfl⟩)
theorem K3 (a b:Int)(k:Nat):aF Tryz.prog cmp_Or_int.f [.d (.sl 2 [.int .i64 a,.int .i64 b])] [] k 0 (.d (.int .i64 (if a=0 then b else a))) []:=(KZ a b).sc rfl k
def Dt.cmp (a b:Dt):Int:=if dJ a.r b.r=0 then dJ a.n b.n else dJ a.r b.r
theorem AQ (a b:Dt):Go.Sl.Pure Tryz.prog dot_Compare.f [.agg a.cells,.agg b.cells] (i64 (Dt.cmp a b)):=by
 refine dot_Compare.enter (by first | rfl | simp [SV.ok,SV.ax]) (by first | rfl | simp [Hp.ok,Ob.ok,SV.ok,SV.ax,aB.ak]) (by simp) ?_;dsimp only [dot_Compare.s,Co.M,Co.J,Co.F,Co.Z,Co.i6,Co.T,Co.P,Co.Q,Co.x,Co.D,Co.S];(repeat (first | refine SW.seq ?_ | refine SW.block ?_ | (refine SW.bT [0,1,2,3,4] mixed ?_;(repeat (first | refine RW.ro (yU) (h:= ?_) | refine RW.skip (h:= ?_) | refine RW.op (yU) (h:= ?_) | refine RW.dD (yU) (h:= ?_) | refine RW.aY (h:= ?_) | (refine RW.aM (h:= ?_);(first | refine ai.mk (yU) (hc:=BP _ _ _) (h:= ?_) | refine ai.mk (yU) (hc:=zj _ _ _) (h:= ?_) | refine ai.mk (yU) (hc:=K3 _ _ _) (h:= ?_)))));refine RW.nil ⟨by kernel_rfl,aq.mk (h:= ?_)⟩) | refine SW.skip ?_ | refine SW.exit ?_ | refine SW.ret ?_ | refine SW.aj rfl ?_ | refine SW.ah rfl ?_));exact End.mk [] (h4:=⟨rfl,rfl⟩)
theorem AR (a b:Dt)(k:Nat):aF Tryz.prog dot_Compare.f [.agg a.cells,.agg b.cells] [] k 0 (.d (.int .i64 (Dt.cmp a b))) []:=(AQ a b).sc rfl k
end
end Go.Proofs.YtaelhkkjgfobhaaGreat
namespace Go.Proofs.YtaelhkkjgfobhaaGreat
open Go.Proofs Go.Shelf
def wK:Go.Shelf.Ren:=⟨fun | 6=>160 | 15=>191 | 14=>190 | 28=>206 | 29=>207 | 20=>198 | 21=>199 | 22=>200 | 23=>201 | 24=>202 | 25=>203 | 26=>204 | 27=>205 | 46=>208 | 47=>209 | 48=>210 | 49=>211 | 50=>212 | 57=>213 | n=>n,fun | 22=>31 | 24=>37 | 25=>154 | 3=>3 | 39=>221 | 0=>0 | 53=>35 | 55=>40 | 4=>4 | 46=>228 | 45=>227 | 50=>51 | 5=>5 | 9=>9 | 66=>235 | 70=>239 | 76=>241 | 77=>242 | n=>n,fun | n=>n⟩
theorem MS:Go.Proofs.SlLaysF0.n6 Tryz.prog wK where
 mixed:=by kernel_rfl
 f6:=⟨ "slices.SortFunc[[]tranter/api.Dot,tranter/api.Dot]",by decide,Tryz.func160.trans (congrArg some (by kernel_rfl))⟩
 f14:=⟨ "slices.pdqsortCmpFunc[tranter/api.Dot]",by decide,Tryz.func190.trans (congrArg some (by kernel_rfl))⟩
 f15:= Tryz.func191.trans (congrArg some (by kernel_rfl))
 f20:=⟨ "slices.insertionSortCmpFunc[tranter/api.Dot]",by decide,Tryz.func198.trans (congrArg some (by kernel_rfl))⟩
 f21:=⟨ "slices.heapSortCmpFunc[tranter/api.Dot]",by decide,Tryz.func199.trans (congrArg some (by kernel_rfl))⟩
 f22:=⟨ "slices.breakPatternsCmpFunc[tranter/api.Dot]",by decide,Tryz.func200.trans (congrArg some (by kernel_rfl))⟩
 f23:=⟨ "slices.choosePivotCmpFunc[tranter/api.Dot]",by decide,Tryz.func201.trans (congrArg some (by kernel_rfl))⟩
 f24:=⟨ "slices.reverseRangeCmpFunc[tranter/api.Dot]",by decide,Tryz.func202.trans (congrArg some (by kernel_rfl))⟩
 f25:=⟨ "slices.partialInsertionSortCmpFunc[tranter/api.Dot]",by decide,Tryz.func203.trans (congrArg some (by kernel_rfl))⟩
 f26:=⟨ "slices.partitionEqualCmpFunc[tranter/api.Dot]",by decide,Tryz.func204.trans (congrArg some (by kernel_rfl))⟩
 f27:=⟨ "slices.partitionCmpFunc[tranter/api.Dot]",by decide,Tryz.func205.trans (congrArg some (by kernel_rfl))⟩
 f28:= Tryz.func206.trans (congrArg some (by kernel_rfl))
 f29:= Tryz.func207.trans (congrArg some (by kernel_rfl))
 f46:=⟨ "slices.siftDownCmpFunc[tranter/api.Dot]",by decide,Tryz.func208.trans (congrArg some (by kernel_rfl))⟩
 f47:= Tryz.func209.trans (congrArg some (by kernel_rfl))
 f48:= Tryz.func210.trans (congrArg some (by kernel_rfl))
 f49:=⟨ "slices.medianAdjacentCmpFunc[tranter/api.Dot]",by decide,Tryz.func211.trans (congrArg some (by kernel_rfl))⟩
 f50:=⟨ "slices.medianCmpFunc[tranter/api.Dot]",by decide,Tryz.func212.trans (congrArg some (by kernel_rfl))⟩
 f57:=⟨ "slices.order2CmpFunc[tranter/api.Dot]",by decide,Tryz.func213.trans (congrArg some (by kernel_rfl))⟩
 t0:= Tryz.underlying0
 a0:= Tryz.isAgg0
 z0:= Tryz.sizeOf0
 v0:= Tryz.zeroValue0
 t3:= Tryz.underlying3
 a3:= Tryz.isAgg3
 z3:= Tryz.sizeOf3
 v3:= Tryz.zeroValue3
 t4:= Tryz.underlying4
 a4:= Tryz.isAgg4
 z4:= Tryz.sizeOf4
 v4:= Tryz.zeroValue4
 t5:= Tryz.underlying5
 a5:= Tryz.isAgg5
 z5:= Tryz.sizeOf5
 v5:= Tryz.zeroValue5
 t9:= Tryz.underlying9
 a9:= Tryz.isAgg9
 z9:= Tryz.sizeOf9
 v9:= Tryz.zeroValue9
 t22:= Tryz.underlying31
 a22:= Tryz.isAgg31
 z22:= Tryz.sizeOf31
 v22:= Tryz.zeroValue31
 t25:= Tryz.underlying154
 a25:= Tryz.isAgg154
 z25:= Tryz.sizeOf154
 v25:= Tryz.zeroValue154
 t39:= Tryz.underlying221
 a39:= Tryz.isAgg221
 z39:= Tryz.sizeOf221
 v39:= Tryz.zeroValue221
 t45:= Tryz.underlying227
 a45:= Tryz.isAgg227
 z45:= Tryz.sizeOf227
 v45:= Tryz.zeroValue227
 t46:= Tryz.underlying228
 a46:= Tryz.isAgg228
 z46:= Tryz.sizeOf228
 v46:= Tryz.zeroValue228
 t50:= Tryz.underlying51
 a50:= Tryz.isAgg51
 z50:= Tryz.sizeOf51
 v50:= Tryz.zeroValue51
 t53:= Tryz.underlying35
 a53:= Tryz.isAgg35
 z53:= Tryz.sizeOf35
 v53:= Tryz.zeroValue35
 t55:= Tryz.underlying40
 a55:= Tryz.isAgg40
 z55:= Tryz.sizeOf40
 v55:= Tryz.zeroValue40
 t66:= Tryz.underlying235
 a66:= Tryz.isAgg235
 z66:= Tryz.sizeOf235
 v66:= Tryz.zeroValue235
 t70:= Tryz.underlying239
 a70:= Tryz.isAgg239
 z70:= Tryz.sizeOf239
 v70:= Tryz.zeroValue239
 t76:= Tryz.underlying241
 a76:= Tryz.isAgg241
 z76:= Tryz.sizeOf241
 v76:= Tryz.zeroValue241
 t77:= Tryz.underlying242
 a77:= Tryz.isAgg242
 z77:= Tryz.sizeOf242
 v77:= Tryz.zeroValue242
end Go.Proofs.YtaelhkkjgfobhaaGreat
namespace Go.Proofs.YtaelhkkjgfobhaaGreat
open Go.Sl Go.Proofs Go.Sort
section
attribute [local irreducible] SW RW aF SC ai aq
theorem Dt.AS (a b:Dt):Dt.cmp a b<0↔a.r<b.r∨a.r=b.r∧a.n<b.n:=by
 unfold Dt.cmp dJ
 split <;> split <;> (try split) <;> (try split) <;> omega
theorem Dt.zk (a b:Dt):Dt.cmp a b= -Dt.cmp b a:=by
 unfold Dt.cmp dJ
 repeat' split
 all_goals omega
theorem Dt.zl (a b:Dt):Dt.cmp a b=0↔a=b:=by
 obtain ⟨a1,a2⟩:=a;obtain ⟨b1,b2⟩:=b;simp only [Dt.mk.injEq];unfold Dt.cmp dJ;dsimp only
 repeat' split
 all_goals omega
theorem Dt.lt_iff (a b:Dt):ltOf Dt.cmp a b=true↔a.r<b.r∨a.r=b.r∧a.n<b.n:=by
 unfold ltOf;rw [decide_eq_true_eq];exact Dt.AS a b
theorem Dt.swo:SWO (ltOf Dt.cmp):=by
 refine ⟨fun x=> ?_,fun x y z h1 h2=> ?_,fun x y z h1 h2=> ?_⟩
 ·rw [Bool.eq_false_iff,ne_eq,Dt.lt_iff];omega
 ·rw [Dt.lt_iff] at *;omega
 ·rw [Bool.eq_false_iff,ne_eq,Dt.lt_iff] at *;omega
def Dt.le (a b:Dt):Bool:= !ltOf Dt.cmp b a
theorem Dt.le_iff (a b:Dt):Dt.le a b=true↔a.r<b.r∨a.r=b.r∧a.n≤b.n:=by
 unfold Dt.le;rw [Bool.not_eq_true',Bool.eq_false_iff,ne_eq,Dt.lt_iff];omega
theorem Dt.le_antisymm {a b:Dt}(h1:Dt.le a b=true)(h2:Dt.le b a=true):a=b:=by
 rw [Dt.le_iff] at*;obtain ⟨a1,a2⟩:=a;obtain ⟨b1,b2⟩:=b;simp only [Dt.mk.injEq] at*;omega
def Dt.sorted (l:List Dt):List Dt:=l.mergeSort Dt.le
theorem Dt.f_ (l:List Dt):(Dt.sorted l).Pairwise fun a b=>Dt.le a b=true:=
 List.pairwise_mergeSort (fun a b c h1 h2=>by rw [Dt.le_iff] at *;omega) (fun a b=>by rw [Bool.or_eq_true,Dt.le_iff,Dt.le_iff];omega) l
theorem Dt.sorted_perm (l:List Dt):(Dt.sorted l).Perm l:=List.mergeSort_perm l Dt.le
theorem Dt.jO {l l':List Dt}(h:l'.Perm l)(hp:l'.Pairwise fun a b=>Dt.le a b=true):l'=Dt.sorted l:=
 List.Perm.eq_of_pairwise (le:=fun a b=>Dt.le a b=true) (fun a b _ _ h1 h2=>Dt.le_antisymm h1 h2) hp (Dt.f_ l) (h.trans (Dt.sorted_perm l).symm)
set_option maxRecDepth 100000 in
theorem oI (n:Nat)(l:List Dt)(hl:l.length<4611686018427387904)(k:Nat):aF Tryz.prog slices_SortFunc_Lapi_Dot_api_Dot.f [.gs n l.length,.fn (.func dot_Compare.f) [] []] [(n,.arr 37 2 l.length ((l.flatMap Dt.ds).map .d))] k 0 (.dm []) [(n,.arr 37 2 l.length (((Dt.sorted l).flatMap Dt.ds).map .d))]:=by
 have h:=SC.FH (P:= Tryz.prog) (ρ:=wK) MS 2 Tryz.isAgg37 Tryz.sizeOf37 (by kernel_rfl) Dt.ds (fun _=>rfl) Dt.cmp Dt.swo dot_Compare.f [] (by kernel_rfl) (fun x y k=>AR x y k) n 37 l hl k;unfold aF;refine SC.mono h ?_;rintro r F' ⟨rfl,l',hp,hs,rfl⟩;rw [Dt.jO hp (hs.imp fun {a b} hab=>by unfold Dt.le;rw [hab];rfl)];exact ⟨rfl,rfl⟩
end
section
attribute [local irreducible] SW RW aF SC ai aq
theorem uW (L:j3)(c n:Nat)(h:decide (n<2)=true):lk (jJ 0 1 L c) n≠none:=by
 match n,h with
 | 0,_ | 1,_=>simp [jJ,aa]
 | n +2,h=>
   have:n+2<2:=by simpa using h
   omega
theorem rC (q:Nat→Bool)(b m:Nat)(L:j3)(c:Nat)(hb:q b=true)(hm:q m=true):(jJ b m L c).ok q=true:=by
 simp [jJ,Hp.ok,Ob.ok,SV.ax,SV.ok,bJ,hb,hm]
theorem xT {L:j3}{c:Nat}(hwf:MM.wf L c)(hL:L.length<1000000000):
  SC Tryz.prog slices_AppendSeq_Lapi_Dot_api_Dot.f [.d .aJ,.fn (.func maps_Keys_dot_set_api_Dot_int_1.f) [] [.ptr 0 0]] (jJ 0 1 L c) 2 1
   fun r F=>r= .gs 2 L.length∧∃ l:List Dt,l.Perm (MM.keys L)∧F=(2,.arr 37 2 L.length ((l.flatMap Dt.ds).map .d))::jJ 0 1 L c:=
 (xS hwf hL).here (fun n=>decide (n<2)) (uW L c) (by simp [SV.ax,SV.ok]) (rC _ _ _ _ _ rfl rfl) fun r F' _ h1 h2=>⟨SV.gu (fun n hn=>by simp at hn ⊢;omega) _ h1,Hp.ez (fun n hn=>by simp at hn ⊢;omega) h2⟩
theorem AT {L:j3}{c:Nat}(hwf:MM.wf L c)(hL:L.length<1000000000):
  SB Tryz.prog slices_Collect_api_Dot.f [.fn (.func maps_Keys_dot_set_api_Dot_int_1.f) [] [.ptr 0 0]] (jJ 0 1 L c) 2 1
   fun r F=>r= .gs 2 L.length∧∃ l:List Dt,l.Perm (MM.keys L)∧F=(2,.arr 37 2 L.length ((l.flatMap Dt.ds).map .d))::jJ 0 1 L c:=by
 refine slices_Collect_api_Dot.enter (by simp [SV.ok,SV.ax]) (rC _ _ _ _ _ rfl rfl) (by simp) ?_;dsimp only [slices_Collect_api_Dot.s,Co.M,Co.J,Co.F,Co.C,Co.S];refine SW.seq ?_;refine SW.g0 [0,2] mixed af ?_;refine SW.seq (SW.vC ?_);(repeat (first | refine bu.op af (h:= ?_) | refine bu.dD af (h:= ?_) | refine bu.skip (h:= ?_)));refine bu.aM (xT hwf hL) (fun _ _ h=>h) (h:= ?_);rintro v F' ⟨rfl,l,hl,rfl⟩;simp only [bS,bZ,b_,fC,fK,cM,lk,List.lookup,Nat.reduceBEq,BEq.rfl,beq_self_eq_true,if_true,if_false,reduceIte,Nat.reduceEqDiff,Bool.false_eq_true,Option.isSome_some,Option.isSome_none,Nat.reduceAdd,jJ];(repeat (first | refine bu.op af (h:= ?_) | refine bu.dD af (h:= ?_) | refine bu.skip (h:= ?_)));refine bu.nil (SW.ret ?_);exact End.mk ((2,.arr 37 2 L.length ((l.flatMap Dt.ds).map .d))::jJ 0 1 L c) (h4:=⟨rfl,l,hl,rfl⟩) (h6:=by simp [jJ,Hp.ok,Ob.ok,SV.ax,SV.ok,SV.br,bJ])
theorem AU {L:j3}{c:Nat}(hwf:MM.wf L c)(hL:L.length<1000000000):
  SC Tryz.prog slices_Collect_api_Dot.f [.fn (.func maps_Keys_dot_set_api_Dot_int_1.f) [] [.ptr 0 0]] (jJ 0 1 L c) 2 1
   fun r F=>r= .gs 2 L.length∧∃ l:List Dt,l.Perm (MM.keys L)∧F=(2,.arr 37 2 L.length ((l.flatMap Dt.ds).map .d))::jJ 0 1 L c:=
 (AT hwf hL).here (fun n=>decide (n<2)) (uW L c) (by simp [SV.ax,SV.ok]) (rC _ _ _ _ _ rfl rfl) fun r F' _ h1 h2=>⟨SV.gu (fun n hn=>by simp at hn ⊢;omega) _ h1,Hp.ez (fun n hn=>by simp at hn ⊢;omega) h2⟩
theorem vG {L:j3}{c:Nat}(hwf:MM.wf L c)(hL:L.length<1000000000):
  SB Tryz.prog slices_SortedFunc_api_Dot.f [.fn (.func maps_Keys_dot_set_api_Dot_int_1.f) [] [.ptr 0 0],.fn (.func dot_Compare.f) [] []] (jJ 0 1 L c) 2 0
   fun r F=>r=aW (Dt.sorted (MM.keys L))∧F=jJ 0 1 L c:=by
 refine slices_SortedFunc_api_Dot.enter (by simp [SV.ok,SV.ax]) (rC _ _ _ _ _ rfl rfl) (by simp) ?_;dsimp only [slices_SortedFunc_api_Dot.s,Co.M,Co.J,Co.F,Co.P,Co.Q,Co.S];refine SW.seq ?_;refine SW.g0 [0,1,4,5] mixed af ?_;refine SW.seq (SW.vC ?_);(repeat (first | refine bu.op af (h:= ?_) | refine bu.dD af (h:= ?_) | refine bu.skip (h:= ?_)));refine bu.aM (AU hwf hL) (fun _ _ h=>h) (h:= ?_);rintro v F' ⟨rfl,l,hl,rfl⟩;simp only [bS,bZ,b_,fC,fK,cM,lk,List.lookup,Nat.reduceBEq,BEq.rfl,beq_self_eq_true,if_true,if_false,reduceIte,Nat.reduceEqDiff,Bool.false_eq_true,Option.isSome_some,Option.isSome_none,Nat.reduceAdd,jJ];(repeat (first | refine bu.op af (h:= ?_) | refine bu.dD af (h:= ?_) | refine bu.skip (h:= ?_)));refine bu.nil ?_;have hlen:l.length=L.length:=by rw [hl.length_eq];simp [MM.keys]
 refine SW.seq (SW.vC ?_);(repeat (first | refine bu.op af (h:= ?_) | refine bu.dD af (h:= ?_) | refine bu.skip (h:= ?_)));rw [← hlen];refine bu.uE af (oI 2 l (by omega) 3) (h:= ?_);refine bu.nil ?_;refine SW.seq ?_;refine SW.g0 [0,1,4,5] mixed af ?_;have fc:(Dt.sorted l).length=l.length:=(Dt.sorted_perm l).length_eq;have hse:Dt.sorted l=Dt.sorted (MM.keys L):=Dt.jO ((Dt.sorted_perm l).trans hl) (Dt.f_ l);refine SW.weak id (st1:=⟨[(4,.gs 2 l.length)],[(2,.arr 37 2 l.length (((Dt.sorted l).flatMap Dt.ds).map .d)),(0,.box 174 [.mp 1]),(1,.map (au Dt.cells iv L) c)],3⟩) (aK.same (by simp) (by simp [bp,List.lookup,SV.aC,SV.ok]) (by simp [Hp.ok,Ob.ok,SV.ax,SV.ok,SV.br,bJ]) (by simp [aa])) ?_;refine SW.freeze 2 ((Dt.sorted l).flatMap Dt.ds) rfl rfl ?_;have e1:iZ 2 l.length ((Dt.sorted l).flatMap Dt.ds) [(4,.gs 2 l.length)]=[(4,aW (Dt.sorted (MM.keys L)))]:=by
  rw [← hse];simp only [iZ,List.map_cons,List.map_nil,SV.iw,if_true,aW,fc]
 show Go.Sl.SW _ _ _ _ ⟨iZ 2 l.length ((Dt.sorted l).flatMap Dt.ds) [(4,.gs 2 l.length)],jJ 0 1 L c,3⟩ _;rw [e1];refine SW.ret ?_;exact End.mk (jJ 0 1 L c) (h3:=fun _ _ h=>h) (h4:=⟨rfl,rfl⟩) (h5:=rfl) (h6:=rC _ _ _ _ _ rfl rfl)
theorem vH {L:j3}{c:Nat}(hwf:MM.wf L c)(hL:L.length<1000000000)(k:Nat)(b m:Nat)(KY:b≠m):
  aF Tryz.prog slices_SortedFunc_api_Dot.f [.fn (.func maps_Keys_dot_set_api_Dot_int_1.f) [] [.ptr b 0],.fn (.func dot_Compare.f) [] []] (jJ b m L c) k 0 (aW (Dt.sorted (MM.keys L))) (jJ b m L c):=by
 have h:=SB.pz [b,m] (vG hwf hL) (by simp [KY]) (fun i hi=>uW L c i (by simpa using hi)) k
 simpa [SV.aT,SV.aC,fF,jJ,Hp.aC,Ob.aC,cH] using h
theorem Iv (L:j3)(c:Nat):SB Tryz.prog maps_Keys_dot_set_api_Dot_int.f [.mp 0] [(0,.map (au Dt.cells iv L) c)] 1 1 fun r F=>r= .fn (.func maps_Keys_dot_set_api_Dot_int_1.f) [] [.ptr 1 0]∧F=[(1,.box 174 [.mp 0]),(0,.map (au Dt.cells iv L) c)]:=by
 refine maps_Keys_dot_set_api_Dot_int.enter rfl (by simp [Hp.ok,Ob.ok,bJ]) (by simp) ?_;dsimp only [maps_Keys_dot_set_api_Dot_int.s,Co.M,Co.J,Co.F,Co.x,Co.S];(repeat (first | refine SW.seq ?_ | refine SW.block ?_ | refine SW.g0 [0,1,2] mixed af ?_ | refine SW.skip ?_ | refine SW.exit ?_ | refine SW.ret ?_ | refine SW.aj rfl ?_ | refine SW.ah rfl ?_));exact End.mk [(1,.box 174 [.mp 0]),(0,.map (au Dt.cells iv L) c)] (h4:=⟨rfl,rfl⟩) (h6:=by simp [Hp.ok,Ob.ok,SV.ax,SV.ok,bJ])
theorem Iw (L:j3)(c:Nat)(n k:Nat):aF Tryz.prog maps_Keys_dot_set_api_Dot_int.f [.mp n] [(n,.map (au Dt.cells iv L) c)] k 1 (.fn (.func maps_Keys_dot_set_api_Dot_int_1.f) [] [.ptr k 0]) [(k,.box 174 [.mp n]),(n,.map (au Dt.cells iv L) c)]:=by
 have h:=SB.pz [n] (Iv L c) (by simp) (fun i hi=>by cases i with | zero=>simp [aa] | succ i=>simp at hi) k
 simpa [SV.aT,SV.aC,fF,Hp.aC,Ob.aC,cH] using h
theorem Iy {L:j3}{c:Nat}(hwf:MM.wf L c)(hL:L.length<1000000000):SB Tryz.prog dot_set_list.f [.mp 0] [(0,.map (au Dt.cells iv L) c)] 1 0 fun r F=>r=aW (Dt.sorted (MM.keys L))∧F=[(0,.map (au Dt.cells iv L) c)]:=by
 refine dot_set_list.enter rfl (by simp [Hp.ok,Ob.ok,bJ]) (by simp) ?_;dsimp only [dot_set_list.s,Co.M,Co.J,Co.F,Co.C,Co.P,Co.S];refine SW.seq ?_;refine SW.g0 [0,2] mixed af ?_;refine SW.seq (SW.vC ?_);(repeat (first | refine bu.op af (h:= ?_) | refine bu.dD af (h:= ?_) | refine bu.skip (h:= ?_)));refine bu.uE af (Iw L c 0 1) (h:= ?_);refine bu.uE af (vH hwf hL 2 1 0 (by decide)) (h:= ?_);(repeat (first | refine bu.op af (h:= ?_) | refine bu.dD af (h:= ?_) | refine bu.skip (h:= ?_)));refine bu.nil (SW.ret ?_);exact End.mk [(0,.map (au Dt.cells iv L) c)] (h4:=⟨rfl,rfl⟩) (h6:=by simp [Hp.ok,Ob.ok,SV.ax,SV.ok,bJ])
theorem Iz {L:j3}{c:Nat}(hwf:MM.wf L c)(hL:L.length<1000000000)(n k:Nat):aF Tryz.prog dot_set_list.f [.mp n] [(n,.map (au Dt.cells iv L) c)] k 0 (aW (Dt.sorted (MM.keys L))) [(n,.map (au Dt.cells iv L) c)]:=by
 have h:=SB.pz [n] (Iy hwf hL) (by simp) (fun i hi=>by cases i with | zero=>simp [aa] | succ i=>simp at hi) k
 simpa [SV.aT,SV.aC,fF,Hp.aC,Ob.aC,cH] using h
end
section
attribute [local irreducible] SW RW aF SC ai aq
theorem rD {α:Type}{motive:List α→Prop}(nil:motive [])(snoc:∀ l x,motive l→motive (l++[x]))(l:List α):motive l:=by
 have key:∀ r:List α,motive r.reverse:=fun r=>by
  induction r with
  | nil=>exact nil
  | cons x r ih=>rw [List.reverse_cons];exact snoc _ _ ih
 simpa using key l.reverse
theorem xU (l:List Dt):MM.wf (oG l).1 (oG l).2:=by
 induction l using rD with
 | nil=>exact MM.kR
 | snoc l d ih=>rw [pN];exact MM.jy ih d 1
theorem FM (l:List Dt)(d:Dt):MM.has (oG l).1 d=decide (d∈l):=by
 induction l using rD with
 | nil=>rfl
 | snoc l x ih=>rw [pN,MM.Br,ih,Bool.eq_iff_iff];simp [or_comm]
theorem zm (l:List Dt):(oG l).1.length≤l.length:=by
 induction l using rD with
 | nil=>exact Nat.le_refl _
 | snoc l x ih=>
  rw [pN];have:=congrArg List.length (MM.qX (L:=(oG l).1) (c:=(oG l).2) (a:=x) (v:=1));simp only [MM.keys,List.length_map] at this;rw [this]
  split <;> simp <;> omega
def Dt.set (l:List Dt):List Dt:=Dt.sorted (MM.keys (oG l).1)
def Dt.rE (l:List Dt):Prop:=l.Pairwise fun a b=>Dt.cmp a b<0
theorem Dt.jh {l m:List Dt}(h1:Dt.rE l)(h2:Dt.rE m)(h:∀ d,d∈l↔d∈m):l=m:=by
 have nd:∀ {l:List Dt},Dt.rE l→l.Nodup:=fun h=>h.imp fun {a b} hab e=>by
  subst e;rw [(Dt.zl a a).2 rfl] at hab;omega
 refine List.Perm.eq_of_pairwise (le:=fun a b=>Dt.cmp a b<0) (fun a b _ _ h1 h2=> ?_) h1 h2 ((List.perm_ext_iff_of_nodup (nd h1) (nd h2)).2 h);rw [Dt.zk] at h1;omega
theorem Dt.rF {l:List Dt}(h:l.Nodup):Dt.rE (Dt.sorted l):=by
 have h1:=Dt.f_ l;have h2:(Dt.sorted l).Nodup:=(Dt.sorted_perm l).nodup_iff.2 h;unfold Dt.rE;have:=h1.and h2;refine this.imp fun {a b} hab=> ?_
 obtain ⟨e1,e2⟩:=hab;rw [Dt.le_iff] at e1;rw [Dt.AS];obtain ⟨a1,a2⟩:=a;obtain ⟨b1,b2⟩:=b;simp only [ne_eq,Dt.mk.injEq] at*;omega
theorem Dt.jK (l:List Dt):Dt.rE (Dt.set l):=Dt.rF (xU l).keys
theorem Dt.mem_set {l:List Dt}{d:Dt}:d∈Dt.set l↔d∈l:=by
 unfold Dt.set;rw [(Dt.sorted_perm _).mem_iff,← MM.iz,FM];simp
theorem FN (l:List Dt)(hl:l.length<4611686018427387904)(k:Nat):aF Tryz.prog dot_setOf.f [aW l] [] k 1 (.mp k) [(k,.map (au Dt.cells iv (oG l).1) (oG l).2)]:=by
 have h:=SB.new (FI l hl) k
 simpa [SV.aC,AP,Hp.aC,Ob.aC,cH,fF] using h
theorem IA (l:List Dt)(hl:l.length<1000000000):Go.Sl.Pure Tryz.prog dot_Sort.f [aW l] (aW (Dt.set l)):=by
 refine dot_Sort.enter (by first | rfl | simp [SV.ok,SV.ax]) (by first | rfl | simp [Hp.ok,Ob.ok,SV.ok,SV.ax,aB.ak]) (by simp) ?_;dsimp only [dot_Sort.s,Co.M,Co.J,Co.F,Co.P,Co.S];refine SW.seq ?_;refine SW.g0 [0,2] mixed af ?_;refine SW.seq (SW.vC ?_);(repeat (first | refine bu.op af (h:= ?_) | refine bu.dD af (h:= ?_) | refine bu.skip (h:= ?_)));refine bu.uE af (FN l (by omega) 0) (h:= ?_);refine bu.uE af (Iz (xU l) (Nat.lt_of_le_of_lt (zm l) hl) 0 1) (h:= ?_);(repeat (first | refine bu.op af (h:= ?_) | refine bu.dD af (h:= ?_) | refine bu.skip (h:= ?_)));refine bu.nil (SW.ret ?_);exact End.mk [] (h4:=⟨rfl,rfl⟩)
theorem BQ (l:List Dt)(hl:l.length<1000000000)(k:Nat):aF Tryz.prog dot_Sort.f [aW l] [] k 0 (aW (Dt.set l)) []:=(IA l hl).sc rfl k
def leftOf (L:j3)(p:Dt→Bool)(xs:j3):j3:=L.filter fun x=> !(decide (x∈xs) && p x.2.1)
end
end Go.Proofs.YtaelhkkjgfobhaaGreat
namespace Go.Proofs.YtaelhkkjgfobhaaGreat
open Go.Sl Go.Proofs
attribute [local irreducible] SW RW aF SC ai aq
theorem xV (a b:Dt)(ha:a.wf)(hb:b.wf):Go.Sl.Pure Tryz.prog ref03_Compare.f [.agg a.cells,.agg b.cells] (i64 (dJ ((a.r:Int)*8589934592+a.n) ((b.r:Int)*8589934592+b.n))):=by
 obtain ⟨a1,a2⟩:=ha;obtain ⟨b1,b2⟩:=hb;refine ref03_Compare.enter (by first | rfl | simp [SV.ok,SV.ax]) (by first | rfl | simp [Hp.ok,Ob.ok,SV.ok,SV.ax,aB.ak]) (by simp) ?_;dsimp only [ref03_Compare.s,Co.M,Co.J,Co.F,Co.Z,Co.T,Co.x,Co.Y,Co.V,Co.D,Co.S];generalize hx:(a.r:Int)*8589934592+a.n=x;generalize hy:(b.r:Int)*8589934592+b.n=y;rcases Int.lt_trichotomy x y with h | h | h
 ·have e1:decide (x<y)=true:=by simp [h]
  have e2:dJ x y= -1:=by simp [dJ,h]
  (repeat (first | refine SW.seq ?_ | refine SW.block ?_ | refine SW.g0 [0,1,2,3,4,5,6,25,28] mixed (And.intro (hx) (And.intro (hy) (e1))) ?_ | refine SW.skip ?_ | refine SW.exit ?_ | refine SW.ret ?_ | refine SW.aj rfl ?_ | refine SW.ah rfl ?_));exact End.mk [] (h4:=⟨by rw [e2];rfl,rfl⟩)
 ·have e1:decide (x<y)=false:=by simp [h]
  have e3:decide (x>y)=false:=by simp [h]
  have e2:dJ x y=0:=by simp [dJ,h]
  (repeat (first | refine SW.seq ?_ | refine SW.block ?_ | refine SW.g0 [0,1,2,3,4,5,6,25,28] mixed (And.intro (hx) (And.intro (hy) (And.intro (e1) (e3)))) ?_ | refine SW.skip ?_ | refine SW.exit ?_ | refine SW.ret ?_ | refine SW.aj rfl ?_ | refine SW.ah rfl ?_));exact End.mk [] (h4:=⟨by rw [e2];rfl,rfl⟩)
 ·have e1:decide (x<y)=false:=by simp;omega
  have e3:decide (x>y)=true:=by simp [h]
  have e2:dJ x y=1:=by unfold dJ;rw [if_neg (by omega),if_pos h]
  (repeat (first | refine SW.seq ?_ | refine SW.block ?_ | refine SW.g0 [0,1,2,3,4,5,6,25,28] mixed (And.intro (hx) (And.intro (hy) (And.intro (e1) (e3)))) ?_ | refine SW.skip ?_ | refine SW.exit ?_ | refine SW.ret ?_ | refine SW.aj rfl ?_ | refine SW.ah rfl ?_));exact End.mk [] (h4:=⟨by rw [e2];rfl,rfl⟩)
theorem Dt.K4 (a b:Dt)(ha:a.wf)(hb:b.wf):dJ ((a.r:Int)*8589934592+a.n) ((b.r:Int)*8589934592+b.n)=Dt.cmp a b:=by
 obtain ⟨a1,a2⟩:=ha;obtain ⟨b1,b2⟩:=hb;unfold Dt.cmp dJ
 repeat' split
 all_goals omega
theorem dx (a b:Dt)(ha:a.wf)(hb:b.wf)(k:Nat):aF Tryz.prog ref03_Compare.f [.agg a.cells,.agg b.cells] [] k 0 (.d (.int .i64 (Dt.cmp a b))) []:=by
 have:=(xV a b ha hb).sc rfl k
 rwa [Dt.K4 a b ha hb] at this
end Go.Proofs.YtaelhkkjgfobhaaGreat
namespace Go.Proofs.YtaelhkkjgfobhaaGreat
open Go.Sl Go.Proofs Go.Sort
section
attribute [local irreducible] SW RW aF SC ai aq
theorem K5 (l:List Dt)(d:Dt)(hl:l.length<1000000000):Go.Sl.Pure Tryz.prog ref03_In.f [aW l,.agg d.cells] (bl (decide (d∈l))):=by
 refine ref03_In.enter (by first | rfl | simp [SV.ok,SV.ax]) (by first | rfl | simp [Hp.ok,Ob.ok,SV.ok,SV.ax,aB.ak]) (by simp) ?_;dsimp only [ref03_In.s,Co.M,Co.J,Co.F,Co.Z,Co.B,Co.K,Co.L,Co.x,Co.Y,Co.V,Co.I,Co.S];(repeat (first | refine SW.seq ?_ | refine SW.block ?_ | refine SW.g0 [0,1,3,4,5,9,17] mixed af ?_ | refine SW.skip ?_ | refine SW.exit ?_ | refine SW.ret ?_ | refine SW.aj rfl ?_ | refine SW.ah rfl ?_));refine SW.gY (α:={i:Nat // i≤l.length∧∀ j x,j<i→l[j]? =some x→x≠d}) (fun i=>⟨[(5,i64 i.1),(0,aW l),(3,.ptr 0 0)],[(0,.box 37 d.cells)],1⟩) (fun i=>l.length - i.1) ⟨0,by omega,by omega⟩ id af (round:= ?_);rintro ⟨i,hi,hs⟩
 by_cases h:i<l.length
 ·obtain ⟨x,hx⟩:=aZ h
  have h1:decide ((i:Int)<l.length)=true:=by simp;exact h
  by_cases hd:x=d
  ·have h2:decide (x=d)=true:=by simp [hd]
   (repeat (first | refine SW.seq ?_ | refine SW.block ?_ | refine SW.g0 [0,1,3,4,5,9,17] mixed (And.intro (h1) (And.intro (bW hx) (h2))) ?_ | refine SW.skip ?_ | refine SW.exit ?_ | refine SW.ret ?_ | refine SW.aj rfl ?_ | refine SW.ah rfl ?_));have:d∈l:=by rw [← hd];exact List.mem_of_getElem? hx
   exact End.mk [] (h4:=⟨by simp [this,eH,bl],rfl⟩)
  ·have h2:decide (x=d)=false:=by simp [hd]
   (repeat (first | refine SW.seq ?_ | refine SW.block ?_ | refine SW.g0 [0,1,3,4,5,9,17] mixed (And.intro (h1) (And.intro (bW hx) (h2))) ?_ | refine SW.skip ?_ | refine SW.exit ?_ | refine SW.ret ?_ | refine SW.aj rfl ?_ | refine SW.ah rfl ?_));exact ⟨⟨i+1,by omega,fun j y hj hy=>by
    by_cases e:j=i
    ·subst e;rw [hx] at hy;injection hy with hy;subst hy;exact hd
    ·exact hs j y (by omega) hy⟩,id,by simp;omega,aK.mk af⟩
 ·have h1:decide ((i:Int)<l.length)=false:=by simp;omega
  have h2:i=l.length:=by omega
  subst h2;(repeat (first | refine SW.seq ?_ | refine SW.block ?_ | refine SW.g0 [0,1,3,4,5,9,17] mixed (h1) ?_ | refine SW.skip ?_ | refine SW.exit ?_ | refine SW.ret ?_ | refine SW.aj rfl ?_ | refine SW.ah rfl ?_));have:d∉l:=fun hm=>by
   obtain ⟨j,hj⟩:=List.mem_iff_getElem?.1 hm;exact hs j d (iV hj) hj rfl
  exact End.mk [] (h4:=⟨by simp [this,eH,bl],rfl⟩)
theorem h_ (l:List Dt)(d:Dt)(hl:l.length<1000000000)(k:Nat):aF Tryz.prog ref03_In.f [aW l,.agg d.cells] [] k 0 (.d (.bool (decide (d∈l)))) []:=(K5 l d hl).sc rfl k
def Dt.ins (l:List Dt)(d:Dt):List Dt:=if d∈l then l else l.takeWhile (fun x=>decide (Dt.cmp x d<0))++d::l.dropWhile (fun x=>decide (Dt.cmp x d<0))
end
section
attribute [local irreducible] SW RW aF SC ai aq
def ahead (d:Dt)(x:Dt):Bool:=decide (Dt.cmp x d<0)
theorem lu {α:Type}(p:α→Bool):∀ (l:List α) (i:Nat),(∀ j x,j<i→l[j]? =some x→p x=true)→(∀ x,l[i]? =some x→p x=false)→i≤l.length→l.takeWhile p=l.take i∧l.dropWhile p=l.drop i
 | [],i,_,_,h=>by
   have:i=0:=by simpa using h
   subst this;exact ⟨rfl,rfl⟩
 | x::l,0,_,h,_=>by
  have:=h x rfl;simp [this]
 | x::l,i+1,h1,h2,h3=>by
  have hx:=h1 0 x (by omega) rfl;obtain ⟨a,b⟩:=lu p l i (fun j y hj hy=>h1 (j+1) y (by omega) hy) (fun y hy=>h2 y hy) (by simpa using h3);simp [hx,a,b]
theorem wM:∀ (l:List Dt) (i:Nat),(l.flatMap Dt.ds).drop (i*2)=(l.drop i).flatMap Dt.ds
 | [],i=>by simp
 | x::l,0=>by simp
 | x::l,i+1=>by
  have:=wM l i;rw [List.drop_succ_cons,← this,List.flatMap_cons,List.drop_append];rw [show (i+1)*2 - x.ds.length=i*2 by rw [Dt.jx];omega,List.drop_of_length_le (by rw [Dt.jx];omega)];rfl
theorem wN (l:List Dt)(i:Nat):((l.flatMap Dt.ds).drop (i*2)).take ((l.length - i)*2)=(l.drop i).flatMap Dt.ds:=by
 rw [wM,List.take_of_length_le];rw [kO];simp
set_option maxHeartbeats 1000000 in
theorem IB (l:List Dt)(d:Dt)(hl:l.length<100000000)(N3:∀ x,x∈l→x.wf)(OJ:d.wf):Go.Sl.Pure Tryz.prog ref03_with.f [aW l,.agg d.cells] (aW (Dt.ins l d)):=by
 have hl':l.length<1000000000:=by omega
 refine ref03_with.enter (by first | rfl | simp [SV.ok,SV.ax]) (by first | rfl | simp [Hp.ok,Ob.ok,SV.ok,SV.ax,aB.ak]) (by simp) ?_;dsimp only [ref03_with.s,Co.M,Co.G,Co.J,Co.H,Co.F,Co.C,Co.Z,Co.b8,Co.av,Co.K,Co.L,Co.Q,Co.x,Co.Y,Co.V,Co.U,Co.I,Co.S]
 by_cases hm:d∈l
 ·have h1:decide (d∈l)=true:=by simp [hm]
  (repeat (first | refine SW.seq ?_ | refine SW.block ?_ | (refine SW.bT [0,1,3,4,5,6,9,23] mixed ?_;(repeat (first | refine RW.ro (h1) (h:= ?_) | refine RW.skip (h:= ?_) | refine RW.op (h1) (h:= ?_) | refine RW.dD (h1) (h:= ?_) | refine RW.aY (h:= ?_) | (refine RW.aM (h:= ?_);(first | refine ai.mk (h1) (hc:=h_ _ _ (by first | assumption | omega) _) (h:= ?_) | refine ai.mk (h1) (hc:=dx _ _ (by first | assumption | omega) (by first | assumption | omega) _) (h:= ?_)))));refine RW.nil ⟨by kernel_rfl,aq.mk (h:= ?_)⟩) | refine SW.skip ?_ | refine SW.exit ?_ | refine SW.ret ?_ | refine SW.aj rfl ?_ | refine SW.ah rfl ?_));exact End.mk [] (h4:=⟨by simp [Dt.ins,hm,eH],rfl⟩)
 ·have h1:decide (d∈l)=false:=by simp [hm]
  refine SW.seq ?_
  (refine SW.bT [0,1,3,4,5,6,9,23] mixed ?_;(repeat (first | refine RW.ro af (h:= ?_) | refine RW.skip (h:= ?_) | refine RW.op af (h:= ?_) | refine RW.dD af (h:= ?_) | refine RW.aY (h:= ?_) | (refine RW.aM (h:= ?_);(first | refine ai.mk af (hc:=h_ _ _ (by first | assumption | omega) _) (h:= ?_) | refine ai.mk af (hc:=dx _ _ (by first | assumption | omega) (by first | assumption | omega) _) (h:= ?_)))));refine RW.nil ⟨by kernel_rfl,aq.mk (h:= ?_)⟩)
  refine SW.seq (SW.seq ?_)
  (refine SW.bT [0,1,3,4,5,6,9,23] mixed ?_;(repeat (first | refine RW.ro (h1) (h:= ?_) | refine RW.skip (h:= ?_) | refine RW.op (h1) (h:= ?_) | refine RW.dD (h1) (h:= ?_) | refine RW.aY (h:= ?_) | (refine RW.aM (h:= ?_);(first | refine ai.mk (h1) (hc:=h_ _ _ (by first | assumption | omega) _) (h:= ?_) | refine ai.mk (h1) (hc:=dx _ _ (by first | assumption | omega) (by first | assumption | omega) _) (h:= ?_)))));refine RW.nil ⟨by kernel_rfl,aq.mk (h:= ?_)⟩)
  refine SW.ah rfl (SW.skip ?_);refine SW.seq ?_
  (refine SW.bT [0,1,3,4,5,6,9,23] mixed ?_;(repeat (first | refine RW.ro af (h:= ?_) | refine RW.skip (h:= ?_) | refine RW.op af (h:= ?_) | refine RW.dD af (h:= ?_) | refine RW.aY (h:= ?_) | (refine RW.aM (h:= ?_);(first | refine ai.mk af (hc:=h_ _ _ (by first | assumption | omega) _) (h:= ?_) | refine ai.mk af (hc:=dx _ _ (by first | assumption | omega) (by first | assumption | omega) _) (h:= ?_)))));refine RW.nil ⟨by kernel_rfl,aq.mk (h:= ?_)⟩)
  refine SW.jb 5 37 2 rfl ?_;refine SW.seq ?_
  (refine SW.bT [0,1,3,4,5,6,9,23] mixed ?_;(repeat (first | refine RW.ro af (h:= ?_) | refine RW.skip (h:= ?_) | refine RW.op af (h:= ?_) | refine RW.dD af (h:= ?_) | refine RW.aY (h:= ?_) | (refine RW.aM (h:= ?_);(first | refine ai.mk af (hc:=h_ _ _ (by first | assumption | omega) _) (h:= ?_) | refine ai.mk af (hc:=dx _ _ (by first | assumption | omega) (by first | assumption | omega) _) (h:= ?_)))));refine RW.nil ⟨by kernel_rfl,aq.mk (h:= ?_)⟩)
  refine SW.seq (SW.block ?_);refine SW.gY (α:={i:Nat // i≤l.length∧∀ j x,j<i→l[j]? =some x→ahead d x=true}) (fun i=>⟨[(6,i64 i.1),(0,aW l),(3,.ptr 0 0),(5,.gs 1 i.1)],[(1,.arr 37 2 i.1 (((l.take i.1).flatMap Dt.ds).map .d)),(0,.box 37 d.cells)],2⟩) (fun i=>l.length - i.1) ⟨0,by omega,by omega⟩ id af (round:= ?_);rintro ⟨i,hi,hs⟩;have e0:(i:Int).toNat=i:=Int.toNat_natCast i
  by_cases h:i<l.length
  ·obtain ⟨x,hx⟩:=aZ h
   have hwx:x.wf:=N3 x (List.mem_of_getElem? hx);have h1:decide ((i:Int)<l.length)=true:=by simp;exact h
   by_cases hc:Dt.cmp x d<0
   ·have h2:decide (Dt.cmp x d<0)=true:=by simp [hc]
    (repeat (first | refine SW.seq ?_ | refine SW.block ?_ | (have fx:=(And.intro (h1) (And.intro (bW hx) (h2)));refine SW.bT [0,1,3,4,5,6,9,23] mixed ?_;(repeat (first | refine RW.ro fx (h:= ?_) | refine RW.skip (h:= ?_) | refine RW.op fx (h:= ?_) | refine RW.dD fx (h:= ?_) | refine RW.aY (h:= ?_) | (refine RW.aM (h:= ?_);(first | refine ai.mk fx (hc:=h_ _ _ (by first | assumption | omega) _) (h:= ?_) | refine ai.mk fx (hc:=dx _ _ (by first | assumption | omega) (by first | assumption | omega) _) (h:= ?_)))));refine RW.nil ⟨by kernel_rfl,aq.mk (h:= ?_)⟩) | refine SW.skip ?_ | refine SW.exit ?_ | refine SW.ret ?_ | refine SW.aj rfl ?_ | refine SW.ah rfl ?_));have e1:l.take (i+1)=l.take i++[x]:=bH hx;refine ⟨⟨i+1,by omega,fun j y hj hy=> ?_⟩,fun n=>if n=1 then 2 else n,by simp;omega,aK.mk (And.intro e1 (Dt.lX x))⟩
    by_cases e:j=i
    ·subst e;rw [hx] at hy;injection hy with hy;subst hy;exact h2
    ·exact hs j y (by omega) hy
   ·have h2:decide (Dt.cmp x d<0)=false:=by simp [hc]
    refine SW.seq (SW.seq ?_)
    (have fx:=(And.intro (h1) (And.intro (bW hx) (h2)));refine SW.bT [0,1,3,4,5,6,9,23] mixed ?_;(repeat (first | refine RW.ro fx (h:= ?_) | refine RW.skip (h:= ?_) | refine RW.op fx (h:= ?_) | refine RW.dD fx (h:= ?_) | refine RW.aY (h:= ?_) | (refine RW.aM (h:= ?_);(first | refine ai.mk fx (hc:=h_ _ _ (by first | assumption | omega) _) (h:= ?_) | refine ai.mk fx (hc:=dx _ _ (by first | assumption | omega) (by first | assumption | omega) _) (h:= ?_)))));refine RW.nil ⟨by kernel_rfl,aq.mk (h:= ?_)⟩)
    refine SW.ah rfl (SW.exit ?_);refine SW.seq ?_
    (refine SW.bT [0,1,3,4,5,6,9,23] mixed ?_;(repeat (first | refine RW.ro (e0) (h:= ?_) | refine RW.skip (h:= ?_) | refine RW.op (e0) (h:= ?_) | refine RW.dD (e0) (h:= ?_) | refine RW.aY (h:= ?_) | (refine RW.aM (h:= ?_);(first | refine ai.mk (e0) (hc:=h_ _ _ (by first | assumption | omega) _) (h:= ?_) | refine ai.mk (e0) (hc:=dx _ _ (by first | assumption | omega) (by first | assumption | omega) _) (h:= ?_)))));refine RW.nil ⟨by kernel_rfl,aq.mk (h:= ?_)⟩)
    refine SW.seq ?_
    (refine SW.bT [0,1,3,4,5,6,9,23] mixed ?_;(repeat (first | refine RW.ro (e0) (h:= ?_) | refine RW.skip (h:= ?_) | refine RW.op (e0) (h:= ?_) | refine RW.dD (e0) (h:= ?_) | refine RW.aY (h:= ?_) | (refine RW.aM (h:= ?_);(first | refine ai.mk (e0) (hc:=h_ _ _ (by first | assumption | omega) _) (h:= ?_) | refine ai.mk (e0) (hc:=dx _ _ (by first | assumption | omega) (by first | assumption | omega) _) (h:= ?_)))));refine RW.nil ⟨by kernel_rfl,aq.mk (h:= ?_)⟩)
    have hins:Dt.ins l d=l.take i++d::l.drop i:=by
     have:=lu (ahead d) l i hs (fun y hy=>by rw [hx] at hy;injection hy with hy;subst hy;exact h2) hi;unfold Dt.ins ahead at*;rw [if_neg hm,this.1,this.2]
    have hlen:(Dt.ins l d).length=i+1+(l.length - i):=by rw [hins];simp;omega
    refine SW.freeze 3 ((Dt.ins l d).flatMap Dt.ds) rfl (by rw [wN,hins];simp) ?_;simp only [iZ,SV.iw,List.map_cons,List.map_nil,if_true,if_false,reduceIte,cM,Nat.reduceEqDiff,← hlen];refine SW.ret ?_;exact End.mk [] (h4:=⟨rfl,rfl⟩)
  ·have h1:decide ((i:Int)<l.length)=false:=by simp;omega
   have h2:i=l.length:=by omega
   refine SW.seq (SW.seq ?_)
   (refine SW.bT [0,1,3,4,5,6,9,23] mixed ?_;(repeat (first | refine RW.ro (h1) (h:= ?_) | refine RW.skip (h:= ?_) | refine RW.op (h1) (h:= ?_) | refine RW.dD (h1) (h:= ?_) | refine RW.aY (h:= ?_) | (refine RW.aM (h:= ?_);(first | refine ai.mk (h1) (hc:=h_ _ _ (by first | assumption | omega) _) (h:= ?_) | refine ai.mk (h1) (hc:=dx _ _ (by first | assumption | omega) (by first | assumption | omega) _) (h:= ?_)))));refine RW.nil ⟨by kernel_rfl,aq.mk (h:= ?_)⟩)
   refine SW.ah rfl (SW.exit ?_);refine SW.seq ?_
   (refine SW.bT [0,1,3,4,5,6,9,23] mixed ?_;(repeat (first | refine RW.ro (e0) (h:= ?_) | refine RW.skip (h:= ?_) | refine RW.op (e0) (h:= ?_) | refine RW.dD (e0) (h:= ?_) | refine RW.aY (h:= ?_) | (refine RW.aM (h:= ?_);(first | refine ai.mk (e0) (hc:=h_ _ _ (by first | assumption | omega) _) (h:= ?_) | refine ai.mk (e0) (hc:=dx _ _ (by first | assumption | omega) (by first | assumption | omega) _) (h:= ?_)))));refine RW.nil ⟨by kernel_rfl,aq.mk (h:= ?_)⟩)
   refine SW.seq ?_
   (refine SW.bT [0,1,3,4,5,6,9,23] mixed ?_;(repeat (first | refine RW.ro (e0) (h:= ?_) | refine RW.skip (h:= ?_) | refine RW.op (e0) (h:= ?_) | refine RW.dD (e0) (h:= ?_) | refine RW.aY (h:= ?_) | (refine RW.aM (h:= ?_);(first | refine ai.mk (e0) (hc:=h_ _ _ (by first | assumption | omega) _) (h:= ?_) | refine ai.mk (e0) (hc:=dx _ _ (by first | assumption | omega) (by first | assumption | omega) _) (h:= ?_)))));refine RW.nil ⟨by kernel_rfl,aq.mk (h:= ?_)⟩)
   have hins:Dt.ins l d=l.take i++d::l.drop i:=by
    have:=lu (ahead d) l i hs (fun y hy=>by rw [List.getElem?_eq_none (by omega)] at hy;cases hy) hi;unfold Dt.ins ahead at*;rw [if_neg hm,this.1,this.2]
   have hlen:(Dt.ins l d).length=i+1+(l.length - i):=by rw [hins];simp;omega
   refine SW.freeze 3 ((Dt.ins l d).flatMap Dt.ds) rfl (by rw [wN,hins];simp) ?_;simp only [iZ,SV.iw,List.map_cons,List.map_nil,if_true,if_false,reduceIte,cM,Nat.reduceEqDiff,← hlen];refine SW.ret ?_;exact End.mk [] (h4:=⟨rfl,rfl⟩)
theorem rG (l:List Dt)(d:Dt)(hl:l.length<100000000)(N3:∀ x,x∈l→x.wf)(OJ:d.wf)(k:Nat):aF Tryz.prog ref03_with.f [aW l,.agg d.cells] [] k 0 (aW (Dt.ins l d)) []:=(IB l d hl N3 OJ).sc rfl k
theorem Dt.IC {l:List Dt}{d x:Dt}:x∈Dt.ins l d↔x∈l∨x=d:=by
 unfold Dt.ins
 split
 ·rename_i h
  refine ⟨.inl,fun h'=> ?_⟩;rcases h' with h' | rfl
  ·exact h'
  ·exact h
 ·have:=List.takeWhile_append_dropWhile (p:=fun x=>decide (Dt.cmp x d<0)) (l:=l)
  have h2:x∈l↔x∈l.takeWhile (fun x=>decide (Dt.cmp x d<0))∨x∈l.dropWhile (fun x=>decide (Dt.cmp x d<0)):=by
   rw [← List.mem_append,this]
  rw [h2,List.mem_append,List.mem_cons];constructor
  ·rintro (h | h | h)
   ·exact .inl (.inl h)
   ·exact .inr h
   ·exact .inl (.inr h)
  ·rintro ((h | h) | h)
   ·exact .inl h
   ·exact .inr (.inr h)
   ·exact .inr (.inl h)
theorem Dt.CI {l:List Dt}(h:Dt.rE l)(d:Dt):Dt.rE (Dt.ins l d):=by
 unfold Dt.ins
 split
 ·exact h
 ·rename_i hd
  induction l with
  | nil=>simp [Dt.rE]
  | cons x l ih=>
   have h1:=List.pairwise_cons.1 h
   by_cases hx:Dt.cmp x d<0
   ·simp only [List.takeWhile_cons,List.dropWhile_cons,hx,decide_true,if_true,List.cons_append]
    refine List.pairwise_cons.2 ⟨fun y hy=> ?_,ih h1.2 fun hm=>hd (List.mem_cons_of_mem _ hm)⟩;rcases List.mem_append.1 hy with hy | hy
    ·exact h1.1 y ((List.takeWhile_sublist _).subset hy)
    ·rcases List.mem_cons.1 hy with rfl | hy
     ·exact hx
     ·exact h1.1 y ((List.dropWhile_sublist _).subset hy)
   ·simp only [List.takeWhile_cons,List.dropWhile_cons,hx,decide_false,Bool.false_eq_true,if_false,List.nil_append]
    have hlt:Dt.cmp d x<0:=by
     have e:=Dt.zk d x;have:Dt.cmp x d≠0:=fun e=>hd (by rw [(Dt.zl x d).1 e];simp)
     omega
    refine List.pairwise_cons.2 ⟨fun y hy=> ?_,h⟩;rcases List.mem_cons.1 hy with rfl | hy
    ·exact hlt
    ·have:=h1.1 y hy
     rw [Dt.AS] at*;omega
def Dt.vI (l:List Dt):List Dt:=l.foldl Dt.ins []
theorem Dt.sK (l:List Dt)(d:Dt):Dt.vI (l++[d])=Dt.ins (Dt.vI l) d:=by simp [Dt.vI,List.foldl_append]
theorem Dt.rH (l:List Dt):Dt.vI l=Dt.set l:=by
 refine Dt.jh ?_ (Dt.jK l) fun d=> ?_
 ·induction l using rD with
  | nil=>exact List.Pairwise.nil
  | snoc l d ih=>rw [Dt.sK];exact Dt.CI ih d
 ·rw [Dt.mem_set]
  induction l using rD with
  | nil=>simp [Dt.vI]
  | snoc l x ih=>rw [Dt.sK,Dt.IC,ih];simp
theorem Dt.FO (l:List Dt):(Dt.vI l).length≤l.length:=by
 rw [Dt.rH];unfold Dt.set;rw [(Dt.sorted_perm _).length_eq];simp only [MM.keys,List.length_map];exact zm l
theorem FP (l:List Dt)(hl:l.length<100000000)(hw:∀ x,x∈l→x.wf):Go.Sl.Pure Tryz.prog ref03_Sort.f [aW l] (aW (Dt.set l)):=by
 refine ref03_Sort.enter (by first | rfl | simp [SV.ok,SV.ax]) (by first | rfl | simp [Hp.ok,Ob.ok,SV.ok,SV.ax,aB.ak]) (by simp) ?_;dsimp only [ref03_Sort.s,Co.M,Co.J,Co.F,Co.Z,Co.K,Co.L,Co.Q,Co.Y,Co.V,Co.I,Co.S];refine SW.seq ?_
 (refine SW.bT [0,2,3,4,8] mixed ?_;(repeat (first | refine RW.ro af (h:= ?_) | refine RW.skip (h:= ?_) | refine RW.op af (h:= ?_) | refine RW.dD af (h:= ?_) | refine RW.aY (h:= ?_) | (refine RW.aM (h:= ?_);(first | refine ai.mk af (hc:=rG _ _ (by first | assumption | omega) (by first | assumption | omega) (by first | assumption | omega) _) (h:= ?_)))));refine RW.nil ⟨by kernel_rfl,aq.mk (h:= ?_)⟩)
 refine SW.seq ?_
 (refine SW.bT [0,2,3,4,8] mixed ?_;(repeat (first | refine RW.ro af (h:= ?_) | refine RW.skip (h:= ?_) | refine RW.op af (h:= ?_) | refine RW.dD af (h:= ?_) | refine RW.aY (h:= ?_) | (refine RW.aM (h:= ?_);(first | refine ai.mk af (hc:=rG _ _ (by first | assumption | omega) (by first | assumption | omega) (by first | assumption | omega) _) (h:= ?_)))));refine RW.nil ⟨by kernel_rfl,aq.mk (h:= ?_)⟩)
 refine SW.aJ 3 rfl ?_;refine SW.seq (SW.seq ?_)
 (refine SW.bT [0,2,3,4,8] mixed ?_;(repeat (first | refine RW.ro af (h:= ?_) | refine RW.skip (h:= ?_) | refine RW.op af (h:= ?_) | refine RW.dD af (h:= ?_) | refine RW.aY (h:= ?_) | (refine RW.aM (h:= ?_);(first | refine ai.mk af (hc:=rG _ _ (by first | assumption | omega) (by first | assumption | omega) (by first | assumption | omega) _) (h:= ?_)))));refine RW.nil ⟨by kernel_rfl,aq.mk (h:= ?_)⟩)
 refine SW.block ?_;refine SW.gY (α:={i:Nat // i≤l.length}) (fun i=>⟨[(4,i64 i.1),(0,aW l),(3,aW (Dt.vI (l.take i.1)))],[],0⟩) (fun i=>l.length - i.1) ⟨0,by omega⟩ id (And.intro (show Dt.vI []=[] from rfl) af) (round:= ?_);rintro ⟨i,hi⟩;have hlen:(Dt.vI (l.take i)).length<100000000:=by
  have:=Dt.FO (l.take i);have h2:(l.take i).length≤l.length:=by rw [List.length_take];omega
  omega
 have hwi:∀ x,x∈Dt.vI (l.take i)→x.wf:=fun x hx=>by
  rw [Dt.rH,Dt.mem_set] at hx;exact hw x (List.mem_of_mem_take hx)
 by_cases h:i<l.length
 ·obtain ⟨x,hx⟩:=aZ h
  have hwx:x.wf:=hw x (List.mem_of_getElem? hx);have h1:decide ((i:Int)<l.length)=true:=by simp;exact h
  have e1:l.take (i+1)=l.take i++[x]:=bH hx;(repeat (first | refine SW.seq ?_ | refine SW.block ?_ | (have fx:=(And.intro (h1) (bW hx));refine SW.bT [0,2,3,4,8] mixed ?_;(repeat (first | refine RW.ro fx (h:= ?_) | refine RW.skip (h:= ?_) | refine RW.op fx (h:= ?_) | refine RW.dD fx (h:= ?_) | refine RW.aY (h:= ?_) | (refine RW.aM (h:= ?_);(first | refine ai.mk fx (hc:=rG _ _ (by first | assumption | omega) (by first | assumption | omega) (by first | assumption | omega) _) (h:= ?_)))));refine RW.nil ⟨by kernel_rfl,aq.mk (h:= ?_)⟩) | refine SW.skip ?_ | refine SW.exit ?_ | refine SW.ret ?_ | refine SW.aj rfl ?_ | refine SW.ah rfl ?_));exact ⟨⟨i+1,by omega⟩,id,by simp;omega,aK.mk (And.intro e1 (And.intro (Dt.sK (l.take i) x) af))⟩
 ·have h1:decide ((i:Int)<l.length)=false:=by simp;omega
  have h2:i=l.length:=by omega
  subst h2;simp only [List.take_length,Dt.rH];(repeat (first | refine SW.seq ?_ | refine SW.block ?_ | (refine SW.bT [0,2,3,4,8] mixed ?_;(repeat (first | refine RW.ro (h1) (h:= ?_) | refine RW.skip (h:= ?_) | refine RW.op (h1) (h:= ?_) | refine RW.dD (h1) (h:= ?_) | refine RW.aY (h:= ?_) | (refine RW.aM (h:= ?_);(first | refine ai.mk (h1) (hc:=rG _ _ (by first | assumption | omega) (by first | assumption | omega) (by first | assumption | omega) _) (h:= ?_)))));refine RW.nil ⟨by kernel_rfl,aq.mk (h:= ?_)⟩) | refine SW.skip ?_ | refine SW.exit ?_ | refine SW.ret ?_ | refine SW.aj rfl ?_ | refine SW.ah rfl ?_));exact End.mk [] (h4:=⟨rfl,rfl⟩)
end
section
attribute [local irreducible] SW RW aF SC ai aq
theorem uX (l:List Dt)(hl:l.length<100000000)(hw:∀ x,x∈l→x.wf)(k:Nat):aF Tryz.prog ref03_Sort.f [aW l] [] k 0 (aW (Dt.set l)) []:=(FP l hl hw).sc rfl k
end
end Go.Proofs.YtaelhkkjgfobhaaGreat
