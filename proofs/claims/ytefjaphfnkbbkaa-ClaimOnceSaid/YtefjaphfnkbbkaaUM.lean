/-
 A region in one step whose order conditions want facts.
-/
import Derived.Test.YtefjaphfnkbbkaaUK
import Derived.Shelf.SlSortCmp.NoneTotal
import Derived.Test.YtefjaphfnkbbkaaUL
set_option linter.unusedVariables false
set_option linter.unusedSimpArgs false
set_option linter.unusedSectionVars false
namespace Go.Sl
section
variable {P:Program} {N k0:Nat} {st xW:St} {Q:Exit→St→Prop} {ck:List SI} {bs:List Nat} {draw:Bool} {Φ C X:Prop}
theorem SW.gK (L:List Nat)(hm:P.follows .mixedOrders=true)(φ:Φ)(κ:X)(cs:C)(h:Q .normal xW)
  (hr:Φ→X→C→RF P L ck bs draw st xW:=by
   intro φ κ cs
   (repeat (first | refine RW.ro φ (h:= ?_) | refine RW.skip (h:= ?_) | refine RW.op φ (h:= ?_) | refine RW.aF φ (h:= ?_) | refine RW.ah (h:= ?_) | (refine RW.ax (h:= ?_);(first | refine af.mk φ (hc:=cs.1) (h:= ?_) | refine af.mk φ (hc:=cs.1 _) (h:= ?_) | refine af.mk φ (hs:=cs.1.1) (hc:=cs.1.2) (h:= ?_) | refine af.mk φ (hc:=cs.2.1) (h:= ?_) | refine af.mk φ (hc:=cs.2.1 _) (h:= ?_) | refine af.mk φ (hs:=cs.2.1.1) (hc:=cs.2.1.2) (h:= ?_) | refine af.mk φ (hc:=cs.2.2.1) (h:= ?_) | refine af.mk φ (hc:=cs.2.2.1 _) (h:= ?_) | refine af.mk φ (hs:=cs.2.2.1.1) (hc:=cs.2.2.1.2) (h:= ?_) | refine af.mk φ (hc:=cs.2.2.2.1) (h:= ?_) | refine af.mk φ (hc:=cs.2.2.2.1 _) (h:= ?_) | refine af.mk φ (hs:=cs.2.2.2.1.1) (hc:=cs.2.2.2.1.2) (h:= ?_)))))
   exact RW.nil ⟨ew (by simp [lG,tK,fq,bZ,List.range,List.range.loop,κ] <;> (first | decide | (repeat (first | assumption | refine ⟨?_,?_⟩ | exact .inl (by decide) | exact .inl (.inr (by decide)) | exact .inl (.inl (by decide)) | refine .inr ?_)))),aa.mk (h:=rfl)⟩):SW P N k0 (.eN ck bs draw) st Q:=RF.sw hm (hr φ κ cs) h
end
end Go.Sl
namespace Go.Sl
open Go.RowKit Go.Sort Go.Proofs Go.Shelf
variable {P:Program}
structure Elem {A:Type}(ds:A→List DV)(M:Mem) where
 cells:List Value
 mod:A
 rep:aM (fun _=>False) (fun _=>⟨0,0,true⟩) M ((ds mod).map .d) cells
theorem aM.Es {p:Nat→Prop}{μ:Nat→Nm}{M:Mem}{xs:List DV}{vs:List Value}(h:aM p μ M (xs.map .d) vs)(p':Nat→Prop)(aY:Nat→Nm):aM p' aY M (xs.map .d) vs:=by
 induction xs generalizing vs with
 | nil=>exact aM.aN.2 (aM.aN.1 h)
 | cons x xs ih=>
  obtain ⟨u,us,e,h1,h2⟩:=aM.aC.1 h
  exact aM.aC.2 ⟨u,us,e,Rp.bN.2 (Rp.bN.1 h1),ih h2⟩
theorem sK {A:Type}(ds:A→List DV){p:Nat→Prop}{μ:Nat→Nm}{M:Mem}:∀ (l:List A) (us:List Value),aM p μ M ((l.flatMap ds).map .d) us→
  ∃ es:List (Elem ds M),es.map (·.mod)=l∧es.flatMap (·.cells)=us
 | [],us,h=>⟨[],rfl,by simpa using (aM.aN.1 h).symm⟩
 | x::l,us,h=>by
  have h1:aM p μ M ((ds x).map .d) (us.take (ds x).length):=by simpa using aM.take (ds x).length h
  have h2:aM p μ M ((l.flatMap ds).map .d) (us.drop (ds x).length):=by simpa using aM.drop (ds x).length h
  obtain ⟨es,e1,e2⟩:=sK ds l _ h2
  exact ⟨⟨us.take (ds x).length,x,h1.Es _ _⟩::es,by simp [e1],by simp [e2]⟩
theorem sL {A:Type}(ds:A→List DV){p:Nat→Prop}{μ:Nat→Nm}{M:Mem}:∀ (es:List (Elem ds M)),aM p μ M (((es.map (·.mod)).flatMap ds).map .d) (es.flatMap (·.cells))
 | []=>aM.aN.2 rfl
 | x::es=>by
  have:=aM.append (x.rep.Es p μ) (sL ds es)
  simpa using this
theorem sM {A:Type}{ds:A→List DV}{M:Mem}[Inhabited (Elem ds M)]{k:Nat}(hk:∀ x:Elem ds M,x.cells.length=k)(es:List (Elem ds M)):(flatK (fun x:Elem ds M=>x.cells) k es.toArray).toList=es.flatMap (·.cells):=by
 have hl:=ct (fun x:Elem ds M=>x.cells) k hk es
 apply List.ext_getElem?
 intro t
 by_cases ht:t<es.length*k
 ·have hk0:0<k:=by
    rcases Nat.eq_zero_or_pos k with h | h;· subst h;simp at ht
    ·exact h
  have hi:t / k<es.length:=Nat.div_lt_of_lt_mul (by rwa [Nat.mul_comm] at ht)
  have e1:=kg (fun x:Elem ds M=>x.cells) k hk es (t / k) (t % k) es[t / k] (List.getElem?_eq_getElem hi) (Nat.mod_lt _ hk0)
  have e2:t / k*k+t % k=t:=by rw [Nat.mul_comm];exact Nat.div_add_mod t k
  rw [e2] at e1
  rw [e1]
  have e3:=get_flatK (fun x:Elem ds M=>x.cells) k es.toArray t (by simpa using ht)
  have e4:t<(flatK (fun x:Elem ds M=>x.cells) k es.toArray).size:=by simpa using ht
  have hc:t % k<es[t / k].cells.length:=by rw [hk];exact Nat.mod_lt _ hk0
  rw [getElem!_pos _ t e4] at e3
  rw [Array.getElem?_toList,Array.getElem?_eq_getElem e4,e3]
  simp [hi,hc]
 ·rw [List.getElem?_eq_none (by simpa using ht),List.getElem?_eq_none (by rw [hl];omega)]
theorem Ev.grown {new:Nat→Prop}{μ aY:Nat→Nm}{M M':Mem}{w w':World}{c':Nat→Option Ob}(h:Ev (lk []) new μ M w c' aY M' w'):∃ q os,w'=grow (w.drewN q) os:=by
 refine ⟨w'.drawn - w.drawn,w'.heap.extract w.heap.size w'.heap.size,?_⟩
 have hh:w'.heap=w.heap++w'.heap.extract w.heap.size w'.heap.size:=by
  apply Array.ext_getElem?
  intro i
  rw [Array.getElem?_append]
  split
  ·rename_i hi
   exact (h.frame i hi fun n hn=>by simp [bA] at hn).1
  ·rename_i hi
   rw [Array.getElem?_extract]
   have:=h.size
   split
   ·rw [show w.heap.size+(i - w.heap.size)=i by omega]
   ·rename_i hj
    rw [Array.getElem?_eq_none (by omega)]
 have h1:=h.os
 have h2:=h.tape
 have h3:=h.output
 have hd:w'.drawn=w.drawn+(w'.drawn - w.drawn):=by have:=h2.2;omega
 obtain ⟨a,b,c,d,e⟩:=w'
 obtain ⟨a',b',c',d',e'⟩:=w
 simp only [grow,World.drewN]
 simp only at hh h1 h2 h3 hd
 replace h2:=h2.1
 simp only at h2
 subst h1;subst h2;subst h3
 rw [← hd,← hh]
theorem SC.Ch {ρ:Ren}{A:Type}(L:SlLaysF0.n6 P ρ)(sz:Nat)(aE:∀ w,(isAgg (ρ.t 24)).run P w= .ok true w)(zE:∀ w,(Go.sizeOf (ρ.t 24)).run P w= .ok sz w)(BW:iL P (ρ.f 6)=true)
  (ds:A→List DV) (hds:∀ x,(ds x).length=sz) (cf:A→A→Int) (hO:SWO (ltOf cf)) (g:Nat) (GD:List SV) (hg:iL P g=true)
  (hcmp:∀ (x y:A) (k:Nat),bp P g ([.agg ((ds x).map .d),.agg ((ds y).map .d)]++GD) [] k 0 (.d (.int .i64 (cf x y))) []) (n e:Nat) (l:List A) (hl:l.length<4611686018427387904) (k:Nat):
  SC P (ρ.f 6) [.gs n l.length,.fn (.func g) [] GD] [(n,.arr e sz l.length ((l.flatMap ds).map .d))] k 0
   (fun r F'=>r= .cg []∧∃ l':List A,l'.Perm l∧l'.Pairwise (fun a b=>ltOf cf b a=false)∧F'=[(n,.arr e sz l.length ((l'.flatMap ds).map .d))]):=by
 refine ⟨BW,fun p μ M w vals hp hr hS=> ?_⟩
 obtain ⟨u1,us,e1,r1,r2⟩:=aM.aC.1 hr
 obtain ⟨u2,us2,e2,r3,r4⟩:=aM.aC.1 r2
 have e3:=aM.aN.1 r4
 subst e3;subst e2
 obtain ⟨fs,cs,rfl,ra,rc⟩:=Rp.pJ.1 r3
 have ra':=aM.aN.1 ra
 have hvals:vals= #[u1,.func (.func g) fs cs]:=by cases vals;simpa using e1
 have has:fs= #[]:=by cases fs;simpa using ra'
 subst has;subst hvals
 obtain ⟨hpn,aZ,hMn⟩:=hS.obs n (.arr e sz l.length ((l.flatMap ds).map .d)) (by simp [bC])
 by_cases h0:l=[]
 ·subst h0
  have f_:∃ A cap,u1= .slice A 0 cap:=by
   rcases r1.iZ with ⟨_,rfl⟩ | ⟨_,_,A,rfl⟩ <;> exact ⟨_,_,rfl⟩
  obtain ⟨A',cap,rfl⟩:=f_
  refine (AnyF.slices_SortFunc_none L A' cap (.func (.func g) #[] cs) w).mono ?_
  rintro e w' ⟨rfl,rfl⟩
  exact ⟨.cg [],_,μ,M,.tuple #[],rfl,⟨rfl,[],List.Perm.refl _,List.Pairwise.nil,rfl⟩,Rp.dI.2 ⟨#[],rfl,aM.aN.2 rfl⟩,hS.more fun n h=> .inl h,Ev.refl _ _ _ _ _ fun n _ h=>by omega⟩
 ·have hpos:0<l.length:=by cases l with
   | nil=>exact absurd rfl h0
   | cons x l=>simp
  rcases aZ with ⟨_,hz,_⟩ | ⟨hlive,vs,hb,q1,q2,q3,q4,hrow⟩
  ·omega
  have hMn:=hMn hlive
  obtain ⟨_,rfl⟩:(μ n).live=true∧u1= .slice (some ⟨(μ n).blk,0,none⟩) l.length (μ n).cap:=by
   rcases r1.iZ with h | ⟨h,_⟩
   ·exact h
   ·rw [hlive] at h;cases h
  obtain ⟨es,m1,m2⟩:=sK ds l _ hrow
  have hlen:es.length=l.length:=by rw [← m1];simp
  have hk:∀ x:Elem ds M,x.cells.length=sz:=fun x=>by
   have:=x.rep.length
   rw [this];simp [hds]
  have:Inhabited (Elem ds M):=⟨es[0]'(by omega)⟩
  have hone:∀ x:Elem ds M,∀ v∈x.cells,v.oneCell'=true:=fun x=>aM.Al (by simp [SV.cL]) x.rep
  have hblk:(μ n).blk<w.heap.size:=(Array.getElem?_eq_some_iff.1 hb).1
  have hfl:=sM (k:=sz) hk es
  have hcut:sz*l.length≤vs.size:=by rw [q4,Nat.mul_comm];exact Nat.mul_le_mul_right _ q2
  have hH:HoldsK (fun x:Elem ds M=>x.cells) sz w (μ n).blk 0 es.toArray:=by
   intro j hj
   have hj':j<l.length*sz:=by simpa [hlen] using hj
   have hgot:(flatK (fun x:Elem ds M=>x.cells) sz es.toArray)[j]! =vs[j]! :=by
    have hv:j<vs.size:=by rw [Nat.mul_comm] at hcut;omega
    rw [getElem!_pos _ j hj,getElem!_pos vs j hv]
    have:=congrArg (fun l=>l[j]?) (hfl.trans m2)
    simp only [Array.getElem?_toList,List.getElem?_take,hj',if_true,Array.getElem?_eq_getElem hj,Array.getElem?_eq_getElem hv] at this
    exact Option.some.inj this
   have hv:j<vs.size:=by rw [Nat.mul_comm] at hcut;omega
   refine ⟨?_,?_⟩
   ·rw [Nat.zero_add,cell_of hb,hgot,getElem!_pos vs j hv,Array.getElem?_eq_getElem hv];rfl
   ·simp [World.frozen?,hb]
  have hmem:∀ (q:Nat) (os:Array Obj) (dk:Array (Elem ds M)) (b o:Nat) (v:Value),M b o=some v→(sortWorldK (fun x:Elem ds M=>x.cells) sz w (μ n).blk 0 q dk os).cell? ⟨b,o,none⟩=some v:=by
   intro q os dk b o v hv
   have hbn:b≠(μ n).blk:=fun e=>by rw [e,hMn] at hv;cases hv
   have hc:=hS.mem b o v hv
   have hlt:=World.block_lt_of_cell? w ⟨b,o,none⟩ hc
   unfold sortWorldK
   have hsz:(putRowK (fun x:Elem ds M=>x.cells) sz (Sort.ahead w q) (μ n).blk 0 dk).heap.size=w.heap.size:=by
    unfold putRowK putRow mapBlock
    simp [Sort.ahead]
   rw [cell?_grow _ _ _ (by show b<_;rw [hsz];exact hlt),cell?_putRowK_other _ _ _ _ _ _ _ hbn]
   exact hc
  have hC:CmpLays P g cs (fun x:Elem ds M=>x.cells) sz (fun x y=>cf x.mod y.mod) (μ n).blk 0 es.toArray.size w:=by
   intro q os dk hdk x y
   have hargs:aM p μ M ([.agg ((ds x.mod).map .d),.agg ((ds y.mod).map .d)]++GD) (#[.agg x.cells.toArray,.agg y.cells.toArray]++cs:Array Value).toList:=by
    have a1:Rp p μ M (.agg ((ds x.mod).map .d)) (.agg x.cells.toArray):=Rp.dh.2 ⟨_,rfl,by simpa using x.rep.Es p μ⟩
    have a2:Rp p μ M (.agg ((ds y.mod).map .d)) (.agg y.cells.toArray):=Rp.dh.2 ⟨_,rfl,by simpa using y.rep.Es p μ⟩
    have:=aM.append (aM.aC.2 ⟨_,_,rfl,a1,aM.aC.2 ⟨_,_,rfl,a2,aM.aN.2 rfl⟩⟩) rc
    simpa using this
   refine ((hcmp x.mod y.mod k).2 p μ M (sortWorldK (fun x:Elem ds M=>x.cells) sz w (μ n).blk 0 q dk os) _ (fun n hn=>by omega) hargs ⟨⟨fun b o v hv=>hmem q os dk b o v hv,hS.mem.jK⟩,fun n ob hn=>by simp [bA] at hn,fun n m hn=>by simp [bA] at hn⟩).mono ?_
   rintro e w' ⟨r,F',aY,M',u,rfl,⟨rfl,rfl⟩,hr',_,hE⟩
   refine ⟨?_,hE.grown⟩
   rw [Rp.aR.1 hr']
  have hO':SWO (ltOf fun x y:Elem ds M=>cf x.mod y.mod):=⟨fun x=>hO.irrefl x.mod,fun x y z h1 h2=>hO.trans x.mod y.mod z.mod h1 h2,fun x y z h1 h2=>hO.ntrans x.mod y.mod z.mod h1 h2⟩
  have hsort:=AnyQ.slices_SortFunc L sz aE zE (fun x:Elem ds M=>x.cells) hk hone (fun x y=>cf x.mod y.mod) hO' g cs (μ n).blk 0 (μ n).cap es.toArray w (fun args w=>kP hg args) hC hH hblk (by simpa [hlen] using hl)
  rw [show es.toArray.size=l.length by simp [hlen]] at hsort
  refine hsort.mono ?_
  rintro e' w' ⟨rfl,d',q,os,hperm,hsorted,rfl⟩
  obtain ⟨p1,_,p3⟩:=hperm
  have hd':d'.size=l.length:=by rw [p1];simp [hlen]
  have p3:d'.toList.Perm es:=by
   have ea:d'.extract 0 l.length=d':=by rw [← hd'];simp
   have eb:es.toArray.extract 0 l.length=es.toArray:=by rw [← hlen];simp
   rw [ea,eb] at p3
   simpa using p3
  have hfl':=sM (k:=sz) hk d'.toList
  rw [Array.toArray_toList] at hfl'
  have hFs:(flatK (fun x:Elem ds M=>x.cells) sz d').size=l.length*sz:=by simp [hd']
  let vs':Array Value:=putCells id 0 (flatK (fun x:Elem ds M=>x.cells) sz d') vs
  have hvs':vs'.size=vs.size:=by simp [vs',putCells]
  have hput:(putRowK (fun x:Elem ds M=>x.cells) sz (Sort.ahead w q) (μ n).blk 0 d').heap[(μ n).blk]? =some (.cells vs' e (0,0)):=by
   unfold putRowK putRow mapBlock
   simp only [Sort.ahead,Array.getElem?_modify,if_true,hb,Option.map_some,onCells,vs']
  have hsz:(putRowK (fun x:Elem ds M=>x.cells) sz (Sort.ahead w q) (μ n).blk 0 d').heap.size=w.heap.size:=by
   unfold putRowK putRow mapBlock
   simp [Sort.ahead]
  have hother:∀ b,b<w.heap.size→b≠(μ n).blk→(sortWorldK (fun x:Elem ds M=>x.cells) sz w (μ n).blk 0 q d' os).heap[b]? =w.heap[b]? :=by
   intro b hbl hbn
   unfold sortWorldK
   rw [heap_grow_old _ _ (by rw [hsz];exact hbl)]
   unfold putRowK putRow mapBlock
   simp only [Sort.ahead,Array.getElem?_modify,if_neg (Ne.symm hbn)]
  have hnew:(sortWorldK (fun x:Elem ds M=>x.cells) sz w (μ n).blk 0 q d' os).heap[(μ n).blk]? =some (.cells vs' e (0,0)):=by
   unfold sortWorldK
   rw [heap_grow_old _ _ (by rw [hsz];exact hblk)]
   exact hput
  have htake:vs'.toList.take (l.length*sz)=d'.toList.flatMap (·.cells):=by
   rw [← hfl']
   apply List.ext_getElem?
   intro t
   rw [List.getElem?_take]
   by_cases ht:t<l.length*sz
   ·have h1:t<vs.size:=by rw [Nat.mul_comm] at hcut;omega
    have h2:t<(flatK (fun x:Elem ds M=>x.cells) sz d').size:=by rw [hFs];exact ht
    rw [if_pos ht,Array.getElem?_toList,Array.getElem?_toList,Array.getElem?_eq_getElem h2]
    simp only [vs',putCells,Array.getElem?_mapIdx,Array.getElem?_eq_getElem h1,Option.map_some,Nat.zero_le,true_and,Nat.zero_add,Nat.sub_zero,id]
    rw [if_pos h2,getElem!_pos _ t h2]
   ·rw [if_neg ht,Array.getElem?_toList,Array.getElem?_eq_none (by rw [hFs];omega)]
  refine ⟨.cg [],[(n,.arr e sz l.length (((d'.toList.map (·.mod)).flatMap ds).map .d))],μ,M,.tuple #[],rfl,⟨rfl,d'.toList.map (·.mod),?_,?_,rfl⟩,Rp.dI.2 ⟨#[],rfl,aM.aN.2 rfl⟩,⟨⟨fun b o v hv=>hmem q os d' b o v hv,hS.mem.jK⟩,fun m ob hm=> ?_,fun m m' hm hm' _ _ _=> ?_⟩,⟨fun _ _=>rfl,Mem.le_refl _,fun b hbl hf=>⟨hother b hbl fun ee=>hf n (by simp [bC]) hlive ee.symm,fun _=>rfl⟩,?_,fun m hm=> ?_,rfl,⟨rfl,?_⟩,rfl⟩⟩
  ·rw [← m1];exact p3.map _
  ·rw [List.pairwise_map,List.pairwise_iff_getElem]
   intro i j hi hj hij
   have:=hsorted i j (Nat.zero_le _) hij (by rw [← hd'];simpa using hj)
   rwa [getElem!_pos d' j (by simpa using hj),getElem!_pos d' i (by simpa using hi)] at this
  ·rw [bC] at hm
   split at hm
   ·rename_i ee;subst ee
    injection hm with hm;subst hm
    refine ⟨.inl hpn,.inr ⟨hlive,vs',hnew,?_,q2,q3,by rw [hvs'];exact q4,?_⟩,fun _=>hMn⟩
    ·have:=ct ds sz hds (d'.toList.map (·.mod))
     simp only [List.length_map,Array.length_toList] at this ⊢
     rw [this,hd']
    ·rw [htake]
     exact (sL ds d'.toList)
   ·cases hm
  ·rw [bC] at hm hm'
   split at hm <;> split at hm' <;> first | omega | simp at hm hm'
  ·unfold sortWorldK
   rw [size_grow,hsz];omega
  ·rw [bC] at hm
   split at hm
   ·rename_i ee;subst ee
    exact .inr ⟨by omega,by simp [bC]⟩
   ·simp at hm
  ·show w.drawn≤w.drawn+q
   omega
end Go.Sl
namespace Go.Sl
open Go.RowKit
section
variable {P:Program} {N k0:Nat}
theorem Ci {ops:Array Oper}{o:Oper}{si:SI}{st:St}{e:j4}{c1 c2:List CR}{i:Nat}{rd:Option Nat}{bT:Nat→Nm}{M0:Mem}{w0:World}{c0:Nat→Option Ob}{a:Act}{w:World}{Q':Exit→Act→World→Prop}{KK:Act→World→Prop}
  (ho:ops[i]? =some o) (hc:nr P ops o=some si) (hN:∀ d,si.dst=some d→d<N) (hop:eX P st si c1=some (e,c2)) (aZ:e.ob) (eE:gl N bT M0 w0 c0 k0 st a w) (B8:∀ a' w',gl N bT M0 w0 c0 k0 (jO st si e) a' w'→KK a' w'):wpOpIn (iJ rd) 0 P ops Q' i KK a w:=by
 obtain ⟨b1,b2,b3⟩:=nJ hc hop aZ
 obtain ⟨g1,g2,g3⟩:=fK hc
 unfold wpOpIn
 simp only [ho]
 obtain ⟨hk0,hdf,hsz,μ,M,f_,hS,hE⟩:=eE
 have eE:gl N bT M0 w0 c0 k0 st a w:=⟨hk0,hdf,hsz,μ,M,f_,hS,hE⟩
 rcases b1 with ⟨j,want,t,sv,hg,hd,hE',hb,e1,e2,e3,e4⟩ | ⟨hg,hs⟩
 ·have hv:=f_ t _ hE'
  have hw:Region.wanted o (yielded ops a.tmps)=false:=by
   simp only [Region.wanted,hg]
   unfold kf at hb
   split at hb
   ·rw [gq hd (Rp.br.1 hv)]
    simpa using hb
   ·obtain ⟨vs,e,hvs⟩:=Rp.dI.1 hv
    have hvs0:vs= #[]:=by have:=aM.aN.1 hvs;simpa using this
    rw [nG hd (by rw [e,hvs0];rfl)]
    rfl
   ·cases hb
  simp only [hw,Bool.false_eq_true,if_false]
  obtain ⟨v,F,F',nk,eo⟩:=e
  simp only at e1 e2 e3 e4
  subst e1;subst e2;subst e3;subst e4
  exact ⟨fun _ _=>trivial,B8 _ _ (gl.skip g2 (fun d hd=>hN d (by rw [g2];exact hd)) eE)⟩
 ·have hw:Region.wanted o (yielded ops a.tmps)=true:=by
   rcases hg with hg | ⟨j,want,t,hg,hd,hE'⟩
   ·simp [Region.wanted,hg]
   ·have hv:=Rp.br.1 (f_ t _ hE')
    simp only [Region.wanted,hg,gq hd hv]
    simp
  simp only [hw,if_true]
  exact (gl.step g2 (fun d hd=>hN d (by rw [g2];exact hd)) hs.q (fun v F' hQ hr=>by rw [hQ.2];exact b2 hr) eE fun v F' hQ a' w' hSt'=>B8 a' w' (by rw [hQ.1,hQ.2] at hSt';exact hSt'))
def Hl (n:Nat)(bs:List Nat)(mask:Nat):List Nat:=(List.range n).filter fun i=> !mask.testBit i && (List.range n).all fun j=> !fq bs j i || mask.testBit j
def qY (P:Program)(N k0:Nat)(ck:List SI)(bs:List Nat)(mask:Nat)(st:St)(K:St→Prop):Prop:=
 ∀ (ops:Array Oper),ops.size=ck.length→(∀ (j:Nat) (si:SI),ck[j]? =some si→∃ o:Oper,ops[j]? =some o∧nr P ops o=some si)→(∀ si∈ck,∀ d,si.dst=some d→d<N)→okB ops bs=true→
  ∀ (rd:Option Nat) (bT:Nat→Nm) (M0:Mem) (w0:World) (c0:Nat→Option Ob) (fuel:Nat) (listed:Array Bool) (a:Act) (w:World),listed.size=ops.size→gr listed ops.size=fuel→rL ops (fun j=>listed.getD j false)→
   (∀ j,j<ops.size→listed.getD j false=mask.testBit j)→gl N bT M0 w0 c0 k0 st a w→∀ Q':Exit→Act→World→Prop,(∀ st' a' w',K st'→gl N bT M0 w0 c0 k0 st' a' w'→Q' .normal a' w')→
   wpAnyIn (iJ rd) 0 P .any ops Q' fuel listed a w
def Oa (P:Program)(N k0:Nat)(ck:List SI)(bs:List Nat)(mask:Nat)(st:St)(K:St→Prop)(i:Nat):Prop:=
 ∃ si e c2,ck[i]? =some si∧eX P st si []=some (e,c2)∧e.ob∧qY P N k0 ck bs (mask ||| 2 ^ i) (jO st si e) K
theorem qY.done {ck:List SI}{bs:List Nat}{mask:Nat}{st:St}{K:St→Prop}(h:(List.range ck.length).all (fun i=>mask.testBit i)=true)(hk:K st):qY P N k0 ck bs mask st K:=by
 intro ops hn hget hN hok rd bT M0 w0 c0 fuel listed a w hl hcnt hc hm eE Q' hQ
 have hall:∀ j,j<ops.size→listed.getD j true=true:=fun j hj=>by
  have h1:=List.all_eq_true.1 h j (List.mem_range.2 (by omega))
  have h2:=hm j hj
  rw [h1] at h2
  simpa [show j<listed.size by omega] using h2
 have h0:fuel=0:=by rw [← hcnt];exact nI hall
 subst h0
 refine ⟨List.eq_nil_iff_forall_not_mem.2 fun i hi=> ?_,hQ st a w hk eE⟩
 obtain ⟨h1,o,h2,_⟩:=mem_ready.1 hi
 rw [hall i (Array.getElem?_eq_some_iff.1 h2).1] at h1
 cases h1
theorem qY.step {ck:List SI}{bs:List Nat}{mask:Nat}{st:St}{K:St→Prop}(hne:(List.range ck.length).all (fun i=>mask.testBit i)=false)(h:∀ i∈Hl ck.length bs mask,Oa P N k0 ck bs mask st K i):qY P N k0 ck bs mask st K:=by
 intro ops hn hget hN hok rd bT M0 w0 c0 fuel listed a w hl hcnt hc hm eE Q' hQ
 have same:∀ j,j<ops.size→listed.getD j true=listed.getD j false:=fun j hj=>by simp [show j<listed.size by omega]
 cases fuel with
 | zero=>
  exfalso
  have hall:=l6 hcnt
  have:(List.range ck.length).all (fun i=>mask.testBit i)=true:=List.all_eq_true.2 fun i hi=>by
   have hi:=List.mem_range.1 hi
   rw [← hm i (by omega),← same i (by omega)]
   exact hall i (by omega)
  rw [this] at hne;cases hne
 | succ fuel=>
  refine ⟨fun hr=> ?_,fun i hi=> ?_⟩
  ·have:=nI (ua hok hl hr)
   omega
  ·obtain ⟨h1,o,h2,h3⟩:=mem_ready.1 hi
   have hi':i<ops.size:=(Array.getElem?_eq_some_iff.1 h2).1
   have hn0:listed.getD i false=false:=by rw [← same i hi'];exact h1
   have hp:zw ops (fun j=>listed.getD j false) i:=fun o' ho' e he hbd=>by
    rw [h2] at ho';injection ho' with ho';subst ho'
    exact h3 e he hbd
   have hin:i∈Hl ck.length bs mask:=by
    unfold Hl
    rw [List.mem_filter,List.mem_range]
    refine ⟨by omega,?_⟩
    rw [Bool.and_eq_true]
    refine ⟨by rw [← hm i hi',hn0];rfl,List.all_eq_true.2 fun j hj=> ?_⟩
    have hj:=List.mem_range.1 hj
    cases ho:fq bs j i with
    | false=>rfl
    | true=>
     rw [← hm j (by omega),pS hok hc hi' (by omega) hp ho];rfl
   obtain ⟨si,e,c2,g1,g2,g3,g4⟩:=h i hin
   obtain ⟨o',ho',hco⟩:=hget i si g1
   rw [h2] at ho';injection ho' with ho';subst ho'
   have hD:∀ j,(listed.getD j false || j == i)=(listed.setIfInBounds i true).getD j false:=fun j=>by
    by_cases hji:j=i
    ·subst hji
     simp [show j<listed.size by omega]
    ·rw [getD_set_ne false (Ne.symm hji)]
     simp [beq_eq_false_iff_ne.2 hji]
   have fin:∀ a' w',gl N bT M0 w0 c0 k0 (jO st si e) a' w'→wpAnyIn (iJ rd) 0 P .any ops Q' fuel (listed.setIfInBounds i true) a' w':=fun a' w' hSt'=>by
    refine g4 ops hn hget hN hok rd bT M0 w0 c0 fuel _ a' w' (by simpa using hl) (by have:=nH h1 ops.size;simp [hi'] at this;omega) (fun j o' hDj ho' ed he hbd=> ?_) (fun j hj=> ?_) hSt' Q' hQ
    ·simp only [← hD] at hDj ⊢
     simp only [Bool.or_eq_true,beq_iff_eq] at hDj
     rcases hDj with h | rfl
     ·simp [hc j o' h ho' ed he hbd]
     ·rw [h2] at ho';injection ho' with ho';subst ho'
      have:=h3 ed he hbd
      simp [this]
    ·rw [← hD,hm j hj,Nat.testBit_or,Nat.testBit_two_pow]
     congr 1
     by_cases hji:j=i
     ·subst hji;simp
     ·rw [beq_eq_false_iff_ne.2 hji,decide_eq_false (fun e=>hji e.symm)]
   exact Ci h2 hco (fun d hd=>hN si (List.mem_of_getElem? g1) d hd) g2 g3 eE fin
theorem SW.tree {st:St}{Q:Exit→St→Prop}{ck:List SI}{bs:List Nat}(hm:P.follows .mixedOrders=true)(h:qY P N k0 ck bs 0 st (Q .normal)):SW P N k0 (.eN ck bs true) st Q:=by
 intro c hc rd hrf bT M0 w0 c0 a w eE
 cases c <;> simp only [cK] at hc <;> first
  | (cases hc;done)
  | (exfalso;split at hc <;> cases hc;done)
  | (exfalso;obtain ⟨_,_,h'⟩:=Option.map_eq_some_iff.1 hc;cases h';done)
  | skip
 rename_i id ops draw
 split at hc <;> first | (cases hc;done) | skip
 rename_i sis' bs' hreg
 injection hc with hc
 injection hc with h1 h2 h3
 subst h1;subst h2;subst h3
 unfold BP at hreg
 split at hreg <;> first | (cases hreg;done) | skip
 rename_i sis2 hsis
 split at hreg <;> first | (cases hreg;done) | skip
 rename_i hchk
 injection hreg with hreg
 injection hreg with hr1 hr2
 subst hr1
 rw [hr2] at hchk
 simp only [Bool.and_eq_true,Bool.not_true,Bool.false_or] at hchk
 obtain ⟨⟨hok,_⟩,hin⟩:=hchk
 obtain ⟨hlen,hget⟩:=kS hsis
 have hn:ops.size=sis2.length:=by simpa using hlen
 refine wpIn_region_any hm ?_
 have hSt2:gl N bT M0 w0 c0 k0 st a w.drew:=by
  obtain ⟨b1,b2,b3,μ,M,b4,b5,b6⟩:=eE
  exact ⟨b1,b2.ev b5 (Ev.refl _ (fun _=>False) _ _ _ fun _ _ h=>h).drew,b3,μ,M,b4,b5.drew,b6.drew⟩
 refine h ops hn (fun j si hj=> ?_) (fun si hs d hd=> ?_) hok rd bT M0 w0 c0 ops.size _ a w.drew (by simp) ?_ (fun j o h=> ?_) (fun j hj=>by simp [hj]) hSt2 _ fun st' a' w' hk hs=>⟨st',hk,hs⟩
 ·have hj':j<ops.size:=by rw [hn];exact (List.getElem?_eq_some_iff.1 hj).1
  obtain ⟨si',h1,h2⟩:=hget j ops[j] (by simp [hj'])
  rw [hj] at h1;injection h1 with h1;subst h1
  exact ⟨ops[j],Array.getElem?_eq_getElem hj',h2⟩
 ·have:=List.all_eq_true.1 hin si hs
  rw [hd] at this
  simpa using this
 ·have:∀ n,n≤ops.size→gr (Array.replicate ops.size false) n=n:=by
   intro n
   induction n with
   | zero=>intro _;rfl
   | succ n ih=>intro hn';simp only [gr,ih (by omega)];simp [show n<ops.size by omega]
  exact this _ (Nat.le_refl _)
 ·exfalso
  by_cases hj:j<ops.size
  ·simp [hj] at h
  ·simp [hj] at h
end
section
variable {P:Program} {N k0:Nat} {ck:List SI} {bs:List Nat} {mask:Nat} {st:St} {K:St→Prop}
theorem qY.s1 (i:Nat)(hne:(List.range ck.length).all (fun i=>mask.testBit i)=false:=by kernel_rfl)(hr:Hl ck.length bs mask=[i]:=by rfl)(h1:Oa P N k0 ck bs mask st K i):qY P N k0 ck bs mask st K:=
 qY.step hne fun j hj=>by rw [hr] at hj;simp at hj;subst hj;exact h1
theorem qY.s2 (i j:Nat)(hne:(List.range ck.length).all (fun i=>mask.testBit i)=false:=by kernel_rfl)(hr:Hl ck.length bs mask=[i,j]:=by rfl)(h1:Oa P N k0 ck bs mask st K i)(h2:Oa P N k0 ck bs mask st K j):qY P N k0 ck bs mask st K:=
 qY.step hne fun q hj=>by rw [hr] at hj;simp at hj;rcases hj with rfl | rfl <;> assumption
theorem qY.s3 (i j l:Nat)(hne:(List.range ck.length).all (fun i=>mask.testBit i)=false:=by kernel_rfl)(hr:Hl ck.length bs mask=[i,j,l]:=by rfl)(h1:Oa P N k0 ck bs mask st K i)(h2:Oa P N k0 ck bs mask st K j)(h3:Oa P N k0 ck bs mask st K l):qY P N k0 ck bs mask st K:=
 qY.step hne fun q hj=>by rw [hr] at hj;simp at hj;rcases hj with rfl | rfl | rfl <;> assumption
theorem Oa.mk {i:Nat}{d:Option Nat}{op:SO}{g:Option (Nat×Bool)}{env env':List (Nat×SV)}{hp nq F F':Hp}{k k' mask':Nat}{v:SV}{nk:Nat}{ob:Prop}{Φ:Prop}(φ:Φ)
  (hsi:ck[i]? =some ⟨d,op,g⟩:=by rfl)
  (hg:g=none∨∃ t w,g=some (t,w)∧env.lookup t=some (.d (.bool w)):=by first | exact .inl rfl | exact .inr ⟨_,_,rfl,rfl⟩)
  (he:Φ→ek P ⟨env,hp,k⟩ op []=some (⟨v,F,F',nk,ob⟩,[]):=by
   intro φ
   simp (disch:=omega) only [Go.Sl.seg,jX,fL,ek,cQ,ev,qu,vU,jO,List.lookup,Nat.reduceBEq,Nat.reduceAdd,Nat.reduceMul,Nat.zero_add,SV.cells,if_true,if_false,reduceIte,Bool.false_eq_true,bZ,cH,dM,dN,iM,ia,dx,lk,List.filter,Nat.reduceBNe,bne_self_eq_false,eq_self,x_,xT,fP,tH,tI,BC,aS.cells_one,BEq.rfl,beq_self_eq_true,Bool.true_or,Nat.reduceEqDiff,List.map_cons,List.map_nil,List.nil_append,List.cons_append,List.append_nil,Int.toNat_natCast,Nat.mul_one,Nat.add_zero,gL,gJ,jj,gv,gw,gx,gy,gz,gA,jk,Option.isSome_some,Option.isSome_none,Option.isNone_some,Option.isNone_none,Nat.zero_ne_one,Nat.one_ne_zero,Bool.and_false,Bool.and_true,List.drop_zero,aS.aJ,aS.aP,aS.aW,Dt.cells_one,Dt.aP,Dt.yj,Dt.ym,Dt.aW,Dt.aJ,Dt.yF,Dt.yG,kL,dF,tJ,rG,List.all_cons,List.all_nil,SV.cL,Int.cast_ofNat_Int,Int.reduceBNe,Int.reduceBEq,Int.reduceLT,Int.reduceLE,Int.reduceGT,Int.reduceGE,kV,rU,rW,Bool.not_true,Bool.not_false,Bool.or_false,Bool.or_true,Bool.false_or,Bool.or_self,aS.nN,aS.yo,aS.rS,aS.rT,aS.cR,aS.cT,Dt.nN,Dt.yp,Dt.cR,Dt.cT,List.all_append,aS.wI,Dt.nE,Bool.cond_true,Bool.cond_false,wrap_i64,ff,wrap_u32',wrap_u8',U,sF,jC,jD,Int.reduceToNat,List.length_nil,List.getElem?_cons_zero,List.getElem?_cons_succ,List.take_succ_cons,List.take_zero,List.drop_succ_cons,decide_true,decide_false,Bool.true_and,Bool.and_self,Bool.false_and,je,kX,gX,iQ,iz,MM.dH,jt,nP,k9,lp,k7,k_,k8,lg,kZ,k6,aq.cells_one,aq.aP,aq.dO,aq.yq,aq.r7,aq.nQ,aq.jw,aq.r_,aq.gP,aq.Gk,aq.gB,aq.gC,aq.nR,aq.Gl,aq.nS,aq.jx,aq.m_,aq.gh,aq.jY,aq.sg,aq.sk,aq.aW,aq.aJ,Cr.cells_one,Cr.aP,Cr.dO,Cr.jw,Cr.yt,Cr.sn,Cr.gB,Cr.gC,Cr.nR,Cr.nT,Cr.aW,Cr.aJ,Cr.nE,lu,lz,lB,lC,av.cells_one,av.aP,av.dO,av.jx,av.m_,av.gh,av.nS,av.Fu,av.Fv,av.Gs,av.aW,av.Gt,av.Gu,av.Gv,av.jZ,av.nU,av.oV,av.yy,av.sA,av.yz,av.nV,av.yA,av.nW,av.nX,aG.all,aG.dO,aG.gP,aG.nQ,aG.Gy,aG.yC,aG.Gz,aG.yD,aG.fZ,Sp.cells_one,Sp.aP,Sp.dO,Sp.gN,Sp.aW,Sp.aJ,Sp.fZ,Sp.nE,lE,lD,φ]
   with_reducible rfl)
  (aZ:ob:=by first | trivial | (repeat' (first | exact trivial | omega | apply And.intro | (simp [-List.length_flatMap,-Int.natCast_add];done) | (simp [-List.length_flatMap,-Int.natCast_add] <;> omega))))
  (hh:Φ→cH (bZ op) hp F F'=nq:=by (intro φ;simp only [φ,bZ,cH,dM,dN,iM,ia,dx,lk,List.lookup,Nat.reduceBEq,BEq.rfl,beq_self_eq_true,if_true,if_false,reduceIte,Nat.reduceEqDiff,Bool.false_eq_true,Option.isSome_some,Option.isSome_none] <;> with_reducible rfl))
  (hk:k+nk=k':=by first | (simp only [Nat.add_zero,Nat.reduceAdd] <;> rfl) | rfl)
  (hm:mask ||| 2 ^ i=mask':=by first | (simp only [Nat.reducePow,Nat.reduceOr] <;> rfl) | rfl)
  (I1:oU d v env=env':=by (simp only [oU] <;> rfl))
  (h:qY P N k0 ck bs mask' ⟨env',nq,k'⟩ K):Oa P N k0 ck bs mask ⟨env,hp,k⟩ K i:=by
 subst hm
 refine ⟨⟨d,op,g⟩,⟨v,F,F',nk,ob⟩,[],hsi,eP hg (he φ),aZ,?_⟩
 rw [iV,hh φ,hk,I1]
 exact h
end
end Go.Sl
