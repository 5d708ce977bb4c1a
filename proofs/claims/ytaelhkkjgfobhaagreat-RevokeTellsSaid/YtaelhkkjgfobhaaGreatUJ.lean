/-
 Shapes: what a new shape holds (plain).
-/
import Derived.Test.YtaelhkkjgfobhaaGreatUI
import Derived.Test.YtaelhkkjgfobhaaGreatUD
import Derived.Test.YtaelhkkjgfobhaaGreatU6
set_option linter.unusedSectionVars false
set_option linter.unusedVariables false
set_option linter.unusedSimpArgs false
namespace Go.Proofs.YtaelhkkjgfobhaaGreat
open Go.Sl Go.Proofs
section
theorem mZ.uniq {a:MM Dt Cr}{oc:Option Cr}{L M:List Cr}(h:mZ a oc L):mZ a oc M→L=M:=by
 induction h generalizing M with
 | none=>intro g;cases g;rfl
 | root c hc=>intro g;cases g with
  | root _ _=>rfl
  | more _ L h1 _=>exact absurd h1 hc
 | more c L h1 _ ih=>intro g;cases g with
  | root _ h2=>exact absurd h1 h2
  | more _ L' _ h2=>rw [ih h2]
open Classical in
noncomputable def oO (a:MM Dt Cr)(d:Dt):List Cr:=if h:∃ L,mZ a (MM.get a d) L then Classical.choose h else []
theorem iD {a:MM Dt Cr}{d:Dt}{L:List Cr}(h:mZ a (MM.get a d) L):oO a d=L:=by
 have hx:∃ L,mZ a (MM.get a d) L:=⟨L,h⟩
 unfold oO
 rw [dif_pos hx]
 exact (Classical.choose_spec hx).uniq h
noncomputable def Sh.Fj (S:Sh)(e d:Dt):Bool:=fU S.tr e d (oO S.tr d)
noncomputable def Sh.eP (S:Sh)(o:ag):Nat:=S.why o (S.Fj o.aV o.at_)
def Sh.uG (S:Sh):Prop:=∀ d,∃ L,mZ S.tr (MM.get S.tr d) L∧L.length≤9
theorem Sh.LW (S:Sh)(h:S.uG)(e d:Dt):∃ m,∀ k,aG Tryz.prog tree_Tree_Above.f [.ptr 4 0,.agg e.cells,.agg d.cells] S.h4 k m (bl (S.Fj e d)) S.h4:=by
 obtain ⟨L,hL,hlen⟩:=h d
 refine ⟨6+L.length*(1+1),fun k=> ?_⟩
 have:=Dp S.I3 e d L hL (by omega) k
 unfold Sh.Fj
 rw [iD hL]
 exact this
theorem Sh.KG (S:Sh)(h:S.uG)(o:ag)(hk:o.kind<256)(hl:o.nw)(n:Sn)(hn:n.ok)(k:Nat):aG Tryz.prog shape_Shape_Why.f [.ptr n.b 0,.agg o.cells] (S.hp n) k 0 (i64 (S.eP o)) (S.hp n):=by
 obtain ⟨m,hm⟩:=S.LW h o.aV o.at_
 exact Gs S o hk _ (fun k=>I6 S o hk hl _ m hm k) n hn k
theorem Sh.rF (S:Sh)(A:MM Dt Int)(c:Nat)(B:MM Dt Dt)(e:Nat){o:ag}(hk:o.kind=3):({ S with gB:=A,ca:=c,nA:=B,cl:=e}:Sh).eP o=S.eP o:=by
 have ht:∀ (T:Sh) (b:Bool),T.tgt o b=true:=fun T b=>by unfold Sh.tgt;rw [if_neg (by omega),if_neg (by omega),if_neg (by omega),if_neg (by omega)]
 have hr:∀ (b:Bool) i,Sh.qt { S with gB:=A,ca:=c,nA:=B,cl:=e} o b i=S.qt o b i:=fun b i=>by
  match i with
  | 0 | 1 | 2 | 3 | 4 | 5=>rfl
  | i+6=>show (!Sh.tgt _ o b)=(!Sh.tgt _ o b);rw [ht,ht]
 show Sh.why _ o (S.Fj o.aV o.at_)=S.why o (S.Fj o.aV o.at_)
 unfold Sh.why
 simp only [hr]
theorem Sh.xZ (S:Sh)(B:MM Dt Dt)(e:Nat){o:ag}(hk:o.kind=4):({ S with nA:=B,cl:=e}:Sh).eP o=S.eP o:=by
 have ht:∀ (b:Bool),Sh.tgt { S with nA:=B,cl:=e} o b=S.tgt o b:=fun b=>by
  unfold Sh.tgt;rw [if_neg (by omega),if_pos (.inl hk),if_neg (by omega),if_pos (.inl hk)];rfl
 have hr:∀ (b:Bool) i,Sh.qt { S with nA:=B,cl:=e} o b i=S.qt o b i:=fun b i=>by
  match i with
  | 0 | 1 | 2 | 3 | 4 | 5=>rfl
  | i+6=>show (!Sh.tgt _ o b)=(!Sh.tgt _ o b);rw [ht]
 show Sh.why _ o (S.Fj o.aV o.at_)=S.why o (S.Fj o.aV o.at_)
 unfold Sh.why
 simp only [hr]
def Aw (s:MM Dt ag×Nat)(o:ag):MM Dt ag×Nat:=if MM.has s.1 o.dot then s else (MM.put s.1 s.2 o.dot o,MM.ja s.1 s.2 o.dot)
def firstM (l:List ag):MM Dt ag×Nat:=l.foldl Aw ([],0)
theorem r7 (l:List ag)(x:ag):firstM (l++[x])=Aw (firstM l) x:=by unfold firstM;rw [List.foldl_append];rfl
theorem ua (l:List ag)(x:ag)(d:Dt):aT (l++[x]) d=(aT l d).or (if x.dot=d then some x else none):=by
 unfold aT
 rw [List.find?_append]
 congr 1
 simp only [List.find?_cons,List.find?_nil]
 by_cases h:x.dot=d <;> simp [h]
structure wD (l:List ag)(m:MM Dt ag)(c:Nat):Prop where
 wf:MM.wf m c
 get:∀ d,MM.get m d=aT l d
theorem D1 (l:List ag):wD l (firstM l).1 (firstM l).2:=by
 have key:∀ n,∀ l:List ag,l.length=n→wD l (firstM l).1 (firstM l).2:=fun n=>by
  induction n with
  | zero=>
   intro l hl
   rw [List.eq_nil_of_length_eq_zero hl]
   exact ⟨MM.k_,fun d=>by simp [firstM,MM.get,aT]⟩
  | succ n ih=>
   intro l hl
   have hne:l≠[]:=fun e=>by rw [e] at hl;cases hl
   have hd:=List.dropLast_concat_getLast hne
   obtain ⟨x,hx⟩:∃ x,l.getLast hne=x:=⟨_,rfl⟩
   obtain ⟨p,hp⟩:∃ p,l.dropLast=p:=⟨_,rfl⟩
   rw [hx,hp] at hd
   have hpl:p.length=n:=by rw [← hp,List.length_dropLast,hl];omega
   have h:=ih p hpl
   rw [← hd,r7]
   unfold Aw
   by_cases hh:MM.has (firstM p).1 x.dot=true
   ·rw [if_pos hh]
    refine ⟨h.wf,fun d=> ?_⟩
    rw [h.get,ua]
    have hs:(aT p x.dot).isSome=true:=by rw [← h.get];exact hh
    by_cases e:x.dot=d
    ·subst e
     obtain ⟨y,hy⟩:=Option.isSome_iff_exists.1 hs
     rw [hy];rfl
    ·rw [if_neg e];simp
   ·rw [if_neg hh]
    refine ⟨MM.jt h.wf _ _,fun d=> ?_⟩
    rw [MM.fI,h.get,ua]
    have hs:aT p x.dot=none:=by
     rw [← h.get]
     have:(MM.get (firstM p).1 x.dot).isSome=false:=by simpa [MM.has] using hh
     simpa using this
    by_cases e:d=x.dot
    ·subst e
     rw [if_pos rfl,hs,if_pos rfl];rfl
    ·rw [if_neg e,if_neg (Ne.symm e)];simp
 exact key _ l rfl
end
section
attribute [local irreducible] SW RW aG SC aj an
abbrev MF (a:MM Dt Cr)(ca:Nat)(m:MM Dt ag)(cm:Nat):Tr:=⟨2,0,1,a,ca,m,cm⟩
abbrev H2 (a:MM Dt Cr)(ca:Nat)(m:MM Dt ag)(cm:Nat):Hp:=[(2,.box 166 [.mp 0,.mp 1]),(0,.map (aq Dt.cells cv a) ca),(1,.map (aq Dt.cells ov m) cm)]
structure Tn (l:List ag)(a:MM Dt Cr)(ca:Nat)(m:MM Dt ag)(cm:Nat):Prop where
 new:iY l 0=MF a ca m cm
theorem KH (l:List ag):∃ a ca m cm,Tn l a ca m cm:=by
 refine ⟨(iY l 0).at_,(iY l 0).ca,(iY l 0).made,(iY l 0).cm,⟨?_⟩⟩
 have e1:(iY l 0).bx=2:=by show 0+_=2;rw [Nat.zero_add];exact lz.e1 _
 have e2:(iY l 0).ma=0:=by show 0+_=0;rw [Nat.zero_add];exact lz.e2 _
 have e3:(iY l 0).mm=1:=by show 0+_=1;rw [Nat.zero_add];exact lz.e3 _
 revert e1 e2 e3
 generalize iY l 0=T
 obtain ⟨b,x,y,a,ca,m,cm⟩:=T
 rintro rfl rfl rfl
 rfl
section
variable {l:List ag} {a:MM Dt Cr} {ca:Nat} {m:MM Dt ag} {cm:Nat} (h:Tn l a ca m cm)
include h
theorem Tn.LX (hl:l.length<1000000000):aG Tryz.prog tree_New.f [ops l] [] 0 7 (.ptr 2 0) (H2 a ca m cm):=by
 have:=I1 l hl 0
 rw [h.new] at this;exact this
end
end
section
abbrev n10:Sn:=⟨10,7,8,9,2,0,1⟩
theorem wE:n10.ok:=by decide
abbrev Sh.jo (S:Sh):Hp:=[(10,.box 117 [.ptr 2 0,.mp 7,.mp 8,.mp 9]),(7,.map (aq Dt.cells ov S.ops) S.co),(8,.map (aq Dt.cells iv S.gB) S.ca),(9,.map (aq Dt.cells dv S.nA) S.cl),
 (2,.box 166 [.mp 0,.mp 1]),(0,.map (aq Dt.cells cv S.tr) S.ct),(1,.map (aq Dt.cells ov S.md) S.cm)]
theorem Sh.nj (S:Sh){k:Nat}(h:11≤k):S.jo.ok (fun n=>decide (n<k))=true:=by
 have a:=bu (fun n=>decide (n<k)) S.ops
 have b:=bQ (fun n=>decide (n<k)) S.gB
 have c:=nN (fun n=>decide (n<k)) S.nA
 have d:=jH (fun n=>decide (n<k)) S.tr
 have e:=bu (fun n=>decide (n<k)) S.md
 simp only [Hp.ok,List.all_cons,List.all_nil,Ob.ok,SV.av,SV.ok,a,b,c,d,e,Bool.and_true,Bool.true_and,Bool.and_eq_true,decide_eq_true_eq]
 omega
theorem Sh.KI (S:Sh):(S.jo.map (·.1)).Nodup:=by simp
theorem Sh.HV (S:Sh)(h:S.uG)(o:ag)(hk:o.kind<256)(hl:o.nw)(k:Nat):aG Tryz.prog shape_Shape_Why.f [.ptr 10 0,.agg o.cells] S.jo k 0 (i64 (S.eP o)) S.jo:=S.KG h o hk hl n10 wE k
structure iZ (l:List ag)(S:Sh):Prop where
 ops:wD l S.ops S.co
 tok:lB l S.T
 uG:S.uG
 tr:S.tr=(aA l).at_
 md:S.md=(aA l).made
def jw (S:Sh)(xs:MM Dt ag)(A:MM Dt Int)(c:Nat):Prop:=MM.wf A c∧∀ d v,MM.get A d=some v↔v=1∧∃ x,x∈xs∧x.2.1=d∧x.2.2.kind=3∧S.eP x.2.2=0
def nO (S:Sh)(xs:MM Dt ag)(B:MM Dt Dt)(c:Nat):Prop:=MM.wf B c∧∀ d v,MM.get B d=some v↔∃ x,x∈xs∧x.2.1=d∧x.2.2.kind=4∧S.eP x.2.2=0∧v=x.2.2.at_
structure cq (l:List ag)(S:Sh):Prop where
 base:iZ l S
 gB:jw S S.ops S.gB S.ca
 nA:nO S S.ops S.nA S.cl
theorem get_mem {V:Type}{m:MM Dt V}{d:Dt}{v:V}(h:MM.get m d=some v):∃ x,x∈m∧x.2.1=d∧x.2.2=v:=by
 unfold MM.get at h
 obtain ⟨x,hx,rfl⟩:=Option.map_eq_some_iff.1 h
 exact ⟨x,List.mem_of_find?_eq_some hx,by have:=List.find?_some hx;simp at this;exact this.symm,rfl⟩
theorem oD {V:Type}{m:MM Dt V}(hk:(MM.keys m).Nodup){x:Nat×Dt×V}(hx:x∈m):MM.get m x.2.1=some x.2.2:=by
 have:(MM.get m x.2.1).isSome=true:=by
  unfold MM.get
  rw [Option.isSome_map,List.find?_isSome]
  exact ⟨x,hx,by simp⟩
 obtain ⟨v,hv⟩:=Option.isSome_iff_exists.1 this
 obtain ⟨y,hy,e1,e2⟩:=get_mem hv
 have:y=x:=by
  have hp:=List.nodup_iff_pairwise_ne.1 hk
  unfold MM.keys at hp
  rw [List.pairwise_map] at hp
  exact Classical.byContradiction fun hne=>by
   rcases List.pairwise_iff_getElem.1 hp with hpp
   obtain ⟨i,hi,rfl⟩:=List.getElem_of_mem hy
   obtain ⟨j,hj,rfl⟩:=List.getElem_of_mem hx
   rcases Nat.lt_trichotomy i j with h | h | h
   ·exact hpp i j hi hj h e1
   ·subst h;exact hne rfl
   ·exact hpp j i hj hi h e1.symm
 rw [hv,← e2,this]
theorem jw.skip {S:Sh}{xs:MM Dt ag}{A:MM Dt Int}{c:Nat}(h:jw S xs A c){x:Nat×Dt×ag}(hx: ¬ (x.2.2.kind=3∧S.eP x.2.2=0)):jw S (xs++[x]) A c:=by
 refine ⟨h.1,fun d v=> ?_⟩
 rw [h.2]
 constructor
 ·rintro ⟨h1,y,h2,h3⟩
  exact ⟨h1,y,List.mem_append_left _ h2,h3⟩
 ·rintro ⟨h1,y,h2,h3,h4⟩
  rcases List.mem_append.1 h2 with h2 | h2
  ·exact ⟨h1,y,h2,h3,h4⟩
  ·rw [List.mem_singleton] at h2
   subst h2
   exact absurd h4 hx
theorem jw.put {S:Sh}{xs:MM Dt ag}{A:MM Dt Int}{c:Nat}(h:jw S xs A c){x:Nat×Dt×ag}(hx:x.2.2.kind=3∧S.eP x.2.2=0):jw S (xs++[x]) (MM.put A c x.2.1 1) (MM.ja A c x.2.1):=by
 refine ⟨MM.jt h.1 _ _,fun d v=> ?_⟩
 rw [MM.fI]
 by_cases e:d=x.2.1
 ·rw [if_pos e]
  constructor
  ·intro h1
   injection h1 with h1
   exact ⟨h1.symm,x,List.mem_append_right _ (List.mem_singleton.2 rfl),e.symm,hx⟩
  ·rintro ⟨rfl,_⟩;rfl
 ·rw [if_neg e,h.2]
  constructor
  ·rintro ⟨h1,y,h2,h3⟩
   exact ⟨h1,y,List.mem_append_left _ h2,h3⟩
  ·rintro ⟨h1,y,h2,h3,h4⟩
   rcases List.mem_append.1 h2 with h2 | h2
   ·exact ⟨h1,y,h2,h3,h4⟩
   ·rw [List.mem_singleton] at h2
    subst h2
    exact absurd h3.symm e
theorem jw.to {S S':Sh}{xs ys:MM Dt ag}{A:MM Dt Int}{c:Nat}(h:jw S xs A c)(hm:∀ x,x∈xs↔x∈ys)(hw:∀ o:ag,o.kind=3→S'.eP o=S.eP o):jw S' ys A c:=by
 refine ⟨h.1,fun d v=> ?_⟩
 rw [h.2]
 constructor
 ·rintro ⟨h1,y,h2,h3,h4,h5⟩
  exact ⟨h1,y,(hm y).1 h2,h3,h4,by rw [hw _ h4];exact h5⟩
 ·rintro ⟨h1,y,h2,h3,h4,h5⟩
  exact ⟨h1,y,(hm y).2 h2,h3,h4,by rw [← hw _ h4];exact h5⟩
theorem nO.skip {S:Sh}{xs:MM Dt ag}{A:MM Dt Dt}{c:Nat}(h:nO S xs A c){x:Nat×Dt×ag}(hx: ¬ (x.2.2.kind=4∧S.eP x.2.2=0)):nO S (xs++[x]) A c:=by
 refine ⟨h.1,fun d v=> ?_⟩
 rw [h.2]
 constructor
 ·rintro ⟨y,h2,h3⟩
  exact ⟨y,List.mem_append_left _ h2,h3⟩
 ·rintro ⟨y,h2,h3,h4,h5,h6⟩
  rcases List.mem_append.1 h2 with h2 | h2
  ·exact ⟨y,h2,h3,h4,h5,h6⟩
  ·rw [List.mem_singleton] at h2
   subst h2
   exact absurd ⟨h4,h5⟩ hx
theorem nO.put {S:Sh}{xs:MM Dt ag}{A:MM Dt Dt}{c:Nat}(h:nO S xs A c){x:Nat×Dt×ag}(hx:x.2.2.kind=4∧S.eP x.2.2=0)(hu:∀ y,y∈xs→y.2.1≠x.2.1):nO S (xs++[x]) (MM.put A c x.2.1 x.2.2.at_) (MM.ja A c x.2.1):=by
 refine ⟨MM.jt h.1 _ _,fun d v=> ?_⟩
 rw [MM.fI]
 by_cases e:d=x.2.1
 ·rw [if_pos e]
  constructor
  ·intro h1
   injection h1 with h1
   exact ⟨x,List.mem_append_right _ (List.mem_singleton.2 rfl),e.symm,hx.1,hx.2,h1.symm⟩
  ·rintro ⟨y,h2,h3,_,_,h6⟩
   rcases List.mem_append.1 h2 with h2 | h2
   ·exact absurd (h3.trans e) (hu y h2)
   ·rw [List.mem_singleton] at h2
    subst h2
    rw [h6]
 ·rw [if_neg e,h.2]
  constructor
  ·rintro ⟨y,h2,h3⟩
   exact ⟨y,List.mem_append_left _ h2,h3⟩
  ·rintro ⟨y,h2,h3,h4⟩
   rcases List.mem_append.1 h2 with h2 | h2
   ·exact ⟨y,h2,h3,h4⟩
   ·rw [List.mem_singleton] at h2
    subst h2
    exact absurd h3.symm e
theorem nO.to {S S':Sh}{xs ys:MM Dt ag}{A:MM Dt Dt}{c:Nat}(h:nO S xs A c)(hm:∀ x,x∈xs↔x∈ys)(hw:∀ o:ag,o.kind=4→S'.eP o=S.eP o):nO S' ys A c:=by
 refine ⟨h.1,fun d v=> ?_⟩
 rw [h.2]
 constructor
 ·rintro ⟨y,h2,h3,h4,h5,h6⟩
  exact ⟨y,(hm y).1 h2,h3,h4,by rw [hw _ h4];exact h5,h6⟩
 ·rintro ⟨y,h2,h3,h4,h5,h6⟩
  exact ⟨y,(hm y).2 h2,h3,h4,by rw [← hw _ h4];exact h5,h6⟩
theorem qu {M xs:MM Dt ag}{c:Nat}(hwf:MM.wf M c)(p1:∀ x,x∈xs→x∈M)(hall:∀ e,e∈aq Dt.cells ov M→(xs.map (·.1)).contains e.1=true):∀ x,x∈xs↔x∈M:=fun x=>⟨p1 x,fun hx=>by
 have:=hall _ (List.mem_map.2 ⟨x,hx,rfl⟩)
 simp only [List.contains_iff_mem] at this
 obtain ⟨z,hz,e⟩:=List.mem_map.1 this
 rw [← MM.tC hwf.times (p1 z hz) hx e];exact hz⟩
theorem oE {M xs:MM Dt ag}(p1:∀ x,x∈xs→x∈M)(p2:(xs.map (·.1)).Nodup){x:Nat×Dt×ag}(hx:x∈M)(hs:(xs.map (·.1)).contains x.1=false):(∀ z,z∈xs++[x]→z∈M)∧((xs++[x]).map (·.1)).Nodup∧x.1∉xs.map (·.1):=by
 have hxt:x.1∉xs.map (·.1):=fun h=>by
  have:(xs.map (·.1)).contains x.1=true:=by simpa only [List.contains_iff_mem] using h
  rw [this] at hs;cases hs
 refine ⟨fun z hz=> ?_,?_,hxt⟩
 ·rcases List.mem_append.1 hz with hz | hz
  ·exact p1 z hz
  ·rw [List.mem_singleton.1 hz];exact hx
 ·rw [List.map_append,List.nodup_append]
  refine ⟨p2,by simp,fun a ha b' hb'=> ?_⟩
  simp only [List.map_cons,List.map_nil,List.mem_singleton] at hb'
  intro e
  exact hxt (by rw [← hb',← e];exact ha)
section
attribute [local irreducible] SW RW aG SC aj an
set_option maxHeartbeats 16000000 in
theorem Gt (l:List ag)(hl:l.length<1000000000)(hd:∀ o,o∈l→o.kind<256∧o.nw):SB Tryz.prog shape_New.f [ops l] [] 0 11 fun r F=>∃ S,cq l S∧r= .ptr 10 0∧F=S.jo:=by
 obtain ⟨a,ca,m,cm,hT⟩:=KH l
 refine shape_New.enter (by first | rfl | simp [SV.ok,SV.av]) (by first | rfl | simp [Hp.ok,Ob.ok,SV.ok,SV.av,aJ.ah]) (by simp) ?_
 dsimp only [shape_New.s,Co.M,Co.G,Co.J,Co.H,Co.N,Co.F,Co.C,Co.Z,Co.B,Co.b8,Co.ay,Co.bz,Co.i6,Co.z8,Co.bC]
 have hN:=hT.LX hl
 refine SW.seq ?_
 refine SW.g0 [0,2,3,5,7,8,9,10,11,19,20,21,22,36,49,51,63,73,75,87] mixed af ?_
 refine SW.seq ?_
 have sp4:cR (cR (cR (cR [SV.d .jB,.d .jq,.d .jq,.d .jq] 0 [.ptr 2 0]) 1 [.mp 7]) 2 [.mp 8]) 3 [.mp 9]=[.ptr 2 0,.mp 7,.mp 8,.mp 9]:=rfl
 refine SW.g1 [0,2,3,5,7,8,9,10,11,19,20,21,22,36,49,51,63,73,75,87] mixed (sp4) hN ?_
 have w0:∀ y,y∈(⟨[],0,[],0,[],0,a,ca,m,cm⟩:Sh).jo→lk [(10,.box 117 [.ptr 2 0,.mp 7,.mp 8,.mp 9]),(9,Ob.map [] 0),(8,.map [] 0),(7,.map [] 0),(2,.box 166 [.mp 0,.mp 1]),(0,.map (aq Dt.cells cv a) ca),(1,.map (aq Dt.cells ov m) cm)] y.1=some y.2:=fun y hy=>by
  simp only [List.mem_cons,List.not_mem_nil,or_false] at hy
  rcases hy with rfl | rfl | rfl | rfl | rfl | rfl | rfl <;> rfl
 refine SW.weak id (st1:=⟨[(0,ops l),(3,.ptr 10 0)],(⟨[],0,[],0,[],0,a,ca,m,cm⟩:Sh).jo,11⟩) (aK.same (by simp) (by simp [aP,List.lookup,SV.aB,SV.ok,SV.av]) (Sh.nj _ (Nat.le_refl 11)) w0) ?_
 refine SW.seq (SW.seq ?_)
 refine SW.g0 [0,2,3,5,7,8,9,10,11,19,20,21,22,36,49,51,63,73,75,87] mixed af ?_
 refine SW.block ?_
 refine SW.loop (α:={i:Nat // i≤l.length}) (fun i=>⟨[(21,i64 i.1),(20,i64 l.length),(19,ops l),(3,.ptr 10 0)],(⟨(firstM (l.take i.1)).1,(firstM (l.take i.1)).2,[],0,[],0,a,ca,m,cm⟩:Sh).jo,11⟩) (fun i=>l.length - i.1) ⟨0,by omega⟩ id (aK.same (by simp) (by simp [aP,List.lookup,SV.aB,SV.ok,SV.av]) (Sh.nj _ (Nat.le_refl 11)) (aH (Sh.KI _))) ?_
 rintro ⟨i,hi⟩
 dsimp only
 by_cases h:i<l.length
 ·have h1:decide ((i:Int)<l.length)=true:=by simp only [decide_eq_true_eq];omega
  obtain ⟨x,hx⟩:=bq h
  have e2:IntKind.i64.wrap ((i:Int)+1)=((i+1:Nat):Int):=wrap_i64 _ (by omega)
  have hsn:=r7 (l.take i) x
  rw [← bR hx] at hsn
  unfold Aw at hsn
  obtain ⟨M,hM⟩:∃ M,(firstM (l.take i)).1=M:=⟨_,rfl⟩
  obtain ⟨c,hc⟩:∃ c,(firstM (l.take i)).2=c:=⟨_,rfl⟩
  rw [hM,hc] at hsn ⊢
  obtain ⟨g,hg⟩:∃ g,(MM.get M x.dot).getD ag.zero=g:=⟨_,rfl⟩
  have hms:=As M c x.dot x
  refine SW.seq ?_
  refine SW.g0 [0,2,3,5,7,8,9,10,11,19,20,21,22,36,49,51,63,73,75,87] mixed (h1) ?_
  refine SW.seq (SW.ak rfl (SW.skip ?_))
  refine SW.seq (SW.block (SW.seq ?_))
  refine SW.g0 [0,2,3,5,7,8,9,10,11,19,20,21,22,36,49,51,63,73,75,87] mixed (And.intro (ox hx) (And.intro (lM hx) (And.intro (vl hx) (nI hx)))) ?_
  refine SW.seq ?_
  rcases hh:MM.has M x.dot with _ | _
  ·rw [hh] at hsn
   simp only [Bool.false_eq_true,if_false] at hsn
   refine SW.g0 [0,2,3,5,7,8,9,10,11,19,20,21,22,36,49,51,63,73,75,87] mixed (And.intro (hh) (hg)) ?_
   refine SW.seq ?_
   refine SW.g0 [0,2,3,5,7,8,9,10,11,19,20,21,22,36,49,51,63,73,75,87] mixed af ?_
   refine SW.ak rfl ?_
   refine SW.g0 [0,2,3,5,7,8,9,10,11,19,20,21,22,36,49,51,63,73,75,87] mixed (hms) ?_
   refine SW.g0 [0,2,3,5,7,8,9,10,11,19,20,21,22,36,49,51,63,73,75,87] mixed (e2) ?_
   refine ⟨⟨i+1,by omega⟩,id,by show l.length - (i+1)<l.length - i;omega,?_⟩
   dsimp only
   rw [hsn]
   refine aK.same (by simp) (by simp [aP,List.lookup,SV.aB,SV.ok,SV.av]) (Sh.nj _ (Nat.le_refl 11)) (fun y hy=> ?_)
   simp only [List.mem_cons,List.not_mem_nil,or_false] at hy
   rcases hy with rfl | rfl | rfl | rfl | rfl | rfl | rfl <;> rfl
  ·rw [hh] at hsn
   simp only [if_true] at hsn
   refine SW.g0 [0,2,3,5,7,8,9,10,11,19,20,21,22,36,49,51,63,73,75,87] mixed (And.intro (hh) (hg)) ?_
   refine SW.seq ?_
   refine SW.g0 [0,2,3,5,7,8,9,10,11,19,20,21,22,36,49,51,63,73,75,87] mixed af ?_
   refine SW.ai rfl (SW.skip ?_)
   refine SW.g0 [0,2,3,5,7,8,9,10,11,19,20,21,22,36,49,51,63,73,75,87] mixed (e2) ?_
   refine ⟨⟨i+1,by omega⟩,id,by show l.length - (i+1)<l.length - i;omega,?_⟩
   dsimp only
   rw [hsn,hM,hc]
   refine aK.same (by simp) (by simp [aP,List.lookup,SV.aB,SV.ok,SV.av]) (Sh.nj _ (Nat.le_refl 11)) (fun y hy=> ?_)
   simp only [List.mem_cons,List.not_mem_nil,or_false] at hy
   rcases hy with rfl | rfl | rfl | rfl | rfl | rfl | rfl <;> rfl
 have h1:decide ((i:Int)<l.length)=false:=by simp only [decide_eq_false_iff_not];omega
 have hi2:i=l.length:=by omega
 subst hi2
 rw [List.take_length]
 have hF:=D1 l
 obtain ⟨M,hM⟩:∃ M,(firstM l).1=M:=⟨_,rfl⟩
 obtain ⟨c,hc⟩:∃ c,(firstM l).2=c:=⟨_,rfl⟩
 rw [hM,hc] at hF ⊢
 refine SW.seq ?_
 refine SW.g0 [0,2,3,5,7,8,9,10,11,19,20,21,22,36,49,51,63,73,75,87] mixed (h1) ?_
 refine SW.seq (SW.ai rfl (SW.exit ?_))
 refine (?_:Sl.SW _ _ _ _ _ _)
 refine SW.weak id (st1:=⟨[(3,.ptr 10 0)],(⟨M,c,[],0,[],0,a,ca,m,cm⟩:Sh).jo,11⟩) (aK.same (by simp) (by simp [aP,List.lookup,SV.aB,SV.ok,SV.av]) (Sh.nj _ (Nat.le_refl 11)) (aH (Sh.KI _))) ?_
 obtain ⟨S,hS⟩:∃ S:Sh,(⟨M,c,[],0,[],0,a,ca,m,cm⟩:Sh)=S:=⟨_,rfl⟩
 have hB:iZ l S:=by
  rw [← hS]
  have hnew:=hT.new
  have ht:=zp l 0
  rw [hnew] at ht
  refine ⟨hF,⟨ht.cr,ht.no⟩,fun d=> ?_,(congrArg Tr.at_ hnew).symm,(congrArg Tr.made hnew).symm⟩
  obtain ⟨L,h2,h3,_⟩:=ht.uG d
  exact ⟨L,h2,h3⟩
 rw [hS]
 have hwf:=hB.ops.wf
 have hkd:∀ x,x∈S.ops→x.2.2.kind<256∧x.2.2.nw:=fun x hx=>by
  have h1:=oD hwf.keys hx
  rw [hB.ops.get] at h1
  exact hd _ (rC h1)
 have hSa:({ S with gB:=[],ca:=0}:Sh)=S∧S.nA=[]∧S.cl=0:=by rw [← hS];exact ⟨rfl,rfl,rfl⟩
 clear hS hN hT w0 hF hM hc
 refine SW.seq (SW.seq ?_)
 refine SW.g0 [0,2,3,5,7,8,9,10,11,19,20,21,22,36,49,51,63,73,75,87] mixed af ?_
 refine SW.block ?_
 refine SW.ou (es:=fun _=>aq Dt.cells ov S.ops) (c:=fun _=>S.co) (sI:=fun _=>11) (nm:=fun _=>7) (since:=fun _=>S.co) (zc:=fun _=>S.co)
  (α:={p:MM Dt ag×MM Dt Int×Nat // (∀ x,x∈p.1→x∈S.ops)∧(p.1.map (·.1)).Nodup∧jw S p.1 p.2.1 p.2.2})
  (fun p=>⟨[(49,.it 11),(3,.ptr 10 0)],(11,.iter (some 7) S.co (p.1.1.map (·.1)) S.co)::({ S with gB:=p.1.2.1,ca:=p.1.2.2}:Sh).jo,12⟩)
  (fun p=>gu (aq Dt.cells ov S.ops) (p.1.1.map (·.1))) ⟨([],[],0),by simp,by simp,MM.k_,fun d v=>by simp [MM.get]⟩ id (seen:=fun p=>p.1.1.map (·.1)) ?_ (fun p=>by simp [List.lookup]) (fun p=>by simp [aa]) (fun p=>by simp [aa]) (fun p=>by decide) (fun p e he=> ?_) (fun p=>Nat.le_refl _) (fun p hall=> ?_) (fun p e he hs=> ?_)
 ·show aK 0 _ ⟨[(49,.it 11),(3,.ptr 10 0)],(11,.iter (some 7) S.co [] S.co)::({ S with gB:=[],ca:=0}:Sh).jo,12⟩ id
  rw [hSa.1]
  exact aK.same (by simp) (by simp [aP,List.lookup,SV.aB,SV.ok,SV.av]) (au (by simp) (by simp [Ob.ok]) (Sh.nj _ (show 11≤12 by omega))) (aH (by simp))
 ·obtain ⟨x,hx,rfl⟩:=dX he
  exact hwf.old x hx
 ·obtain ⟨⟨xs,A,ac⟩,p1,p2,p3⟩:=p
  dsimp only at*
  have hxs:=qu hwf p1 hall
  refine ⟨⟨[(3,.ptr 10 0)],({ S with gB:=A,ca:=ac}:Sh).jo,11⟩,id,aK.same (by simp) (by simp [aP,List.lookup,SV.aB,SV.ok,SV.av]) (Sh.nj _ (Nat.le_refl 11)) (fun y hy=>by
   simp only [List.mem_cons,List.not_mem_nil,or_false] at hy
   rcases hy with rfl | rfl | rfl | rfl | rfl | rfl | rfl <;> rfl),?_⟩
  rw [if_pos rfl]
  obtain ⟨S1,uE⟩:∃ S1:Sh,({ S with gB:=A,ca:=ac}:Sh)=S1:=⟨_,rfl⟩
  have hB1:iZ l S1:=by rw [← uE];exact ⟨hB.ops,⟨hB.tok.cr,hB.tok.no⟩,hB.uG,hB.tr,hB.md⟩
  have hA1:jw S1 S1.ops S1.gB S1.ca:=by
   rw [← uE]
   exact p3.to hxs fun o ho=>S.rF A ac S.nA S.cl ho
  have hops:S1.ops=S.ops∧S1.co=S.co:=by rw [← uE];exact ⟨rfl,rfl⟩
  have hSb:({ S1 with nA:=[],cl:=0}:Sh)=S1:=by
   rw [← uE]
   have h2:=hSa.2.1
   have h3:=hSa.2.2
   cases S
   dsimp only at h2 h3 ⊢
   rw [h2,h3]
  rw [uE]
  have hwf1:=hB1.ops.wf
  have hkd1:∀ x,x∈S1.ops→x.2.2.kind<256∧x.2.2.nw:=fun x hx=>hkd x (by rw [← hops.1];exact hx)
  refine SW.seq (SW.seq ?_)
  refine SW.g0 [0,2,3,5,7,8,9,10,11,19,20,21,22,36,49,51,63,73,75,87] mixed af ?_
  refine SW.block ?_
  refine SW.ou (es:=fun _=>aq Dt.cells ov S1.ops) (c:=fun _=>S1.co) (sI:=fun _=>11) (nm:=fun _=>7) (since:=fun _=>S1.co) (zc:=fun _=>S1.co)
   (α:={p:MM Dt ag×MM Dt Dt×Nat // (∀ x,x∈p.1→x∈S1.ops)∧(p.1.map (·.1)).Nodup∧nO S1 p.1 p.2.1 p.2.2})
   (fun p=>⟨[(73,.it 11),(3,.ptr 10 0)],(11,.iter (some 7) S1.co (p.1.1.map (·.1)) S1.co)::({ S1 with nA:=p.1.2.1,cl:=p.1.2.2}:Sh).jo,12⟩)
   (fun p=>gu (aq Dt.cells ov S1.ops) (p.1.1.map (·.1))) ⟨([],[],0),by simp,by simp,MM.k_,fun d v=>by simp [MM.get]⟩ id (seen:=fun p=>p.1.1.map (·.1)) ?_ (fun p=>by simp [List.lookup]) (fun p=>by simp [aa]) (fun p=>by simp [aa]) (fun p=>by decide) (fun p e he=> ?_) (fun p=>Nat.le_refl _) (fun p hall=> ?_) (fun p e he hs=> ?_)
  ·show aK 0 _ ⟨[(73,.it 11),(3,.ptr 10 0)],(11,.iter (some 7) S1.co [] S1.co)::({ S1 with nA:=[],cl:=0}:Sh).jo,12⟩ id
   rw [hSb]
   exact aK.same (by simp) (by simp [aP,List.lookup,SV.aB,SV.ok,SV.av]) (au (by simp) (by simp [Ob.ok]) (Sh.nj _ (show 11≤12 by omega))) (aH (by simp))
  ·obtain ⟨x,hx,rfl⟩:=dX he
   exact hwf1.old x hx
  ·obtain ⟨⟨xs2,B,bc⟩,r1,r2,r3⟩:=p
   dsimp only at*
   have hxs2:=qu hwf1 r1 hall
   refine ⟨⟨[(3,.ptr 10 0)],({ S1 with nA:=B,cl:=bc}:Sh).jo,11⟩,id,aK.same (by simp) (by simp [aP,List.lookup,SV.aB,SV.ok,SV.av]) (Sh.nj _ (Nat.le_refl 11)) (fun y hy=>by
    simp only [List.mem_cons,List.not_mem_nil,or_false] at hy
    rcases hy with rfl | rfl | rfl | rfl | rfl | rfl | rfl <;> rfl),?_⟩
   rw [if_pos rfl]
   refine SW.seq ?_
   refine SW.g0 [0,2,3,5,7,8,9,10,11,19,20,21,22,36,49,51,63,73,75,87] mixed af ?_
   refine SW.ret ?_
   refine End.mk ({ S1 with nA:=B,cl:=bc}:Sh).jo (h4:=⟨{ S1 with nA:=B,cl:=bc},⟨⟨hB1.ops,⟨hB1.tok.cr,hB1.tok.no⟩,hB1.uG,hB1.tr,hB1.md⟩,hA1.to (fun _=>Iff.rfl) fun o ho=> ?_,r3.to hxs2 fun o ho=>S1.xZ B bc ho⟩,rfl,rfl⟩) (h6:=Sh.nj _ (Nat.le_refl 11))
   exact S1.rF S1.gB S1.ca B bc ho
  ·obtain ⟨⟨xs,B,bc⟩,p1,p2,p3⟩:=p
   dsimp only at*
   obtain ⟨x,hx,rfl⟩:=dX he
   dsimp only at hs
   have g5:(xs.map (·.1)++[x.1]).getLast? =some x.1:=by simp
   have g6:=jM (kc:=Dt.cells) (vs:=ov) hwf1.times hx
   have eov:∀ o,ov o= .agg o.cells:=fun _=>rfl
   obtain ⟨q1,q2,hxt⟩:=oE p1 p2 hx hs
   have hu:∀ y,y∈xs→y.2.1≠x.2.1:=fun y hy e=>by
    have h1:=oD hwf1.keys (p1 y hy)
    have h2:=oD hwf1.keys hx
    have hp:=List.nodup_iff_pairwise_ne.1 hwf1.keys
    unfold MM.keys at hp
    rw [List.pairwise_map] at hp
    obtain ⟨i,hi,e1⟩:=List.getElem_of_mem (p1 y hy)
    obtain ⟨j,hj,e2⟩:=List.getElem_of_mem hx
    rcases Nat.lt_trichotomy i j with h | h | h
    ·exact List.pairwise_iff_getElem.1 hp i j hi hj h (by rw [e1,e2];exact e)
    ·subst h
     exact hxt (List.mem_map.2 ⟨y,hy,by rw [← e1,← e2]⟩)
    ·exact List.pairwise_iff_getElem.1 hp j i hj hi h (by rw [e1,e2];exact e.symm)
   have em:(xs++[x]).map (·.1)=xs.map (·.1)++[x.1]:=by simp
   have hm:=jN he hs
   obtain ⟨k1,k2⟩:=hkd1 x hx
   rw [iV]
   refine SW.block (SW.seq ?_)
   refine SW.g0 [0,2,3,5,7,8,9,10,11,19,20,21,22,36,49,51,63,73,75,87] mixed (And.intro (g5) (And.intro (g6) (eov))) ?_
   refine SW.seq ?_
   by_cases h3:x.2.2.kind=4
   ·have z3:(((x.2.2.kind:Nat):Int) == 4)=true:=by rw [h3];rfl
    have hw:∀ k,aG Tryz.prog shape_Shape_Why.f [.ptr 10 0,.agg x.2.2.cells] ({ S1 with nA:=B,cl:=bc}:Sh).jo k 0 (i64 (S1.eP x.2.2)) ({ S1 with nA:=B,cl:=bc}:Sh).jo:=fun k=>by
     have:=Sh.HV { S1 with nA:=B,cl:=bc} hB1.uG x.2.2 k1 k2 k
     rw [show Sh.eP { S1 with nA:=B,cl:=bc} x.2.2=S1.eP x.2.2 from S1.xZ B bc h3] at this
     exact this
    by_cases h0:S1.eP x.2.2=0
    ·have z0:(((S1.eP x.2.2:Nat):Int) == 0)=true:=by rw [h0];rfl
     refine SW.g1 [0,2,3,5,7,8,9,10,11,19,20,21,22,36,49,51,63,73,75,87] mixed (And.intro (z3) (z0)) hw ?_
     refine SW.ak rfl ?_
     refine SW.g0 [0,2,3,5,7,8,9,10,11,19,20,21,22,36,49,51,63,73,75,87] mixed (Gh B bc x.2.1 x.2.2.at_) ?_
     refine ⟨⟨(xs++[x],MM.put B bc x.2.1 x.2.2.at_,MM.ja B bc x.2.1),q1,q2,p3.put ⟨h3,h0⟩ hu⟩,id,by rw [em];exact hm,?_⟩
     dsimp only
     rw [em]
     refine aK.same (by simp) (by simp [aP,List.lookup,SV.aB,SV.ok,SV.av]) (au (by simp) (by simp [Ob.ok]) (Sh.nj _ (show 11≤12 by omega))) (fun y hy=> ?_)
     simp only [List.mem_cons,List.not_mem_nil,or_false] at hy
     rcases hy with rfl | rfl | rfl | rfl | rfl | rfl | rfl | rfl <;> rfl
    ·
     have z0:(((S1.eP x.2.2:Nat):Int) == 0)=false:=by simpa using h0
     refine SW.g1 [0,2,3,5,7,8,9,10,11,19,20,21,22,36,49,51,63,73,75,87] mixed (And.intro (z3) (z0)) hw ?_
     refine SW.ai rfl (SW.skip ?_)
     refine ⟨⟨(xs++[x],B,bc),q1,q2,p3.skip fun h=>h0 h.2⟩,id,by rw [em];exact hm,?_⟩
     dsimp only
     rw [em]
     refine aK.same (by simp) (by simp [aP,List.lookup,SV.aB,SV.ok,SV.av]) (au (by simp) (by simp [Ob.ok]) (Sh.nj _ (show 11≤12 by omega))) (fun y hy=> ?_)
     simp only [List.mem_cons,List.not_mem_nil,or_false] at hy
     rcases hy with rfl | rfl | rfl | rfl | rfl | rfl | rfl | rfl <;> rfl
   ·have z3:(((x.2.2.kind:Nat):Int) == 4)=false:=by simp;omega
    refine SW.g0 [0,2,3,5,7,8,9,10,11,19,20,21,22,36,49,51,63,73,75,87] mixed (z3) ?_
    refine SW.ai rfl (SW.skip ?_)
    refine ⟨⟨(xs++[x],B,bc),q1,q2,p3.skip fun h=>h3 h.1⟩,id,by rw [em];exact hm,?_⟩
    dsimp only
    rw [em]
    refine aK.same (by simp) (by simp [aP,List.lookup,SV.aB,SV.ok,SV.av]) (au (by simp) (by simp [Ob.ok]) (Sh.nj _ (show 11≤12 by omega))) (fun y hy=> ?_)
    simp only [List.mem_cons,List.not_mem_nil,or_false] at hy
    rcases hy with rfl | rfl | rfl | rfl | rfl | rfl | rfl | rfl <;> rfl
 ·obtain ⟨⟨xs,A,ac⟩,p1,p2,p3⟩:=p
  dsimp only at*
  obtain ⟨x,hx,rfl⟩:=dX he
  dsimp only at hs
  have g5:(xs.map (·.1)++[x.1]).getLast? =some x.1:=by simp
  have g6:=jM (kc:=Dt.cells) (vs:=ov) hwf.times hx
  have eov:∀ o,ov o= .agg o.cells:=fun _=>rfl
  obtain ⟨q1,q2,_⟩:=oE p1 p2 hx hs
  have em:(xs++[x]).map (·.1)=xs.map (·.1)++[x.1]:=by simp
  have hm:=jN he hs
  obtain ⟨k1,k2⟩:=hkd x hx
  rw [iV]
  refine SW.block (SW.seq ?_)
  refine SW.g0 [0,2,3,5,7,8,9,10,11,19,20,21,22,36,49,51,63,73,75,87] mixed (And.intro (g5) (And.intro (g6) (eov))) ?_
  refine SW.seq ?_
  by_cases h3:x.2.2.kind=3
  ·have z3:(((x.2.2.kind:Nat):Int) == 3)=true:=by rw [h3];rfl
   have hw:∀ k,aG Tryz.prog shape_Shape_Why.f [.ptr 10 0,.agg x.2.2.cells] ({ S with gB:=A,ca:=ac}:Sh).jo k 0 (i64 (S.eP x.2.2)) ({ S with gB:=A,ca:=ac}:Sh).jo:=fun k=>by
    have:=Sh.HV { S with gB:=A,ca:=ac} hB.uG x.2.2 k1 k2 k
    rw [show Sh.eP { S with gB:=A,ca:=ac} x.2.2=S.eP x.2.2 from S.rF A ac S.nA S.cl h3] at this
    exact this
   by_cases h0:S.eP x.2.2=0
   ·have z0:(((S.eP x.2.2:Nat):Int) == 0)=true:=by rw [h0];rfl
    refine SW.g1 [0,2,3,5,7,8,9,10,11,19,20,21,22,36,49,51,63,73,75,87] mixed (And.intro (z3) (z0)) hw ?_
    refine SW.ak rfl ?_
    refine SW.g0 [0,2,3,5,7,8,9,10,11,19,20,21,22,36,49,51,63,73,75,87] mixed af ?_
    refine ⟨⟨(xs++[x],MM.put A ac x.2.1 1,MM.ja A ac x.2.1),q1,q2,p3.put ⟨h3,h0⟩⟩,id,by rw [em];exact hm,?_⟩
    dsimp only
    rw [em]
    refine aK.same (by simp) (by simp [aP,List.lookup,SV.aB,SV.ok,SV.av]) (au (by simp) (by simp [Ob.ok]) (Sh.nj _ (show 11≤12 by omega))) (fun y hy=> ?_)
    simp only [List.mem_cons,List.not_mem_nil,or_false] at hy
    rcases hy with rfl | rfl | rfl | rfl | rfl | rfl | rfl | rfl <;> rfl
   ·
    have z0:(((S.eP x.2.2:Nat):Int) == 0)=false:=by simpa using h0
    refine SW.g1 [0,2,3,5,7,8,9,10,11,19,20,21,22,36,49,51,63,73,75,87] mixed (And.intro (z3) (z0)) hw ?_
    refine SW.ai rfl (SW.skip ?_)
    refine ⟨⟨(xs++[x],A,ac),q1,q2,p3.skip fun h=>h0 h.2⟩,id,by rw [em];exact hm,?_⟩
    dsimp only
    rw [em]
    refine aK.same (by simp) (by simp [aP,List.lookup,SV.aB,SV.ok,SV.av]) (au (by simp) (by simp [Ob.ok]) (Sh.nj _ (show 11≤12 by omega))) (fun y hy=> ?_)
    simp only [List.mem_cons,List.not_mem_nil,or_false] at hy
    rcases hy with rfl | rfl | rfl | rfl | rfl | rfl | rfl | rfl <;> rfl
  ·have z3:(((x.2.2.kind:Nat):Int) == 3)=false:=by simp;omega
   refine SW.g0 [0,2,3,5,7,8,9,10,11,19,20,21,22,36,49,51,63,73,75,87] mixed (z3) ?_
   refine SW.ai rfl (SW.skip ?_)
   refine ⟨⟨(xs++[x],A,ac),q1,q2,p3.skip fun h=>h3 h.1⟩,id,by rw [em];exact hm,?_⟩
   dsimp only
   rw [em]
   refine aK.same (by simp) (by simp [aP,List.lookup,SV.aB,SV.ok,SV.av]) (au (by simp) (by simp [Ob.ok]) (Sh.nj _ (show 11≤12 by omega))) (fun y hy=> ?_)
   simp only [List.mem_cons,List.not_mem_nil,or_false] at hy
   rcases hy with rfl | rfl | rfl | rfl | rfl | rfl | rfl | rfl <;> rfl
end
end
section
def m_ (S:Sh):Prop:=∀ d o,MM.get S.ops d=some o→o.kind<256∧o.nw∧o.cl.length≤1048576
noncomputable def Sh.good (S:Sh)(d:Dt):Bool:=MM.has S.ops d && decide (S.eP (S.op d)=0)
theorem KJ (o:ag):cR o.cells 28 [.d o.lines]=o.cells:=rfl
section
attribute [local irreducible] SW RW aG SC aj an
theorem Bk (cl:List Cm)(hl:cl.length≤1048576):Go.Sl.Pure Tryz.prog slices_Clone_Lapi_Claim_api_Claim.f [.d (.sl cl.length (cl.flatMap Cm.ds))] (.d (.sl cl.length (cl.flatMap Cm.ds))):=by
 refine slices_Clone_Lapi_Claim_api_Claim.enter (by first | rfl | simp [SV.ok,SV.av]) (by first | rfl | simp [Hp.ok,Ob.ok,SV.ok,SV.av,aJ.ah]) (by simp) ?_
 dsimp only [slices_Clone_Lapi_Claim_api_Claim.s,Co.M,Co.G,Co.J,Co.H,Co.N,Co.F,Co.C,Co.Z,Co.B,Co.b8,Co.ay,Co.bz,Co.i6,Co.z8,Co.bC]
 refine SW.seq ?_
 refine SW.g0 [0,2,4] mixed af ?_
 refine SW.seq (SW.seq (SW.Km (n:=cl.length) (cs:=cl.flatMap Cm.ds) rfl ?_ fun h0=> ?_))
 ·refine SW.ai rfl (SW.skip ?_)
  refine (?_:Sl.SW _ _ _ _ _ _)
  refine SW.seq ?_
  have hlen:cl.length*4=cl.length*4:=rfl
  refine SW.g0 [0,2,4] mixed af ?_
  refine SW.freeze 1 (cl.flatMap Cm.ds) rfl (by simp) ?_
  simp only [iP,SV.gp,List.map_cons,List.map_nil,if_true,if_false,reduceIte,bS,Nat.reduceEqDiff]
  refine SW.ret ?_
  exact End.mk [] (h4:=⟨by simp [ej],rfl⟩)
 ·have hl0:cl=[]:=List.eq_nil_of_length_eq_zero h0
  subst hl0
  refine SW.ak rfl (SW.seq ?_)
  refine SW.g0 [0,2,4] mixed af ?_
  refine SW.aD 2 rfl ?_
  refine SW.ret ?_
  exact End.mk [] (h4:=⟨rfl,rfl⟩)
theorem Bl:Go.Sl.Pure Tryz.prog slices_Clone_Lapi_Claim_api_Claim.f [.d .aD] (.d .aD):=by
 refine slices_Clone_Lapi_Claim_api_Claim.enter (by first | rfl | simp [SV.ok,SV.av]) (by first | rfl | simp [Hp.ok,Ob.ok,SV.ok,SV.av,aJ.ah]) (by simp) ?_
 dsimp only [slices_Clone_Lapi_Claim_api_Claim.s,Co.M,Co.G,Co.J,Co.H,Co.N,Co.F,Co.C,Co.Z,Co.B,Co.b8,Co.ay,Co.bz,Co.i6,Co.z8,Co.bC]
 (repeat (first | refine SW.seq ?_ | refine SW.block ?_ | refine SW.g0 [0,2,4] mixed af ?_ | refine SW.skip ?_ | refine SW.exit ?_ | refine SW.ret ?_ | refine SW.ak rfl ?_ | refine SW.ai rfl ?_))
 exact End.mk [] (h4:=⟨rfl,rfl⟩)
theorem I_ (S:Sh)(hs:m_ S)(d:Dt)(k:Nat):aG Tryz.prog slices_Clone_Lapi_Claim_api_Claim.f [.d (S.op d).lines] [] k 0 (.d (S.op d).lines) []:=by
 unfold Sh.op
 cases h:MM.get S.ops d with
 | none=>exact Bl.sc rfl k
 | some o=>
  obtain ⟨_,h1,h2⟩:=hs d o h
  have:=(Bk o.cl h2).sc rfl k
  rwa [← h1.eq] at this
set_option maxHeartbeats 4000000 in
theorem D2 (S:Sh)(hs:m_ S)(d:Dt):SB Tryz.prog shape_Shape_Op.f [.ptr 0 0,.agg d.cells] S.h0 7 0 fun r F=>r= .cN [.agg (S.op d).cells,bl (MM.has S.ops d)]∧F=S.h0:=by
 refine shape_Shape_Op.enter (by simp [SV.av,SV.ok]) (S.ok (Nat.le_refl 7)) (by simp) ?_
 dsimp only [shape_Shape_Op.s,Co.M,Co.G,Co.J,Co.H,Co.N,Co.F,Co.C,Co.Z,Co.B,Co.b8,Co.ay,Co.bz,Co.i6,Co.z8,Co.bC]
 have hn:=sM S
 have hc:=I_ S hs d
 obtain ⟨o,ho⟩:∃ o,S.op d=o:=⟨_,rfl⟩
 have hg:(MM.get S.ops d).getD ag.zero=o:=ho
 rw [ho] at hc ⊢
 have Mp:=KJ o
 refine SW.seq ?_
 refine SW.g0 [0,1,3,4,5,6,7,9] mixed af ?_
 refine SW.seq (SW.seq ?_)
 refine SW.g1 [0,1,3,4,5,6,7,9] mixed af hn ?_
 refine SW.ai rfl (SW.skip ?_)
 refine SW.seq ?_
 refine SW.g0 [0,1,3,4,5,6,7,9] mixed (hg) ?_
 refine SW.seq ?_
 refine SW.g1 [0,1,3,4,5,6,7,9] mixed (Mp) hc ?_
 refine SW.seq ?_
 refine SW.g0 [0,1,3,4,5,6,7,9] mixed af ?_
 refine SW.ret ?_
 exact End.mk S.h0 (h4:=⟨rfl,rfl⟩) (h6:=S.ok (Nat.le_refl 7))
theorem KL (S:Sh)(hs:m_ S)(d:Dt)(k:Nat):aG Tryz.prog shape_Shape_Op.f [.ptr 0 0,.agg d.cells] S.h0 k 0 (.cN [.agg (S.op d).cells,bl (MM.has S.ops d)]) S.h0:=
 S.at_ (D2 S hs d) (fun ρ=>by simp [SV.aX,SV.aB,Dt.ax]) (fun ρ=>by simp [SV.aX,SV.aB,ag.ax]) n0 qq k
set_option maxHeartbeats 4000000 in
theorem D3 (S:Sh)(hu:S.uG)(hs:m_ S)(d:Dt):SB Tryz.prog shape_Shape_Good.f [.ptr 0 0,.agg d.cells] S.h0 7 0 fun r F=>r=bl (S.good d)∧F=S.h0:=by
 refine shape_Shape_Good.enter (by simp [SV.av,SV.ok]) (S.ok (Nat.le_refl 7)) (by simp) ?_
 dsimp only [shape_Shape_Good.s,Co.M,Co.G,Co.J,Co.H,Co.N,Co.F,Co.C,Co.Z,Co.B,Co.b8,Co.ay,Co.bz,Co.i6,Co.z8,Co.bC]
 have hc:=KL S hs d
 obtain ⟨o,ho⟩:∃ o,S.op d=o:=⟨_,rfl⟩
 have hG:S.good d=(MM.has S.ops d && decide (S.eP o=0)):=by unfold Sh.good;rw [ho]
 rw [ho] at hc
 refine SW.seq ?_
 refine SW.g0 [0,1,3,4,5,6] mixed af ?_
 refine SW.seq ?_
 refine SW.g1 [0,1,3,4,5,6] mixed af hc ?_
 refine SW.seq ?_
 rcases h:MM.has S.ops d with _ | _
 ·refine SW.g0 [0,1,3,4,5,6] mixed af ?_
  refine SW.ret ?_
  exact End.mk S.h0 (h4:=⟨by rw [hG,h];rfl,rfl⟩) (h6:=S.ok (Nat.le_refl 7))
 obtain ⟨o',ho'⟩:=Option.isSome_iff_exists.1 (show (MM.get S.ops d).isSome=true from h)
 have e:o'=o:=by rw [← ho];unfold Sh.op;rw [ho'];rfl
 subst e
 obtain ⟨k1,k2,_⟩:=hs d o' ho'
 have hw:∀ k,aG Tryz.prog shape_Shape_Why.f [.ptr 0 0,.agg o'.cells] S.h0 k 0 (i64 (S.eP o')) S.h0:=fun k=>S.KG hu o' k1 k2 n0 qq k
 have hz:(((S.eP o':Nat):Int) == 0)=decide (S.eP o'=0):=by rw [Bool.eq_iff_iff];simp
 refine SW.g1 [0,1,3,4,5,6] mixed (hz) hw ?_
 refine SW.ret ?_
 exact End.mk S.h0 (h4:=⟨by rw [hG,h];simp [ej],rfl⟩) (h6:=S.ok (Nat.le_refl 7))
theorem D4 (S:Sh)(hu:S.uG)(hs:m_ S)(d:Dt)(n:Sn)(hn:n.ok)(k:Nat):aG Tryz.prog shape_Shape_Good.f [.ptr n.b 0,.agg d.cells] (S.hp n) k 0 (bl (S.good d)) (S.hp n):=
 S.at_ (D3 S hu hs d) (fun ρ=>by simp [SV.aX,SV.aB,Dt.ax]) (fun _=>rfl) n hn k
end
end
section
def jx (l:List ag)(d:Dt):ag:=(aT l d).getD ag.zero
def nq (l:List ag)(d:Dt)(o:ag):Bool:=(aT l d).isSome && (jx l d).before o
def oZ (l:List ag)(o:ag):Bool:=if o.kind=0 then decide (o.aQ=o.dot) else (aT l o.aQ).isSome && (decide ((jx l o.aQ).kind=0) && (decide ((jx l o.aQ).aQ=(jx l o.aQ).dot) && (jx l o.aQ).before o))
def pL (l:List ag)(tr:MM Dt Cr)(d:Dt)(o:ag):Bool:=MM.has tr d && (decide (((MM.get tr d).getD Cr.zero).aQ=o.aQ) && nq l d o)
def Ax (tr:MM Dt Cr)(md:MM Dt ag)(o:ag):Nat:=Tr.why ⟨0,1,2,tr,0,md,0⟩ o
def iE (l:List ag)(tr:MM Dt Cr)(md:MM Dt ag)(o:ag)(t:Bool):Nat:=
 if decide ((o.kind:Int)>8) then 2 else if !oZ l o then 271 else if !((o.kind:Int) == 0) && !pL l tr o.aV o then 272 else if !((o.kind:Int) == 0) && ((((MM.get tr o.aV).getD Cr.zero).hold:Int) != (o.who:Int)) then 273
 else if lP ((MM.get tr o.aV).getD Cr.zero) o.kind then 274 else if decide (o.kind=1) && decide (Ax tr md o≠0) then 275 else if !t then 276 else 0
def Gu (l:List ag)(tr:MM Dt Cr)(md:MM Dt ag)(d:Dt):Bool:=match aT l d with
 | some o=>decide (o.kind=3) && decide (iE l tr md o true=0)
 | none=>false
def lQ (l:List ag)(tr:MM Dt Cr)(md:MM Dt ag)(d:Dt)(o:ag):Bool:=Gu l tr md d && (decide ((jx l d).aQ=o.aQ) && nq l d o)
def D5 (l:List ag)(tr:MM Dt Cr)(md:MM Dt ag)(d:Dt):Option Dt:=match aT l d with
 | some o=>if o.kind=4∧iE l tr md o (lQ l tr md o.at_ o)=0 then some o.at_ else none
 | none=>none
def nP (l:List ag)(tr:MM Dt Cr)(md:MM Dt ag)(c:Cm)(o:ag):Bool:=lQ l tr md c.line o && (decide (c.kH=c.line) || ((D5 l tr md c.kH).isSome && (decide ((D5 l tr md c.kH).getD ⟨0,0⟩=c.line) && nq l c.kH o)))
def nQ (l:List ag)(tr:MM Dt Cr)(md:MM Dt ag)(o:ag)(ab:Bool):Bool:=
 if o.kind=2 then pL l tr o.at_ o && ab else if o.kind=4∨o.kind=5 then lQ l tr md o.at_ o else if o.kind=6∨o.kind=7 then nP l tr md ⟨o.at_,o.kH⟩ o else if o.kind=8 then !(o.cl.any fun c=> !nP l tr md c o) else true
def sA (l:List ag)(tr:MM Dt Cr)(md:MM Dt ag)(o:ag)(ab:Bool):Nat:=iE l tr md o (nQ l tr md o ab)
section
variable {l:List ag} {S:Sh} (hB:iZ l S)
include hB
theorem iZ.op (d:Dt):S.op d=jx l d:=by unfold Sh.op jx;rw [hB.ops.get]
theorem iZ.has (d:Dt):MM.has S.ops d=(aT l d).isSome:=by unfold MM.has;rw [hB.ops.get]
theorem iZ.wv (d:Dt)(o:ag):S.wv d o=nq l d o:=by unfold Sh.wv nq;rw [hB.op,hB.has]
theorem iZ.aQ (o:ag):S.aQ o=oZ l o:=by unfold Sh.aQ oZ;rw [hB.op,hB.has]
theorem iZ.yG (d:Dt)(o:ag):S.yG d o=pL l S.tr d o:=by unfold Sh.yG pL Sh.cr;rw [hB.wv]
theorem iZ.LY (o:ag):S.T.why o=Ax S.tr S.md o:=rfl
theorem iZ.why (o:ag)(ab:Bool):S.why o ab=iE l S.tr S.md o (S.tgt o ab):=by
 unfold Sh.why iE
 rw [← hB.aQ,← hB.yG,← hB.LY]
 rfl
end
theorem iZ.KM {l:List ag}{S:Sh}(hB:iZ l S){o:ag}(hk:o.kind=3):S.eP o=iE l S.tr S.md o true:=by
 unfold Sh.eP
 rw [hB.why]
 have:S.tgt o (S.Fj o.aV o.at_)=true:=by unfold Sh.tgt;rw [if_neg (by omega),if_neg (by omega),if_neg (by omega),if_neg (by omega)]
 rw [this]
section
variable {l:List ag} {S:Sh} (h:cq l S)
include h
theorem cq.add (d:Dt):decide (0<(MM.get S.gB d).getD 0)=Gu l S.tr S.md d:=by
 rw [Bool.eq_iff_iff,decide_eq_true_eq]
 unfold Gu
 constructor
 ·intro h1
  cases hg:MM.get S.gB d with
  | none=>rw [hg] at h1;exact absurd h1 (by decide)
  | some v=>
   obtain ⟨_,x,hx,e,h3,h4⟩:=(h.gB.2 d v).1 hg
   have h5:=oD h.base.ops.wf.keys hx
   rw [e,h.base.ops.get] at h5
   rw [h5]
   rw [h.base.KM h3] at h4
   simp [h3,h4]
 ·intro h1
  cases ho:aT l d with
  | none=>rw [ho] at h1;cases h1
  | some o=>
   rw [ho] at h1
   simp only [Bool.and_eq_true,decide_eq_true_eq] at h1
   obtain ⟨x,hx,e1,e2⟩:=get_mem (show MM.get S.ops d=some o by rw [h.base.ops.get];exact ho)
   have h2:=(h.gB.2 d 1).2 ⟨rfl,x,hx,e1,by rw [e2];exact h1.1,by rw [e2,h.base.KM h1.1];exact h1.2⟩
   rw [h2];decide
theorem cq.line (d:Dt)(o:ag):S.line d o=lQ l S.tr S.md d o:=by unfold Sh.line lQ;rw [h.add,h.base.op,h.base.wv]
theorem cq.set (d:Dt):MM.get S.nA d=D5 l S.tr S.md d:=by
 have hw:∀ o:ag,o.kind=4→S.eP o=iE l S.tr S.md o (lQ l S.tr S.md o.at_ o):=fun o hk=>by
  unfold Sh.eP
  rw [h.base.why,← h.line]
  have:S.tgt o (S.Fj o.aV o.at_)=S.line o.at_ o:=by unfold Sh.tgt;rw [if_neg (by omega),if_pos (.inl hk)]
  rw [this]
 refine Option.ext fun v=> ?_
 rw [h.nA.2]
 unfold D5
 constructor
 ·rintro ⟨x,hx,e,h3,h4,rfl⟩
  have h5:=oD h.base.ops.wf.keys hx
  rw [e,h.base.ops.get] at h5
  rw [h5]
  rw [hw _ h3] at h4
  exact if_pos ⟨h3,h4⟩
 ·intro h1
  cases ho:aT l d with
  | none=>rw [ho] at h1;cases h1
  | some o=>
   rw [ho] at h1
   dsimp only at h1
   split at h1
   ·rename_i h2
    injection h1 with h1
    obtain ⟨x,hx,e1,e2⟩:=get_mem (show MM.get S.ops d=some o by rw [h.base.ops.get];exact ho)
    exact ⟨x,hx,e1,by rw [e2];exact h2.1,by rw [e2,hw _ h2.1];exact h2.2,by rw [e2];exact h1.symm⟩
   ·cases h1
theorem cq.sy (c:Cm)(o:ag):S.sy c o=nP l S.tr S.md c o:=by
 unfold Sh.sy nP MM.has
 rw [h.line,h.set,h.base.wv]
theorem cq.tgt (o:ag)(ab:Bool):S.tgt o ab=nQ l S.tr S.md o ab:=by
 unfold Sh.tgt nQ
 simp only [h.line,h.sy,h.base.yG]
theorem cq.why (o:ag)(ab:Bool):S.why o ab=sA l (aA l).at_ (aA l).made o ab:=by
 unfold sA
 rw [h.base.why,h.tgt,h.base.tr,h.base.md]
theorem cq.eP (o:ag):S.eP o=sA l (aA l).at_ (aA l).made o (fU (aA l).at_ o.aV o.at_ (oO (aA l).at_ o.at_)):=by
 unfold Sh.eP
 rw [h.why]
 unfold Sh.Fj
 rw [h.base.tr]
end
end
section
theorem zy (c:Cr):lP c 0=false:=by
 unfold lP
 have h:(eO 0:Int)=((0:Nat):Int):=rfl
 rw [h,and_eq]
 simp
structure Gv (t l:List ag)(A:ag→Prop):Prop where
 uniq:FV l
 LV:FV t
 sub:∀ o,o∈t→o∈l
 ry:∀ o,A o→o∈t
 MD:∀ o a,A o→a∈l→a.before o=true→a.aQ=o.aQ→A a
theorem lB.aQ {l:List ag}{U:Tr}(hU:lB l U){d:Dt}{c:Cr}(hc:MM.get U.at_ d=some c):∃ a,aT l d=some a∧c.aQ=a.aQ:=by
 obtain ⟨a,_,ha⟩:=hU.cr d c hc
 refine ⟨a,ha.fd,?_⟩
 rcases ha.how with ⟨_,h2,h3⟩ | ⟨p,q,_,_,hb⟩
 ·rw [h3];show a.dot=a.aQ;rw [h2,gi ha.fd]
 ·rw [hb.is]
section
variable {t l:List ag} {A:ag→Prop} (h:Gv t l A)
include h
variable {T U:Tr} (hT:lB t T) (hU:lB l U)
include hT hU
end
end
section
noncomputable def g_ (l:List ag)(o:ag):Nat:=sA l (aA l).at_ (aA l).made o (fU (aA l).at_ o.aV o.at_ (oO (aA l).at_ o.at_))
theorem Gw (l:List ag)(o:ag):Ax (aA l).at_ (aA l).made o=(ew l (cg l 10 o.aV) o).2:=((eN l).why o).symm
theorem dO {l:List ag}{d:Dt}{a:ag}(h:aT l d=some a):jx l d=a:=by unfold jx;rw [h];rfl
theorem D6 {l:List ag}{d:Dt}{o:ag}:pL l (aA l).at_ d o=true↔∃ c a,MM.get (aA l).at_ d=some c∧aT l d=some a∧a.before o=true∧a.aQ=o.aQ∧c.aQ=o.aQ:=by
 unfold pL MM.has nq
 constructor
 ·intro h
  simp only [Bool.and_eq_true,decide_eq_true_eq] at h
  obtain ⟨h1,h2,h3,h4⟩:=h
  obtain ⟨c,hc⟩:=Option.isSome_iff_exists.1 h1
  obtain ⟨a,ha,e⟩:=(eN l).aQ hc
  rw [dO ha] at h4
  rw [hc] at h2
  have h2:c.aQ=o.aQ:=h2
  exact ⟨c,a,hc,ha,h4,by rw [← e,h2],h2⟩
 ·rintro ⟨c,a,h1,h2,h3,h4,h5⟩
  rw [h1,dO h2,h2]
  simp [h3,h5]
section
variable {t l:List ag} {A:ag→Prop} (h:Gv t l A)
include h
end
section
variable {t l:List ag} {A:ag→Prop} (h:Gv t l A)
include h
end
end
section
section
variable {t l:List ag} {A:ag→Prop} (h:Gv t l A) (hA:∀ o,o∈t→A o)
include h hA
end
theorem cq.good {l:List ag}{S:Sh}(h:cq l S)(d:Dt):S.good d=match aT l d with
  | some o=>decide (g_ l o=0)
  | none=>false:=by
 unfold Sh.good
 rw [h.base.has,h.base.op,h.eP]
 cases hf:aT l d with
 | none=>rfl
 | some o=>rw [dO hf];rfl
theorem cq.x_ {l:List ag}{S:Sh}(h:cq l S){d:Dt}{o:ag}(hf:aT l d=some o):S.good d=decide (g_ l o=0):=by rw [h.good,hf]
theorem cq.KN {l:List ag}{S:Sh}(h:cq l S){d:Dt}(hf:aT l d=none):S.good d=false:=by rw [h.good,hf]
end
end Go.Proofs.YtaelhkkjgfobhaaGreat
