/-
 Shapes: what a new shape holds (plain).
-/
import Derived.Test.YtaelhkkjgfobhaaGreatKI
import Derived.Test.YtaelhkkjgfobhaaGreatKD
import Derived.Test.YtaelhkkjgfobhaaGreatK6
set_option linter.unusedSectionVars false
set_option linter.unusedVariables false
set_option linter.unusedSimpArgs false
namespace Go.Proofs.YtaelhkkjgfobhaaGreat
open Go.Sl Go.Proofs
section
theorem rS.uniq {a:MM Dt Cr}{oc:Option Cr}{L M:List Cr}(h:rS a oc L):rS a oc M→L=M:=by
 induction h generalizing M with
 | none=>intro g;cases g;rfl
 | root c hc=>intro g;cases g with
  | root _ _=>rfl
  | more _ L h1 _=>exact absurd h1 hc
 | more c L h1 _ ih=>intro g;cases g with
  | root _ h2=>exact absurd h1 h2
  | more _ L' _ h2=>rw [ih h2]
open Classical in
noncomputable def mV (a:MM Dt Cr)(d:Dt):List Cr:=if h:∃ L,rS a (MM.get a d) L then Classical.choose h else []
theorem i_ {a:MM Dt Cr}{d:Dt}{L:List Cr}(h:rS a (MM.get a d) L):mV a d=L:=by
 have hx:∃ L,rS a (MM.get a d) L:=⟨L,h⟩
 unfold mV
 rw [dif_pos hx]
 exact (Classical.choose_spec hx).uniq h
noncomputable def Sh.EH (S:Sh)(e d:Dt):Bool:=mT S.tr e d (mV S.tr d)
noncomputable def Sh.eD (S:Sh)(o:ag):Nat:=S.why o (S.EH o.aK o.at_)
def Sh.ue (S:Sh):Prop:=∀ d,∃ L,rS S.tr (MM.get S.tr d) L∧L.length≤9
theorem Sh.KU (S:Sh)(h:S.ue)(e d:Dt):∃ m,∀ k,aM Tryz.prog tree_Tree_Above.f [.ptr 4 0,.agg e.cells,.agg d.cells] S.h4 k m (bl (S.EH e d)) S.h4:=by
 obtain ⟨L,hL,hlen⟩:=h d
 refine ⟨6+L.length*(1+1),fun k=> ?_⟩
 have:=CN S.HM e d L hL (by omega) k
 unfold Sh.EH
 rw [i_ hL]
 exact this
theorem Sh.JG (S:Sh)(h:S.ue)(o:ag)(hk:o.kind<256)(hl:o.ow)(n:Sn)(hn:n.ok)(k:Nat):aM Tryz.prog shape_Shape_Why.f [.ptr n.b 0,.agg o.cells] (S.hp n) k 0 (i64 (S.eD o)) (S.hp n):=by
 obtain ⟨m,hm⟩:=S.KU h o.aK o.at_
 exact FH S o hk _ (fun k=>HP S o hk hl _ m hm k) n hn k
theorem Sh.qP (S:Sh)(A:MM Dt Int)(c:Nat)(B:MM Dt Dt)(e:Nat){o:ag}(hk:o.kind=3):({ S with gf:=A,ca:=c,mA:=B,cl:=e}:Sh).eD o=S.eD o:=by
 have ht:∀ (T:Sh) (b:Bool),T.tgt o b=true:=fun T b=>by unfold Sh.tgt;rw [if_neg (by omega),if_neg (by omega),if_neg (by omega),if_neg (by omega)]
 have hr:∀ (b:Bool) i,Sh.pU { S with gf:=A,ca:=c,mA:=B,cl:=e} o b i=S.pU o b i:=fun b i=>by
  match i with
  | 0 | 1 | 2 | 3 | 4 | 5=>rfl
  | i+6=>show (!Sh.tgt _ o b)=(!Sh.tgt _ o b);rw [ht,ht]
 show Sh.why _ o (S.EH o.aK o.at_)=S.why o (S.EH o.aK o.at_)
 unfold Sh.why
 simp only [hr]
theorem Sh.xN (S:Sh)(B:MM Dt Dt)(e:Nat){o:ag}(hk:o.kind=4):({ S with mA:=B,cl:=e}:Sh).eD o=S.eD o:=by
 have ht:∀ (b:Bool),Sh.tgt { S with mA:=B,cl:=e} o b=S.tgt o b:=fun b=>by
  unfold Sh.tgt;rw [if_neg (by omega),if_pos (.inl hk),if_neg (by omega),if_pos (.inl hk)];rfl
 have hr:∀ (b:Bool) i,Sh.pU { S with mA:=B,cl:=e} o b i=S.pU o b i:=fun b i=>by
  match i with
  | 0 | 1 | 2 | 3 | 4 | 5=>rfl
  | i+6=>show (!Sh.tgt _ o b)=(!Sh.tgt _ o b);rw [ht]
 show Sh.why _ o (S.EH o.aK o.at_)=S.why o (S.EH o.aK o.at_)
 unfold Sh.why
 simp only [hr]
def zW (s:MM Dt ag×Nat)(o:ag):MM Dt ag×Nat:=if MM.has s.1 o.dot then s else (MM.put s.1 s.2 o.dot o,MM.iU s.1 s.2 o.dot)
def firstM (l:List ag):MM Dt ag×Nat:=l.foldl zW ([],0)
theorem rE (l:List ag)(x:ag):firstM (l++[x])=zW (firstM l) x:=by unfold firstM;rw [List.foldl_append];rfl
theorem tE (l:List ag)(x:ag)(d:Dt):aD (l++[x]) d=(aD l d).or (if x.dot=d then some x else none):=by
 unfold aD
 rw [List.find?_append]
 congr 1
 simp only [List.find?_cons,List.find?_nil]
 by_cases h:x.dot=d <;> simp [h]
structure wj (l:List ag)(m:MM Dt ag)(c:Nat):Prop where
 wf:MM.wf m c
 get:∀ d,MM.get m d=aD l d
theorem Dr (l:List ag):wj l (firstM l).1 (firstM l).2:=by
 have key:∀ n,∀ l:List ag,l.length=n→wj l (firstM l).1 (firstM l).2:=fun n=>by
  induction n with
  | zero=>
   intro l hl
   rw [List.eq_nil_of_length_eq_zero hl]
   exact ⟨MM.kB,fun d=>by simp [firstM,MM.get,aD]⟩
  | succ n ih=>
   intro l hl
   have hne:l≠[]:=fun e=>by rw [e] at hl;cases hl
   have hd:=List.dropLast_concat_getLast hne
   obtain ⟨x,hx⟩:∃ x,l.getLast hne=x:=⟨_,rfl⟩
   obtain ⟨p,hp⟩:∃ p,l.dropLast=p:=⟨_,rfl⟩
   rw [hx,hp] at hd
   have hpl:p.length=n:=by rw [← hp,List.length_dropLast,hl];omega
   have h:=ih p hpl
   rw [← hd,rE]
   unfold zW
   by_cases hh:MM.has (firstM p).1 x.dot=true
   ·rw [if_pos hh]
    refine ⟨h.wf,fun d=> ?_⟩
    rw [h.get,tE]
    have hs:(aD p x.dot).isSome=true:=by rw [← h.get];exact hh
    by_cases e:x.dot=d
    ·subst e
     obtain ⟨y,hy⟩:=Option.isSome_iff_exists.1 hs
     rw [hy];rfl
    ·rw [if_neg e];simp
   ·rw [if_neg hh]
    refine ⟨MM.jm h.wf _ _,fun d=> ?_⟩
    rw [MM.fB,h.get,tE]
    have hs:aD p x.dot=none:=by
     rw [← h.get]
     have:(MM.get (firstM p).1 x.dot).isSome=false:=by simpa [MM.has] using hh
     simpa using this
    by_cases e:d=x.dot
    ·subst e
     rw [if_pos rfl,hs,if_pos rfl];rfl
    ·rw [if_neg e,if_neg (Ne.symm e)];simp
 exact key _ l rfl
end
section
attribute [local irreducible] SW RW aM SC ak au
abbrev Lt (a:MM Dt Cr)(ca:Nat)(m:MM Dt ag)(cm:Nat):Tr:=⟨2,0,1,a,ca,m,cm⟩
abbrev H2 (a:MM Dt Cr)(ca:Nat)(m:MM Dt ag)(cm:Nat):Hp:=[(2,.box 166 [.mp 0,.mp 1]),(0,.map (an Dt.cells cv a) ca),(1,.map (an Dt.cells ov m) cm)]
structure Tn (l:List ag)(a:MM Dt Cr)(ca:Nat)(m:MM Dt ag)(cm:Nat):Prop where
 new:iR l 0=Lt a ca m cm
theorem JH (l:List ag):∃ a ca m cm,Tn l a ca m cm:=by
 refine ⟨(iR l 0).at_,(iR l 0).ca,(iR l 0).made,(iR l 0).cm,⟨?_⟩⟩
 have e1:(iR l 0).bx=2:=by show 0+_=2;rw [Nat.zero_add];exact kI.e1 _
 have e2:(iR l 0).ma=0:=by show 0+_=0;rw [Nat.zero_add];exact kI.e2 _
 have e3:(iR l 0).mm=1:=by show 0+_=1;rw [Nat.zero_add];exact kI.e3 _
 revert e1 e2 e3
 generalize iR l 0=T
 obtain ⟨b,x,y,a,ca,m,cm⟩:=T
 rintro rfl rfl rfl
 rfl
section
variable {l:List ag} {a:MM Dt Cr} {ca:Nat} {m:MM Dt ag} {cm:Nat} (h:Tn l a ca m cm)
include h
theorem Tn.KV (hl:l.length<1000000000):aM Tryz.prog tree_New.f [ops l] [] 0 7 (.ptr 2 0) (H2 a ca m cm):=by
 have:=HL l hl 0
 rw [h.new] at this;exact this
end
end
section
abbrev n10:Sn:=⟨10,7,8,9,2,0,1⟩
theorem wk:n10.ok:=by decide
abbrev Sh.jk (S:Sh):Hp:=[(10,.box 117 [.ptr 2 0,.mp 7,.mp 8,.mp 9]),(7,.map (an Dt.cells ov S.ops) S.co),(8,.map (an Dt.cells iv S.gf) S.ca),(9,.map (an Dt.cells dv S.mA) S.cl),
 (2,.box 166 [.mp 0,.mp 1]),(0,.map (an Dt.cells cv S.tr) S.ct),(1,.map (an Dt.cells ov S.md) S.cm)]
theorem Sh.mE (S:Sh){k:Nat}(h:11≤k):S.jk.ok (fun n=>decide (n<k))=true:=by
 have a:=bq (fun n=>decide (n<k)) S.ops
 have b:=bM (fun n=>decide (n<k)) S.gf
 have c:=lp (fun n=>decide (n<k)) S.mA
 have d:=iY (fun n=>decide (n<k)) S.tr
 have e:=bq (fun n=>decide (n<k)) S.md
 simp only [Hp.ok,List.all_cons,List.all_nil,Ob.ok,SV.ay,SV.ok,a,b,c,d,e,Bool.and_true,Bool.true_and,Bool.and_eq_true,decide_eq_true_eq]
 omega
theorem Sh.JI (S:Sh):(S.jk.map (·.1)).Nodup:=by simp
theorem Sh.GO (S:Sh)(h:S.ue)(o:ag)(hk:o.kind<256)(hl:o.ow)(k:Nat):aM Tryz.prog shape_Shape_Why.f [.ptr 10 0,.agg o.cells] S.jk k 0 (i64 (S.eD o)) S.jk:=S.JG h o hk hl n10 wk k
structure iS (l:List ag)(S:Sh):Prop where
 ops:wj l S.ops S.co
 tok:nX l S.T
 ue:S.ue
 tr:S.tr=(a_ l).at_
 md:S.md=(a_ l).made
def js (S:Sh)(xs:MM Dt ag)(A:MM Dt Int)(c:Nat):Prop:=MM.wf A c∧∀ d v,MM.get A d=some v↔v=1∧∃ x,x∈xs∧x.2.1=d∧x.2.2.kind=3∧S.eD x.2.2=0
def mW (S:Sh)(xs:MM Dt ag)(B:MM Dt Dt)(c:Nat):Prop:=MM.wf B c∧∀ d v,MM.get B d=some v↔∃ x,x∈xs∧x.2.1=d∧x.2.2.kind=4∧S.eD x.2.2=0∧v=x.2.2.at_
structure cN (l:List ag)(S:Sh):Prop where
 base:iS l S
 gf:js S S.ops S.gf S.ca
 mA:mW S S.ops S.mA S.cl
theorem get_mem {V:Type}{m:MM Dt V}{d:Dt}{v:V}(h:MM.get m d=some v):∃ x,x∈m∧x.2.1=d∧x.2.2=v:=by
 unfold MM.get at h
 obtain ⟨x,hx,rfl⟩:=Option.map_eq_some_iff.1 h
 exact ⟨x,List.mem_of_find?_eq_some hx,by have:=List.find?_some hx;simp at this;exact this.symm,rfl⟩
theorem nZ {V:Type}{m:MM Dt V}(hk:(MM.keys m).Nodup){x:Nat×Dt×V}(hx:x∈m):MM.get m x.2.1=some x.2.2:=by
 have:(MM.get m x.2.1).isSome=true:=by
  unfold MM.get
  rw [Option.isSome_map,List.find?_isSome]
  exact ⟨x,hx,by simp⟩
 obtain ⟨v,hv⟩:=Option.isSome_iff_exists.1 this
 obtain ⟨y,hy,e1,e2⟩:=get_mem hv
 have:y=x:=by
  have hp:=List.nodup_iff_pairwise_ne.1 hk
  unfold MM.keys at hp
  rw [List.pairwise_map] at hp
  exact Classical.byContradiction fun hne=>by
   rcases List.pairwise_iff_getElem.1 hp with hpp
   obtain ⟨i,hi,rfl⟩:=List.getElem_of_mem hy
   obtain ⟨j,hj,rfl⟩:=List.getElem_of_mem hx
   rcases Nat.lt_trichotomy i j with h | h | h
   ·exact hpp i j hi hj h e1
   ·subst h;exact hne rfl
   ·exact hpp j i hj hi h e1.symm
 rw [hv,← e2,this]
theorem js.skip {S:Sh}{xs:MM Dt ag}{A:MM Dt Int}{c:Nat}(h:js S xs A c){x:Nat×Dt×ag}(hx: ¬ (x.2.2.kind=3∧S.eD x.2.2=0)):js S (xs++[x]) A c:=by
 refine ⟨h.1,fun d v=> ?_⟩
 rw [h.2]
 constructor
 ·rintro ⟨h1,y,h2,h3⟩
  exact ⟨h1,y,List.mem_append_left _ h2,h3⟩
 ·rintro ⟨h1,y,h2,h3,h4⟩
  rcases List.mem_append.1 h2 with h2 | h2
  ·exact ⟨h1,y,h2,h3,h4⟩
  ·rw [List.mem_singleton] at h2
   subst h2
   exact absurd h4 hx
theorem js.put {S:Sh}{xs:MM Dt ag}{A:MM Dt Int}{c:Nat}(h:js S xs A c){x:Nat×Dt×ag}(hx:x.2.2.kind=3∧S.eD x.2.2=0):js S (xs++[x]) (MM.put A c x.2.1 1) (MM.iU A c x.2.1):=by
 refine ⟨MM.jm h.1 _ _,fun d v=> ?_⟩
 rw [MM.fB]
 by_cases e:d=x.2.1
 ·rw [if_pos e]
  constructor
  ·intro h1
   injection h1 with h1
   exact ⟨h1.symm,x,List.mem_append_right _ (List.mem_singleton.2 rfl),e.symm,hx⟩
  ·rintro ⟨rfl,_⟩;rfl
 ·rw [if_neg e,h.2]
  constructor
  ·rintro ⟨h1,y,h2,h3⟩
   exact ⟨h1,y,List.mem_append_left _ h2,h3⟩
  ·rintro ⟨h1,y,h2,h3,h4⟩
   rcases List.mem_append.1 h2 with h2 | h2
   ·exact ⟨h1,y,h2,h3,h4⟩
   ·rw [List.mem_singleton] at h2
    subst h2
    exact absurd h3.symm e
theorem js.to {S S':Sh}{xs ys:MM Dt ag}{A:MM Dt Int}{c:Nat}(h:js S xs A c)(hm:∀ x,x∈xs↔x∈ys)(hw:∀ o:ag,o.kind=3→S'.eD o=S.eD o):js S' ys A c:=by
 refine ⟨h.1,fun d v=> ?_⟩
 rw [h.2]
 constructor
 ·rintro ⟨h1,y,h2,h3,h4,h5⟩
  exact ⟨h1,y,(hm y).1 h2,h3,h4,by rw [hw _ h4];exact h5⟩
 ·rintro ⟨h1,y,h2,h3,h4,h5⟩
  exact ⟨h1,y,(hm y).2 h2,h3,h4,by rw [← hw _ h4];exact h5⟩
theorem mW.skip {S:Sh}{xs:MM Dt ag}{A:MM Dt Dt}{c:Nat}(h:mW S xs A c){x:Nat×Dt×ag}(hx: ¬ (x.2.2.kind=4∧S.eD x.2.2=0)):mW S (xs++[x]) A c:=by
 refine ⟨h.1,fun d v=> ?_⟩
 rw [h.2]
 constructor
 ·rintro ⟨y,h2,h3⟩
  exact ⟨y,List.mem_append_left _ h2,h3⟩
 ·rintro ⟨y,h2,h3,h4,h5,h6⟩
  rcases List.mem_append.1 h2 with h2 | h2
  ·exact ⟨y,h2,h3,h4,h5,h6⟩
  ·rw [List.mem_singleton] at h2
   subst h2
   exact absurd ⟨h4,h5⟩ hx
theorem mW.put {S:Sh}{xs:MM Dt ag}{A:MM Dt Dt}{c:Nat}(h:mW S xs A c){x:Nat×Dt×ag}(hx:x.2.2.kind=4∧S.eD x.2.2=0)(hu:∀ y,y∈xs→y.2.1≠x.2.1):mW S (xs++[x]) (MM.put A c x.2.1 x.2.2.at_) (MM.iU A c x.2.1):=by
 refine ⟨MM.jm h.1 _ _,fun d v=> ?_⟩
 rw [MM.fB]
 by_cases e:d=x.2.1
 ·rw [if_pos e]
  constructor
  ·intro h1
   injection h1 with h1
   exact ⟨x,List.mem_append_right _ (List.mem_singleton.2 rfl),e.symm,hx.1,hx.2,h1.symm⟩
  ·rintro ⟨y,h2,h3,_,_,h6⟩
   rcases List.mem_append.1 h2 with h2 | h2
   ·exact absurd (h3.trans e) (hu y h2)
   ·rw [List.mem_singleton] at h2
    subst h2
    rw [h6]
 ·rw [if_neg e,h.2]
  constructor
  ·rintro ⟨y,h2,h3⟩
   exact ⟨y,List.mem_append_left _ h2,h3⟩
  ·rintro ⟨y,h2,h3,h4⟩
   rcases List.mem_append.1 h2 with h2 | h2
   ·exact ⟨y,h2,h3,h4⟩
   ·rw [List.mem_singleton] at h2
    subst h2
    exact absurd h3.symm e
theorem mW.to {S S':Sh}{xs ys:MM Dt ag}{A:MM Dt Dt}{c:Nat}(h:mW S xs A c)(hm:∀ x,x∈xs↔x∈ys)(hw:∀ o:ag,o.kind=4→S'.eD o=S.eD o):mW S' ys A c:=by
 refine ⟨h.1,fun d v=> ?_⟩
 rw [h.2]
 constructor
 ·rintro ⟨y,h2,h3,h4,h5,h6⟩
  exact ⟨y,(hm y).1 h2,h3,h4,by rw [hw _ h4];exact h5,h6⟩
 ·rintro ⟨y,h2,h3,h4,h5,h6⟩
  exact ⟨y,(hm y).2 h2,h3,h4,by rw [← hw _ h4];exact h5,h6⟩
theorem tF {M xs:MM Dt ag}{c:Nat}(hwf:MM.wf M c)(p1:∀ x,x∈xs→x∈M)(hall:∀ e,e∈an Dt.cells ov M→(xs.map (·.1)).contains e.1=true):∀ x,x∈xs↔x∈M:=fun x=>⟨p1 x,fun hx=>by
 have:=hall _ (List.mem_map.2 ⟨x,hx,rfl⟩)
 simp only [List.contains_iff_mem] at this
 obtain ⟨z,hz,e⟩:=List.mem_map.1 this
 rw [← MM.sX hwf.times (p1 z hz) hx e];exact hz⟩
theorem qQ {M xs:MM Dt ag}(p1:∀ x,x∈xs→x∈M)(p2:(xs.map (·.1)).Nodup){x:Nat×Dt×ag}(hx:x∈M)(hs:(xs.map (·.1)).contains x.1=false):(∀ z,z∈xs++[x]→z∈M)∧((xs++[x]).map (·.1)).Nodup∧x.1∉xs.map (·.1):=by
 have hxt:x.1∉xs.map (·.1):=fun h=>by
  have:(xs.map (·.1)).contains x.1=true:=by simpa only [List.contains_iff_mem] using h
  rw [this] at hs;cases hs
 refine ⟨fun z hz=> ?_,?_,hxt⟩
 ·rcases List.mem_append.1 hz with hz | hz
  ·exact p1 z hz
  ·rw [List.mem_singleton.1 hz];exact hx
 ·rw [List.map_append,List.nodup_append]
  refine ⟨p2,by simp,fun a ha b' hb'=> ?_⟩
  simp only [List.map_cons,List.map_nil,List.mem_singleton] at hb'
  intro e
  exact hxt (by rw [← hb',← e];exact ha)
section
attribute [local irreducible] SW RW aM SC ak au
set_option maxHeartbeats 16000000 in
theorem FI (l:List ag)(hl:l.length<1000000000)(hd:∀ o,o∈l→o.kind<256∧o.ow):SB Tryz.prog shape_New.f [ops l] [] 0 11 fun r F=>∃ S,cN l S∧r= .ptr 10 0∧F=S.jk:=by
 obtain ⟨a,ca,m,cm,hT⟩:=JH l
 refine shape_New.enter (by first | rfl | simp [SV.ok,SV.ay]) (by first | rfl | simp [Hp.ok,Ob.ok,SV.ok,SV.ay,aL.ai]) (by simp) ?_
 dsimp only [shape_New.s,Co.M,Co.G,Co.J,Co.H,Co.N,Co.F,Co.C,Co.Z,Co.B,Co.b8,Co.aB,Co.bL,Co.i6,Co.z8,Co.bU]
 have hN:=hT.KV hl
 refine SW.seq ?_
 refine SW.g0 [0,2,3,5,7,8,9,10,11,19,20,21,22,36,49,51,63,73,75,87] mixed af ?_
 refine SW.seq ?_
 have sp4:cU (cU (cU (cU [SV.d .jt,.d .jl,.d .jl,.d .jl] 0 [.ptr 2 0]) 1 [.mp 7]) 2 [.mp 8]) 3 [.mp 9]=[.ptr 2 0,.mp 7,.mp 8,.mp 9]:=rfl
 refine SW.g1 [0,2,3,5,7,8,9,10,11,19,20,21,22,36,49,51,63,73,75,87] mixed (sp4) hN ?_
 have w0:∀ y,y∈(⟨[],0,[],0,[],0,a,ca,m,cm⟩:Sh).jk→lk [(10,.box 117 [.ptr 2 0,.mp 7,.mp 8,.mp 9]),(9,Ob.map [] 0),(8,.map [] 0),(7,.map [] 0),(2,.box 166 [.mp 0,.mp 1]),(0,.map (an Dt.cells cv a) ca),(1,.map (an Dt.cells ov m) cm)] y.1=some y.2:=fun y hy=>by
  simp only [List.mem_cons,List.not_mem_nil,or_false] at hy
  rcases hy with rfl | rfl | rfl | rfl | rfl | rfl | rfl <;> rfl
 refine SW.weak id (st1:=⟨[(0,ops l),(3,.ptr 10 0)],(⟨[],0,[],0,[],0,a,ca,m,cm⟩:Sh).jk,11⟩) (aJ.same (by simp) (by simp [aY,List.lookup,SV.aC,SV.ok,SV.ay]) (Sh.mE _ (Nat.le_refl 11)) w0) ?_
 refine SW.seq (SW.seq ?_)
 refine SW.g0 [0,2,3,5,7,8,9,10,11,19,20,21,22,36,49,51,63,73,75,87] mixed af ?_
 refine SW.block ?_
 refine SW.loop (α:={i:Nat // i≤l.length}) (fun i=>⟨[(21,i64 i.1),(20,i64 l.length),(19,ops l),(3,.ptr 10 0)],(⟨(firstM (l.take i.1)).1,(firstM (l.take i.1)).2,[],0,[],0,a,ca,m,cm⟩:Sh).jk,11⟩) (fun i=>l.length - i.1) ⟨0,by omega⟩ id (aJ.same (by simp) (by simp [aY,List.lookup,SV.aC,SV.ok,SV.ay]) (Sh.mE _ (Nat.le_refl 11)) (aH (Sh.JI _))) ?_
 rintro ⟨i,hi⟩
 dsimp only
 by_cases h:i<l.length
 ·have h1:decide ((i:Int)<l.length)=true:=by simp only [decide_eq_true_eq];omega
  obtain ⟨x,hx⟩:=br h
  have e2:IntKind.i64.wrap ((i:Int)+1)=((i+1:Nat):Int):=wrap_i64 _ (by omega)
  have hsn:=rE (l.take i) x
  rw [← f_ hx] at hsn
  unfold zW at hsn
  obtain ⟨M,hM⟩:∃ M,(firstM (l.take i)).1=M:=⟨_,rfl⟩
  obtain ⟨c,hc⟩:∃ c,(firstM (l.take i)).2=c:=⟨_,rfl⟩
  rw [hM,hc] at hsn ⊢
  obtain ⟨g,hg⟩:∃ g,(MM.get M x.dot).getD ag.zero=g:=⟨_,rfl⟩
  have hms:=zT M c x.dot x
  refine SW.seq ?_
  refine SW.g0 [0,2,3,5,7,8,9,10,11,19,20,21,22,36,49,51,63,73,75,87] mixed (h1) ?_
  refine SW.seq (SW.ah rfl (SW.skip ?_))
  refine SW.seq (SW.block (SW.seq ?_))
  refine SW.g0 [0,2,3,5,7,8,9,10,11,19,20,21,22,36,49,51,63,73,75,87] mixed (And.intro (gA hx) (And.intro (fO hx) (And.intro (eZ hx) (bT hx)))) ?_
  refine SW.seq ?_
  rcases hh:MM.has M x.dot with _ | _
  ·rw [hh] at hsn
   simp only [Bool.false_eq_true,if_false] at hsn
   refine SW.g0 [0,2,3,5,7,8,9,10,11,19,20,21,22,36,49,51,63,73,75,87] mixed (And.intro (hh) (hg)) ?_
   refine SW.seq ?_
   refine SW.g0 [0,2,3,5,7,8,9,10,11,19,20,21,22,36,49,51,63,73,75,87] mixed af ?_
   refine SW.ah rfl ?_
   refine SW.g0 [0,2,3,5,7,8,9,10,11,19,20,21,22,36,49,51,63,73,75,87] mixed (hms) ?_
   refine SW.g0 [0,2,3,5,7,8,9,10,11,19,20,21,22,36,49,51,63,73,75,87] mixed (e2) ?_
   refine ⟨⟨i+1,by omega⟩,id,by show l.length - (i+1)<l.length - i;omega,?_⟩
   dsimp only
   rw [hsn]
   refine aJ.same (by simp) (by simp [aY,List.lookup,SV.aC,SV.ok,SV.ay]) (Sh.mE _ (Nat.le_refl 11)) (fun y hy=> ?_)
   simp only [List.mem_cons,List.not_mem_nil,or_false] at hy
   rcases hy with rfl | rfl | rfl | rfl | rfl | rfl | rfl <;> rfl
  ·rw [hh] at hsn
   simp only [if_true] at hsn
   refine SW.g0 [0,2,3,5,7,8,9,10,11,19,20,21,22,36,49,51,63,73,75,87] mixed (And.intro (hh) (hg)) ?_
   refine SW.seq ?_
   refine SW.g0 [0,2,3,5,7,8,9,10,11,19,20,21,22,36,49,51,63,73,75,87] mixed af ?_
   refine SW.aj rfl (SW.skip ?_)
   refine SW.g0 [0,2,3,5,7,8,9,10,11,19,20,21,22,36,49,51,63,73,75,87] mixed (e2) ?_
   refine ⟨⟨i+1,by omega⟩,id,by show l.length - (i+1)<l.length - i;omega,?_⟩
   dsimp only
   rw [hsn,hM,hc]
   refine aJ.same (by simp) (by simp [aY,List.lookup,SV.aC,SV.ok,SV.ay]) (Sh.mE _ (Nat.le_refl 11)) (fun y hy=> ?_)
   simp only [List.mem_cons,List.not_mem_nil,or_false] at hy
   rcases hy with rfl | rfl | rfl | rfl | rfl | rfl | rfl <;> rfl
 have h1:decide ((i:Int)<l.length)=false:=by simp only [decide_eq_false_iff_not];omega
 have hi2:i=l.length:=by omega
 subst hi2
 rw [List.take_length]
 have hF:=Dr l
 obtain ⟨M,hM⟩:∃ M,(firstM l).1=M:=⟨_,rfl⟩
 obtain ⟨c,hc⟩:∃ c,(firstM l).2=c:=⟨_,rfl⟩
 rw [hM,hc] at hF ⊢
 refine SW.seq ?_
 refine SW.g0 [0,2,3,5,7,8,9,10,11,19,20,21,22,36,49,51,63,73,75,87] mixed (h1) ?_
 refine SW.seq (SW.aj rfl (SW.exit ?_))
 refine (?_:Sl.SW _ _ _ _ _ _)
 refine SW.weak id (st1:=⟨[(3,.ptr 10 0)],(⟨M,c,[],0,[],0,a,ca,m,cm⟩:Sh).jk,11⟩) (aJ.same (by simp) (by simp [aY,List.lookup,SV.aC,SV.ok,SV.ay]) (Sh.mE _ (Nat.le_refl 11)) (aH (Sh.JI _))) ?_
 obtain ⟨S,hS⟩:∃ S:Sh,(⟨M,c,[],0,[],0,a,ca,m,cm⟩:Sh)=S:=⟨_,rfl⟩
 have hB:iS l S:=by
  rw [← hS]
  have hnew:=hT.new
  have ht:=yG l 0
  rw [hnew] at ht
  refine ⟨hF,⟨ht.cr,ht.no⟩,fun d=> ?_,(congrArg Tr.at_ hnew).symm,(congrArg Tr.made hnew).symm⟩
  obtain ⟨L,h2,h3,_⟩:=ht.ue d
  exact ⟨L,h2,h3⟩
 rw [hS]
 have hwf:=hB.ops.wf
 have hkd:∀ x,x∈S.ops→x.2.2.kind<256∧x.2.2.ow:=fun x hx=>by
  have h1:=nZ hwf.keys hx
  rw [hB.ops.get] at h1
  exact hd _ (vr h1)
 have hSa:({ S with gf:=[],ca:=0}:Sh)=S∧S.mA=[]∧S.cl=0:=by rw [← hS];exact ⟨rfl,rfl,rfl⟩
 clear hS hN hT w0 hF hM hc
 refine SW.seq (SW.seq ?_)
 refine SW.g0 [0,2,3,5,7,8,9,10,11,19,20,21,22,36,49,51,63,73,75,87] mixed af ?_
 refine SW.block ?_
 refine SW.pL (es:=fun _=>an Dt.cells ov S.ops) (c:=fun _=>S.co) (s7:=fun _=>11) (nm:=fun _=>7) (since:=fun _=>S.co) (zF:=fun _=>S.co)
  (α:={p:MM Dt ag×MM Dt Int×Nat // (∀ x,x∈p.1→x∈S.ops)∧(p.1.map (·.1)).Nodup∧js S p.1 p.2.1 p.2.2})
  (fun p=>⟨[(49,.it 11),(3,.ptr 10 0)],(11,.iter (some 7) S.co (p.1.1.map (·.1)) S.co)::({ S with gf:=p.1.2.1,ca:=p.1.2.2}:Sh).jk,12⟩)
  (fun p=>jq (an Dt.cells ov S.ops) (p.1.1.map (·.1))) ⟨([],[],0),by simp,by simp,MM.kB,fun d v=>by simp [MM.get]⟩ id (seen:=fun p=>p.1.1.map (·.1)) ?_ (fun p=>by simp [List.lookup]) (fun p=>by simp [aa]) (fun p=>by simp [aa]) (fun p=>by decide) (fun p e he=> ?_) (fun p=>Nat.le_refl _) (fun p hall=> ?_) (fun p e he hs=> ?_)
 ·show aJ 0 _ ⟨[(49,.it 11),(3,.ptr 10 0)],(11,.iter (some 7) S.co [] S.co)::({ S with gf:=[],ca:=0}:Sh).jk,12⟩ id
  rw [hSa.1]
  exact aJ.same (by simp) (by simp [aY,List.lookup,SV.aC,SV.ok,SV.ay]) (av (by simp) (by simp [Ob.ok]) (Sh.mE _ (show 11≤12 by omega))) (aH (by simp))
 ·obtain ⟨x,hx,rfl⟩:=eY he
  exact hwf.old x hx
 ·obtain ⟨⟨xs,A,ac⟩,p1,p2,p3⟩:=p
  dsimp only at*
  have hxs:=tF hwf p1 hall
  refine ⟨⟨[(3,.ptr 10 0)],({ S with gf:=A,ca:=ac}:Sh).jk,11⟩,id,aJ.same (by simp) (by simp [aY,List.lookup,SV.aC,SV.ok,SV.ay]) (Sh.mE _ (Nat.le_refl 11)) (fun y hy=>by
   simp only [List.mem_cons,List.not_mem_nil,or_false] at hy
   rcases hy with rfl | rfl | rfl | rfl | rfl | rfl | rfl <;> rfl),?_⟩
  rw [if_pos rfl]
  obtain ⟨S1,uc⟩:∃ S1:Sh,({ S with gf:=A,ca:=ac}:Sh)=S1:=⟨_,rfl⟩
  have hB1:iS l S1:=by rw [← uc];exact ⟨hB.ops,⟨hB.tok.cr,hB.tok.no⟩,hB.ue,hB.tr,hB.md⟩
  have hA1:js S1 S1.ops S1.gf S1.ca:=by
   rw [← uc]
   exact p3.to hxs fun o ho=>S.qP A ac S.mA S.cl ho
  have hops:S1.ops=S.ops∧S1.co=S.co:=by rw [← uc];exact ⟨rfl,rfl⟩
  have hSb:({ S1 with mA:=[],cl:=0}:Sh)=S1:=by
   rw [← uc]
   have h2:=hSa.2.1
   have h3:=hSa.2.2
   cases S
   dsimp only at h2 h3 ⊢
   rw [h2,h3]
  rw [uc]
  have hwf1:=hB1.ops.wf
  have hkd1:∀ x,x∈S1.ops→x.2.2.kind<256∧x.2.2.ow:=fun x hx=>hkd x (by rw [← hops.1];exact hx)
  refine SW.seq (SW.seq ?_)
  refine SW.g0 [0,2,3,5,7,8,9,10,11,19,20,21,22,36,49,51,63,73,75,87] mixed af ?_
  refine SW.block ?_
  refine SW.pL (es:=fun _=>an Dt.cells ov S1.ops) (c:=fun _=>S1.co) (s7:=fun _=>11) (nm:=fun _=>7) (since:=fun _=>S1.co) (zF:=fun _=>S1.co)
   (α:={p:MM Dt ag×MM Dt Dt×Nat // (∀ x,x∈p.1→x∈S1.ops)∧(p.1.map (·.1)).Nodup∧mW S1 p.1 p.2.1 p.2.2})
   (fun p=>⟨[(73,.it 11),(3,.ptr 10 0)],(11,.iter (some 7) S1.co (p.1.1.map (·.1)) S1.co)::({ S1 with mA:=p.1.2.1,cl:=p.1.2.2}:Sh).jk,12⟩)
   (fun p=>jq (an Dt.cells ov S1.ops) (p.1.1.map (·.1))) ⟨([],[],0),by simp,by simp,MM.kB,fun d v=>by simp [MM.get]⟩ id (seen:=fun p=>p.1.1.map (·.1)) ?_ (fun p=>by simp [List.lookup]) (fun p=>by simp [aa]) (fun p=>by simp [aa]) (fun p=>by decide) (fun p e he=> ?_) (fun p=>Nat.le_refl _) (fun p hall=> ?_) (fun p e he hs=> ?_)
  ·show aJ 0 _ ⟨[(73,.it 11),(3,.ptr 10 0)],(11,.iter (some 7) S1.co [] S1.co)::({ S1 with mA:=[],cl:=0}:Sh).jk,12⟩ id
   rw [hSb]
   exact aJ.same (by simp) (by simp [aY,List.lookup,SV.aC,SV.ok,SV.ay]) (av (by simp) (by simp [Ob.ok]) (Sh.mE _ (show 11≤12 by omega))) (aH (by simp))
  ·obtain ⟨x,hx,rfl⟩:=eY he
   exact hwf1.old x hx
  ·obtain ⟨⟨xs2,B,bc⟩,r1,r2,r3⟩:=p
   dsimp only at*
   have hxs2:=tF hwf1 r1 hall
   refine ⟨⟨[(3,.ptr 10 0)],({ S1 with mA:=B,cl:=bc}:Sh).jk,11⟩,id,aJ.same (by simp) (by simp [aY,List.lookup,SV.aC,SV.ok,SV.ay]) (Sh.mE _ (Nat.le_refl 11)) (fun y hy=>by
    simp only [List.mem_cons,List.not_mem_nil,or_false] at hy
    rcases hy with rfl | rfl | rfl | rfl | rfl | rfl | rfl <;> rfl),?_⟩
   rw [if_pos rfl]
   refine SW.seq ?_
   refine SW.g0 [0,2,3,5,7,8,9,10,11,19,20,21,22,36,49,51,63,73,75,87] mixed af ?_
   refine SW.ret ?_
   refine End.mk ({ S1 with mA:=B,cl:=bc}:Sh).jk (h4:=⟨{ S1 with mA:=B,cl:=bc},⟨⟨hB1.ops,⟨hB1.tok.cr,hB1.tok.no⟩,hB1.ue,hB1.tr,hB1.md⟩,hA1.to (fun _=>Iff.rfl) fun o ho=> ?_,r3.to hxs2 fun o ho=>S1.xN B bc ho⟩,rfl,rfl⟩) (h6:=Sh.mE _ (Nat.le_refl 11))
   exact S1.qP S1.gf S1.ca B bc ho
  ·obtain ⟨⟨xs,B,bc⟩,p1,p2,p3⟩:=p
   dsimp only at*
   obtain ⟨x,hx,rfl⟩:=eY he
   dsimp only at hs
   have g5:(xs.map (·.1)++[x.1]).getLast? =some x.1:=by simp
   have g6:=kU (kc:=Dt.cells) (vs:=ov) hwf1.times hx
   have eov:∀ o,ov o= .agg o.cells:=fun _=>rfl
   obtain ⟨q1,q2,hxt⟩:=qQ p1 p2 hx hs
   have hu:∀ y,y∈xs→y.2.1≠x.2.1:=fun y hy e=>by
    have h1:=nZ hwf1.keys (p1 y hy)
    have h2:=nZ hwf1.keys hx
    have hp:=List.nodup_iff_pairwise_ne.1 hwf1.keys
    unfold MM.keys at hp
    rw [List.pairwise_map] at hp
    obtain ⟨i,hi,e1⟩:=List.getElem_of_mem (p1 y hy)
    obtain ⟨j,hj,e2⟩:=List.getElem_of_mem hx
    rcases Nat.lt_trichotomy i j with h | h | h
    ·exact List.pairwise_iff_getElem.1 hp i j hi hj h (by rw [e1,e2];exact e)
    ·subst h
     exact hxt (List.mem_map.2 ⟨y,hy,by rw [← e1,← e2]⟩)
    ·exact List.pairwise_iff_getElem.1 hp j i hj hi h (by rw [e1,e2];exact e.symm)
   have em:(xs++[x]).map (·.1)=xs.map (·.1)++[x.1]:=by simp
   have hm:=k_ he hs
   obtain ⟨k1,k2⟩:=hkd1 x hx
   rw [jG]
   refine SW.block (SW.seq ?_)
   refine SW.g0 [0,2,3,5,7,8,9,10,11,19,20,21,22,36,49,51,63,73,75,87] mixed (And.intro (g5) (And.intro (g6) (eov))) ?_
   refine SW.seq ?_
   by_cases h3:x.2.2.kind=4
   ·have z3:(((x.2.2.kind:Nat):Int) == 4)=true:=by rw [h3];rfl
    have hw:∀ k,aM Tryz.prog shape_Shape_Why.f [.ptr 10 0,.agg x.2.2.cells] ({ S1 with mA:=B,cl:=bc}:Sh).jk k 0 (i64 (S1.eD x.2.2)) ({ S1 with mA:=B,cl:=bc}:Sh).jk:=fun k=>by
     have:=Sh.GO { S1 with mA:=B,cl:=bc} hB1.ue x.2.2 k1 k2 k
     rw [show Sh.eD { S1 with mA:=B,cl:=bc} x.2.2=S1.eD x.2.2 from S1.xN B bc h3] at this
     exact this
    by_cases h0:S1.eD x.2.2=0
    ·have z0:(((S1.eD x.2.2:Nat):Int) == 0)=true:=by rw [h0];rfl
     refine SW.g1 [0,2,3,5,7,8,9,10,11,19,20,21,22,36,49,51,63,73,75,87] mixed (And.intro (z3) (z0)) hw ?_
     refine SW.ah rfl ?_
     refine SW.g0 [0,2,3,5,7,8,9,10,11,19,20,21,22,36,49,51,63,73,75,87] mixed (Fw B bc x.2.1 x.2.2.at_) ?_
     refine ⟨⟨(xs++[x],MM.put B bc x.2.1 x.2.2.at_,MM.iU B bc x.2.1),q1,q2,p3.put ⟨h3,h0⟩ hu⟩,id,by rw [em];exact hm,?_⟩
     dsimp only
     rw [em]
     refine aJ.same (by simp) (by simp [aY,List.lookup,SV.aC,SV.ok,SV.ay]) (av (by simp) (by simp [Ob.ok]) (Sh.mE _ (show 11≤12 by omega))) (fun y hy=> ?_)
     simp only [List.mem_cons,List.not_mem_nil,or_false] at hy
     rcases hy with rfl | rfl | rfl | rfl | rfl | rfl | rfl | rfl <;> rfl
    ·
     have z0:(((S1.eD x.2.2:Nat):Int) == 0)=false:=by simpa using h0
     refine SW.g1 [0,2,3,5,7,8,9,10,11,19,20,21,22,36,49,51,63,73,75,87] mixed (And.intro (z3) (z0)) hw ?_
     refine SW.aj rfl (SW.skip ?_)
     refine ⟨⟨(xs++[x],B,bc),q1,q2,p3.skip fun h=>h0 h.2⟩,id,by rw [em];exact hm,?_⟩
     dsimp only
     rw [em]
     refine aJ.same (by simp) (by simp [aY,List.lookup,SV.aC,SV.ok,SV.ay]) (av (by simp) (by simp [Ob.ok]) (Sh.mE _ (show 11≤12 by omega))) (fun y hy=> ?_)
     simp only [List.mem_cons,List.not_mem_nil,or_false] at hy
     rcases hy with rfl | rfl | rfl | rfl | rfl | rfl | rfl | rfl <;> rfl
   ·have z3:(((x.2.2.kind:Nat):Int) == 4)=false:=by simp;omega
    refine SW.g0 [0,2,3,5,7,8,9,10,11,19,20,21,22,36,49,51,63,73,75,87] mixed (z3) ?_
    refine SW.aj rfl (SW.skip ?_)
    refine ⟨⟨(xs++[x],B,bc),q1,q2,p3.skip fun h=>h3 h.1⟩,id,by rw [em];exact hm,?_⟩
    dsimp only
    rw [em]
    refine aJ.same (by simp) (by simp [aY,List.lookup,SV.aC,SV.ok,SV.ay]) (av (by simp) (by simp [Ob.ok]) (Sh.mE _ (show 11≤12 by omega))) (fun y hy=> ?_)
    simp only [List.mem_cons,List.not_mem_nil,or_false] at hy
    rcases hy with rfl | rfl | rfl | rfl | rfl | rfl | rfl | rfl <;> rfl
 ·obtain ⟨⟨xs,A,ac⟩,p1,p2,p3⟩:=p
  dsimp only at*
  obtain ⟨x,hx,rfl⟩:=eY he
  dsimp only at hs
  have g5:(xs.map (·.1)++[x.1]).getLast? =some x.1:=by simp
  have g6:=kU (kc:=Dt.cells) (vs:=ov) hwf.times hx
  have eov:∀ o,ov o= .agg o.cells:=fun _=>rfl
  obtain ⟨q1,q2,_⟩:=qQ p1 p2 hx hs
  have em:(xs++[x]).map (·.1)=xs.map (·.1)++[x.1]:=by simp
  have hm:=k_ he hs
  obtain ⟨k1,k2⟩:=hkd x hx
  rw [jG]
  refine SW.block (SW.seq ?_)
  refine SW.g0 [0,2,3,5,7,8,9,10,11,19,20,21,22,36,49,51,63,73,75,87] mixed (And.intro (g5) (And.intro (g6) (eov))) ?_
  refine SW.seq ?_
  by_cases h3:x.2.2.kind=3
  ·have z3:(((x.2.2.kind:Nat):Int) == 3)=true:=by rw [h3];rfl
   have hw:∀ k,aM Tryz.prog shape_Shape_Why.f [.ptr 10 0,.agg x.2.2.cells] ({ S with gf:=A,ca:=ac}:Sh).jk k 0 (i64 (S.eD x.2.2)) ({ S with gf:=A,ca:=ac}:Sh).jk:=fun k=>by
    have:=Sh.GO { S with gf:=A,ca:=ac} hB.ue x.2.2 k1 k2 k
    rw [show Sh.eD { S with gf:=A,ca:=ac} x.2.2=S.eD x.2.2 from S.qP A ac S.mA S.cl h3] at this
    exact this
   by_cases h0:S.eD x.2.2=0
   ·have z0:(((S.eD x.2.2:Nat):Int) == 0)=true:=by rw [h0];rfl
    refine SW.g1 [0,2,3,5,7,8,9,10,11,19,20,21,22,36,49,51,63,73,75,87] mixed (And.intro (z3) (z0)) hw ?_
    refine SW.ah rfl ?_
    refine SW.g0 [0,2,3,5,7,8,9,10,11,19,20,21,22,36,49,51,63,73,75,87] mixed af ?_
    refine ⟨⟨(xs++[x],MM.put A ac x.2.1 1,MM.iU A ac x.2.1),q1,q2,p3.put ⟨h3,h0⟩⟩,id,by rw [em];exact hm,?_⟩
    dsimp only
    rw [em]
    refine aJ.same (by simp) (by simp [aY,List.lookup,SV.aC,SV.ok,SV.ay]) (av (by simp) (by simp [Ob.ok]) (Sh.mE _ (show 11≤12 by omega))) (fun y hy=> ?_)
    simp only [List.mem_cons,List.not_mem_nil,or_false] at hy
    rcases hy with rfl | rfl | rfl | rfl | rfl | rfl | rfl | rfl <;> rfl
   ·
    have z0:(((S.eD x.2.2:Nat):Int) == 0)=false:=by simpa using h0
    refine SW.g1 [0,2,3,5,7,8,9,10,11,19,20,21,22,36,49,51,63,73,75,87] mixed (And.intro (z3) (z0)) hw ?_
    refine SW.aj rfl (SW.skip ?_)
    refine ⟨⟨(xs++[x],A,ac),q1,q2,p3.skip fun h=>h0 h.2⟩,id,by rw [em];exact hm,?_⟩
    dsimp only
    rw [em]
    refine aJ.same (by simp) (by simp [aY,List.lookup,SV.aC,SV.ok,SV.ay]) (av (by simp) (by simp [Ob.ok]) (Sh.mE _ (show 11≤12 by omega))) (fun y hy=> ?_)
    simp only [List.mem_cons,List.not_mem_nil,or_false] at hy
    rcases hy with rfl | rfl | rfl | rfl | rfl | rfl | rfl | rfl <;> rfl
  ·have z3:(((x.2.2.kind:Nat):Int) == 3)=false:=by simp;omega
   refine SW.g0 [0,2,3,5,7,8,9,10,11,19,20,21,22,36,49,51,63,73,75,87] mixed (z3) ?_
   refine SW.aj rfl (SW.skip ?_)
   refine ⟨⟨(xs++[x],A,ac),q1,q2,p3.skip fun h=>h3 h.1⟩,id,by rw [em];exact hm,?_⟩
   dsimp only
   rw [em]
   refine aJ.same (by simp) (by simp [aY,List.lookup,SV.aC,SV.ok,SV.ay]) (av (by simp) (by simp [Ob.ok]) (Sh.mE _ (show 11≤12 by omega))) (fun y hy=> ?_)
   simp only [List.mem_cons,List.not_mem_nil,or_false] at hy
   rcases hy with rfl | rfl | rfl | rfl | rfl | rfl | rfl | rfl <;> rfl
end
end
section
def mB (S:Sh):Prop:=∀ d o,MM.get S.ops d=some o→o.kind<256∧o.ow∧o.cl.length≤1048576
noncomputable def Sh.good (S:Sh)(d:Dt):Bool:=MM.has S.ops d && decide (S.eD (S.op d)=0)
theorem JJ (o:ag):cU o.cells 28 [.d o.lines]=o.cells:=rfl
section
attribute [local irreducible] SW RW aM SC ak au
theorem A4 (cl:List Cm)(hl:cl.length≤1048576):Go.Sl.Pure Tryz.prog slices_Clone_Lapi_Claim_api_Claim.f [.d (.sl cl.length (cl.flatMap Cm.ds))] (.d (.sl cl.length (cl.flatMap Cm.ds))):=by
 refine slices_Clone_Lapi_Claim_api_Claim.enter (by first | rfl | simp [SV.ok,SV.ay]) (by first | rfl | simp [Hp.ok,Ob.ok,SV.ok,SV.ay,aL.ai]) (by simp) ?_
 dsimp only [slices_Clone_Lapi_Claim_api_Claim.s,Co.M,Co.G,Co.J,Co.H,Co.N,Co.F,Co.C,Co.Z,Co.B,Co.b8,Co.aB,Co.bL,Co.i6,Co.z8,Co.bU]
 refine SW.seq ?_
 refine SW.g0 [0,2,4] mixed af ?_
 refine SW.seq (SW.seq (SW.Jl (n:=cl.length) (cs:=cl.flatMap Cm.ds) rfl ?_ fun h0=> ?_))
 ·refine SW.aj rfl (SW.skip ?_)
  refine (?_:Sl.SW _ _ _ _ _ _)
  refine SW.seq ?_
  have hlen:cl.length*4=cl.length*4:=rfl
  refine SW.g0 [0,2,4] mixed af ?_
  refine SW.freeze 1 (cl.flatMap Cm.ds) rfl (by simp) ?_
  simp only [kQ,SV.iB,List.map_cons,List.map_nil,if_true,if_false,reduceIte,di,Nat.reduceEqDiff]
  refine SW.ret ?_
  exact End.mk [] (h4:=⟨by simp [eP],rfl⟩)
 ·have hl0:cl=[]:=List.eq_nil_of_length_eq_zero h0
  subst hl0
  refine SW.ah rfl (SW.seq ?_)
  refine SW.g0 [0,2,4] mixed af ?_
  refine SW.aU 2 rfl ?_
  refine SW.ret ?_
  exact End.mk [] (h4:=⟨rfl,rfl⟩)
theorem A5:Go.Sl.Pure Tryz.prog slices_Clone_Lapi_Claim_api_Claim.f [.d .aU] (.d .aU):=by
 refine slices_Clone_Lapi_Claim_api_Claim.enter (by first | rfl | simp [SV.ok,SV.ay]) (by first | rfl | simp [Hp.ok,Ob.ok,SV.ok,SV.ay,aL.ai]) (by simp) ?_
 dsimp only [slices_Clone_Lapi_Claim_api_Claim.s,Co.M,Co.G,Co.J,Co.H,Co.N,Co.F,Co.C,Co.Z,Co.B,Co.b8,Co.aB,Co.bL,Co.i6,Co.z8,Co.bU]
 (repeat (first | refine SW.seq ?_ | refine SW.block ?_ | refine SW.g0 [0,2,4] mixed af ?_ | refine SW.skip ?_ | refine SW.exit ?_ | refine SW.ret ?_ | refine SW.ah rfl ?_ | refine SW.aj rfl ?_))
 exact End.mk [] (h4:=⟨rfl,rfl⟩)
theorem HT (S:Sh)(hs:mB S)(d:Dt)(k:Nat):aM Tryz.prog slices_Clone_Lapi_Claim_api_Claim.f [.d (S.op d).lines] [] k 0 (.d (S.op d).lines) []:=by
 unfold Sh.op
 cases h:MM.get S.ops d with
 | none=>exact A5.sc rfl k
 | some o=>
  obtain ⟨_,h1,h2⟩:=hs d o h
  have:=(A4 o.cl h2).sc rfl k
  rwa [← h1.eq] at this
set_option maxHeartbeats 4000000 in
theorem Ds (S:Sh)(hs:mB S)(d:Dt):SB Tryz.prog shape_Shape_Op.f [.ptr 0 0,.agg d.cells] S.h0 7 0 fun r F=>r= .dM [.agg (S.op d).cells,bl (MM.has S.ops d)]∧F=S.h0:=by
 refine shape_Shape_Op.enter (by simp [SV.ay,SV.ok]) (S.ok (Nat.le_refl 7)) (by simp) ?_
 dsimp only [shape_Shape_Op.s,Co.M,Co.G,Co.J,Co.H,Co.N,Co.F,Co.C,Co.Z,Co.B,Co.b8,Co.aB,Co.bL,Co.i6,Co.z8,Co.bU]
 have hn:=sq S
 have hc:=HT S hs d
 obtain ⟨o,ho⟩:∃ o,S.op d=o:=⟨_,rfl⟩
 have hg:(MM.get S.ops d).getD ag.zero=o:=ho
 rw [ho] at hc ⊢
 have Lg:=JJ o
 refine SW.seq ?_
 refine SW.g0 [0,1,3,4,5,6,7,9] mixed af ?_
 refine SW.seq (SW.seq ?_)
 refine SW.g1 [0,1,3,4,5,6,7,9] mixed af hn ?_
 refine SW.aj rfl (SW.skip ?_)
 refine SW.seq ?_
 refine SW.g0 [0,1,3,4,5,6,7,9] mixed (hg) ?_
 refine SW.seq ?_
 refine SW.g1 [0,1,3,4,5,6,7,9] mixed (Lg) hc ?_
 refine SW.seq ?_
 refine SW.g0 [0,1,3,4,5,6,7,9] mixed af ?_
 refine SW.ret ?_
 exact End.mk S.h0 (h4:=⟨rfl,rfl⟩) (h6:=S.ok (Nat.le_refl 7))
theorem JK (S:Sh)(hs:mB S)(d:Dt)(k:Nat):aM Tryz.prog shape_Shape_Op.f [.ptr 0 0,.agg d.cells] S.h0 k 0 (.dM [.agg (S.op d).cells,bl (MM.has S.ops d)]) S.h0:=
 S.at_ (Ds S hs d) (fun ρ=>by simp [SV.aW,SV.aC,Dt.ax]) (fun ρ=>by simp [SV.aW,SV.aC,ag.ax]) n0 pT k
set_option maxHeartbeats 4000000 in
theorem Du (S:Sh)(hu:S.ue)(hs:mB S)(d:Dt):SB Tryz.prog shape_Shape_Good.f [.ptr 0 0,.agg d.cells] S.h0 7 0 fun r F=>r=bl (S.good d)∧F=S.h0:=by
 refine shape_Shape_Good.enter (by simp [SV.ay,SV.ok]) (S.ok (Nat.le_refl 7)) (by simp) ?_
 dsimp only [shape_Shape_Good.s,Co.M,Co.G,Co.J,Co.H,Co.N,Co.F,Co.C,Co.Z,Co.B,Co.b8,Co.aB,Co.bL,Co.i6,Co.z8,Co.bU]
 have hc:=JK S hs d
 obtain ⟨o,ho⟩:∃ o,S.op d=o:=⟨_,rfl⟩
 have hG:S.good d=(MM.has S.ops d && decide (S.eD o=0)):=by unfold Sh.good;rw [ho]
 rw [ho] at hc
 refine SW.seq ?_
 refine SW.g0 [0,1,3,4,5,6] mixed af ?_
 refine SW.seq ?_
 refine SW.g1 [0,1,3,4,5,6] mixed af hc ?_
 refine SW.seq ?_
 rcases h:MM.has S.ops d with _ | _
 ·refine SW.g0 [0,1,3,4,5,6] mixed af ?_
  refine SW.ret ?_
  exact End.mk S.h0 (h4:=⟨by rw [hG,h];rfl,rfl⟩) (h6:=S.ok (Nat.le_refl 7))
 obtain ⟨o',ho'⟩:=Option.isSome_iff_exists.1 (show (MM.get S.ops d).isSome=true from h)
 have e:o'=o:=by rw [← ho];unfold Sh.op;rw [ho'];rfl
 subst e
 obtain ⟨k1,k2,_⟩:=hs d o' ho'
 have hw:∀ k,aM Tryz.prog shape_Shape_Why.f [.ptr 0 0,.agg o'.cells] S.h0 k 0 (i64 (S.eD o')) S.h0:=fun k=>S.JG hu o' k1 k2 n0 pT k
 have hz:(((S.eD o':Nat):Int) == 0)=decide (S.eD o'=0):=by rw [Bool.eq_iff_iff];simp
 refine SW.g1 [0,1,3,4,5,6] mixed (hz) hw ?_
 refine SW.ret ?_
 exact End.mk S.h0 (h4:=⟨by rw [hG,h];simp [eP],rfl⟩) (h6:=S.ok (Nat.le_refl 7))
theorem Dv (S:Sh)(hu:S.ue)(hs:mB S)(d:Dt)(n:Sn)(hn:n.ok)(k:Nat):aM Tryz.prog shape_Shape_Good.f [.ptr n.b 0,.agg d.cells] (S.hp n) k 0 (bl (S.good d)) (S.hp n):=
 S.at_ (Du S hu hs d) (fun ρ=>by simp [SV.aW,SV.aC,Dt.ax]) (fun _=>rfl) n hn k
end
end
section
def rT (l:List ag)(d:Dt):ag:=(aD l d).getD ag.zero
def mF (l:List ag)(d:Dt)(o:ag):Bool:=(aD l d).isSome && (rT l d).before o
def rF (l:List ag)(o:ag):Bool:=if o.kind=0 then decide (o.aG=o.dot) else (aD l o.aG).isSome && (decide ((rT l o.aG).kind=0) && (decide ((rT l o.aG).aG=(rT l o.aG).dot) && (rT l o.aG).before o))
def pV (l:List ag)(tr:MM Dt Cr)(d:Dt)(o:ag):Bool:=MM.has tr d && (decide (((MM.get tr d).getD Cr.zero).aG=o.aG) && mF l d o)
def tG (tr:MM Dt Cr)(md:MM Dt ag)(o:ag):Nat:=Tr.why ⟨0,1,2,tr,0,md,0⟩ o
def l8 (l:List ag)(tr:MM Dt Cr)(md:MM Dt ag)(o:ag)(t:Bool):Nat:=
 if decide ((o.kind:Int)>8) then 2 else if !rF l o then 271 else if !((o.kind:Int) == 0) && !pV l tr o.aK o then 272 else if !((o.kind:Int) == 0) && ((((MM.get tr o.aK).getD Cr.zero).hold:Int) != (o.who:Int)) then 273
 else if mU ((MM.get tr o.aK).getD Cr.zero) o.kind then 274 else if decide (o.kind=1) && decide (tG tr md o≠0) then 275 else if !t then 276 else 0
def yJ (l:List ag)(tr:MM Dt Cr)(md:MM Dt ag)(d:Dt):Bool:=match aD l d with
 | some o=>decide (o.kind=3) && decide (l8 l tr md o true=0)
 | none=>false
def lu (l:List ag)(tr:MM Dt Cr)(md:MM Dt ag)(d:Dt)(o:ag):Bool:=yJ l tr md d && (decide ((rT l d).aG=o.aG) && mF l d o)
def tH (l:List ag)(tr:MM Dt Cr)(md:MM Dt ag)(d:Dt):Option Dt:=match aD l d with
 | some o=>if o.kind=4∧l8 l tr md o (lu l tr md o.at_ o)=0 then some o.at_ else none
 | none=>none
def xO (l:List ag)(tr:MM Dt Cr)(md:MM Dt ag)(c:Cm)(o:ag):Bool:=lu l tr md c.line o && (decide (c.iK=c.line) || ((tH l tr md c.iK).isSome && (decide ((tH l tr md c.iK).getD ⟨0,0⟩=c.line) && mF l c.iK o)))
def FJ (l:List ag)(tr:MM Dt Cr)(md:MM Dt ag)(o:ag)(ab:Bool):Bool:=
 if o.kind=2 then pV l tr o.at_ o && ab else if o.kind=4∨o.kind=5 then lu l tr md o.at_ o else if o.kind=6∨o.kind=7 then xO l tr md ⟨o.at_,o.iK⟩ o else if o.kind=8 then !(o.cl.any fun c=> !xO l tr md c o) else true
def yK (l:List ag)(tr:MM Dt Cr)(md:MM Dt ag)(o:ag)(ab:Bool):Nat:=l8 l tr md o (FJ l tr md o ab)
section
variable {l:List ag} {S:Sh} (hB:iS l S)
include hB
theorem iS.op (d:Dt):S.op d=rT l d:=by unfold Sh.op rT;rw [hB.ops.get]
theorem iS.has (d:Dt):MM.has S.ops d=(aD l d).isSome:=by unfold MM.has;rw [hB.ops.get]
theorem iS.r9 (d:Dt)(o:ag):S.r9 d o=mF l d o:=by unfold Sh.r9 mF;rw [hB.op,hB.has]
theorem iS.aG (o:ag):S.aG o=rF l o:=by unfold Sh.aG rF;rw [hB.op,hB.has]
theorem iS.we (d:Dt)(o:ag):S.we d o=pV l S.tr d o:=by unfold Sh.we pV Sh.cr;rw [hB.r9]
theorem iS.HU (o:ag):S.T.why o=tG S.tr S.md o:=rfl
theorem iS.why (o:ag)(ab:Bool):S.why o ab=l8 l S.tr S.md o (S.tgt o ab):=by
 unfold Sh.why l8
 rw [← hB.aG,← hB.we,← hB.HU]
 rfl
end
theorem iS.JL {l:List ag}{S:Sh}(hB:iS l S){o:ag}(hk:o.kind=3):S.eD o=l8 l S.tr S.md o true:=by
 unfold Sh.eD
 rw [hB.why]
 have:S.tgt o (S.EH o.aK o.at_)=true:=by unfold Sh.tgt;rw [if_neg (by omega),if_neg (by omega),if_neg (by omega),if_neg (by omega)]
 rw [this]
section
variable {l:List ag} {S:Sh} (h:cN l S)
include h
theorem cN.add (d:Dt):decide (0<(MM.get S.gf d).getD 0)=yJ l S.tr S.md d:=by
 rw [Bool.eq_iff_iff,decide_eq_true_eq]
 unfold yJ
 constructor
 ·intro h1
  cases hg:MM.get S.gf d with
  | none=>rw [hg] at h1;exact absurd h1 (by decide)
  | some v=>
   obtain ⟨_,x,hx,e,h3,h4⟩:=(h.gf.2 d v).1 hg
   have h5:=nZ h.base.ops.wf.keys hx
   rw [e,h.base.ops.get] at h5
   rw [h5]
   rw [h.base.JL h3] at h4
   simp [h3,h4]
 ·intro h1
  cases ho:aD l d with
  | none=>rw [ho] at h1;cases h1
  | some o=>
   rw [ho] at h1
   simp only [Bool.and_eq_true,decide_eq_true_eq] at h1
   obtain ⟨x,hx,e1,e2⟩:=get_mem (show MM.get S.ops d=some o by rw [h.base.ops.get];exact ho)
   have h2:=(h.gf.2 d 1).2 ⟨rfl,x,hx,e1,by rw [e2];exact h1.1,by rw [e2,h.base.JL h1.1];exact h1.2⟩
   rw [h2];decide
theorem cN.line (d:Dt)(o:ag):S.line d o=lu l S.tr S.md d o:=by unfold Sh.line lu;rw [h.add,h.base.op,h.base.r9]
theorem cN.set (d:Dt):MM.get S.mA d=tH l S.tr S.md d:=by
 have hw:∀ o:ag,o.kind=4→S.eD o=l8 l S.tr S.md o (lu l S.tr S.md o.at_ o):=fun o hk=>by
  unfold Sh.eD
  rw [h.base.why,← h.line]
  have:S.tgt o (S.EH o.aK o.at_)=S.line o.at_ o:=by unfold Sh.tgt;rw [if_neg (by omega),if_pos (.inl hk)]
  rw [this]
 refine Option.ext fun v=> ?_
 rw [h.mA.2]
 unfold tH
 constructor
 ·rintro ⟨x,hx,e,h3,h4,rfl⟩
  have h5:=nZ h.base.ops.wf.keys hx
  rw [e,h.base.ops.get] at h5
  rw [h5]
  rw [hw _ h3] at h4
  exact if_pos ⟨h3,h4⟩
 ·intro h1
  cases ho:aD l d with
  | none=>rw [ho] at h1;cases h1
  | some o=>
   rw [ho] at h1
   dsimp only at h1
   split at h1
   ·rename_i h2
    injection h1 with h1
    obtain ⟨x,hx,e1,e2⟩:=get_mem (show MM.get S.ops d=some o by rw [h.base.ops.get];exact ho)
    exact ⟨x,hx,e1,by rw [e2];exact h2.1,by rw [e2,hw _ h2.1];exact h2.2,by rw [e2];exact h1.symm⟩
   ·cases h1
theorem cN.qN (c:Cm)(o:ag):S.qN c o=xO l S.tr S.md c o:=by
 unfold Sh.qN xO MM.has
 rw [h.line,h.set,h.base.r9]
theorem cN.tgt (o:ag)(ab:Bool):S.tgt o ab=FJ l S.tr S.md o ab:=by
 unfold Sh.tgt FJ
 simp only [h.line,h.qN,h.base.we]
theorem cN.why (o:ag)(ab:Bool):S.why o ab=yK l (a_ l).at_ (a_ l).made o ab:=by
 unfold yK
 rw [h.base.why,h.tgt,h.base.tr,h.base.md]
theorem cN.eD (o:ag):S.eD o=yK l (a_ l).at_ (a_ l).made o (mT (a_ l).at_ o.aK o.at_ (mV (a_ l).at_ o.at_)):=by
 unfold Sh.eD
 rw [h.why]
 unfold Sh.EH
 rw [h.base.tr]
end
end
section
theorem oS (c:Cr):mU c 0=false:=by
 unfold mU
 have h:(jr 0:Int)=((0:Nat):Int):=rfl
 rw [h,and_eq]
 simp
structure jh (t l:List ag)(A:ag→Prop):Prop where
 uniq:fL l
 A2:fL t
 sub:∀ o,o∈t→o∈l
 pK:∀ o,A o→o∈t
 Kr:∀ o a,A o→a∈l→a.before o=true→a.aG=o.aG→A a
theorem A6 {l:List ag}:∀ (m:Nat) (d:Dt) (a:ag),(dD l m d).2=true→aD l d=some a→(dD l m d).1.aG=a.aG
 | 0,d,a,h,hf=>by cases h
 | m +1,d,a,h,hf=>by
  simp only [dD,hf] at h ⊢
  by_cases hk:a.kind=0
  ·rw [if_pos hk] at h ⊢
   exact (of_decide_eq_true h).symm
  ·rw [if_neg hk] at h ⊢
   by_cases hw:(eL l (dD l m a.aK) a).2≠0
   ·rw [if_pos hw] at h;cases h
   ·rw [if_neg hw]
theorem pW {l:List ag}{g:Cr×Bool}{o:ag}(h:fD l g o=true):(eL l g o).2≠0:=by
 unfold eL
 by_cases hk:o.kind≠1
 ·rw [if_pos hk];show (2:Nat)≠0;decide
 ·rw [if_neg hk,if_pos h];show (272:Nat)≠0;decide
theorem qR {l:List ag}(m:Nat){d:Dt}(h:aD l d=none):(dD l m d).2=false:=by
 cases m with
 | zero=>simp only [dD]
 | succ m=>simp only [dD,h]
theorem zX {l:List ag}{m:Nat}{o a:ag}(hf:aD l o.aK=some a)(h: ¬ (a.before o=true∧a.aG=o.aG)):fD l (dD l m o.aK) o=true:=by
 unfold fD
 cases hg:(dD l m o.aK).2 with
 | false=>rfl
 | true=>
  rw [A6 m o.aK a hg hf,hf]
  by_cases hc:a.aG=o.aG
  ·have:a.before o=false:=by
    rw [Bool.eq_false_iff];exact fun hb=>h ⟨hb,hc⟩
   simp [this]
  ·simp [hc]
theorem nX.aG {l:List ag}{U:Tr}(hU:nX l U){d:Dt}{c:Cr}(hc:MM.get U.at_ d=some c):∃ a,aD l d=some a∧c.aG=a.aG:=by
 obtain ⟨a,_,ha⟩:=hU.cr d c hc
 refine ⟨a,ha.fd,?_⟩
 rcases ha.how with ⟨_,h2,h3⟩ | ⟨p,q,_,_,hb⟩
 ·rw [h3];show a.dot=a.aG;rw [h2,dS ha.fd]
 ·rw [hb.is]
section
variable {t l:List ag} {A:ag→Prop} (h:jh t l A)
include h
theorem jh.up {d:Dt}{o:ag}(hf:aD t d=some o):aD l d=some o:=by
 obtain ⟨h1,rfl⟩:=cT hf
 exact h.uniq.find (h.sub o h1)
theorem jh.at_ {d:Dt}{o:ag}(hf:aD l d=some o)(ha:A o):aD t d=some o:=by
 rw [← dS hf]
 exact h.A2.find (h.pK o ha)
theorem jh.down {d:Dt}{o a:ag}(ho:A o)(hf:aD l d=some a)(hb:a.before o=true)(hc:a.aG=o.aG):A a:=h.Kr o a ho (cT hf).1 hb hc
theorem jh.eL (m:Nat){o:ag}(ho:A o)(ih:∀ a,aD l o.aK=some a→A a→dD t m o.aK=dD l m o.aK):
  Go.Proofs.YtaelhkkjgfobhaaGreat.eL t (dD t m o.aK) o=Go.Proofs.YtaelhkkjgfobhaaGreat.eL l (dD l m o.aK) o∨(Go.Proofs.YtaelhkkjgfobhaaGreat.eL t (dD t m o.aK) o).2≠0∧(Go.Proofs.YtaelhkkjgfobhaaGreat.eL l (dD l m o.aK) o).2≠0:=by
 cases hf:aD l o.aK with
 | none=>
  have hn:aD t o.aK=none:=by
   cases ht:aD t o.aK with
   | none=>rfl
   | some a=>rw [h.up ht] at hf;cases hf
  refine .inr ⟨pW ?_,pW ?_⟩
  ·unfold fD;rw [qR m hn];rfl
  ·unfold fD;rw [qR m hf];rfl
 | some a=>
  by_cases hb:a.before o=true∧a.aG=o.aG
  ·have haa:=h.down ho hf hb.1 hb.2
   refine .inl ?_
   rw [ih a hf haa]
   unfold Go.Proofs.YtaelhkkjgfobhaaGreat.eL fD
   rw [h.at_ hf haa,hf]
  ·refine .inr ⟨pW ?_,pW (zX hf hb)⟩
   cases ht:aD t o.aK with
   | none=>unfold fD;rw [qR m ht];rfl
   | some b=>
    have:=h.up ht
    rw [hf] at this;injection this with this
    subst this
    exact zX ht hb
theorem jh.dD:∀ (m:Nat) (d:Dt) (o:ag),aD l d=some o→A o→Go.Proofs.YtaelhkkjgfobhaaGreat.dD t m d=Go.Proofs.YtaelhkkjgfobhaaGreat.dD l m d
 | 0,d,o,_,_=>by simp only [Go.Proofs.YtaelhkkjgfobhaaGreat.dD]
 | m +1,d,o,hf,ho=>by
  simp only [Go.Proofs.YtaelhkkjgfobhaaGreat.dD,hf,h.at_ hf ho]
  by_cases hk:o.kind=0
  ·rw [if_pos hk,if_pos hk]
  ·rw [if_neg hk,if_neg hk]
   rcases h.eL m ho (fun a h1 h2=>jh.dD m _ a h1 h2) with hw | ⟨n1,n2⟩
   ·rw [hw]
   ·rw [if_pos n1,if_pos n2]
variable {T U:Tr} (hT:nX t T) (hU:nX l U)
include hT hU
theorem jh.get {d:Dt}{o:ag}(hf:aD l d=some o)(ho:A o):MM.get T.at_ d=MM.get U.at_ d:=by
 obtain ⟨a1,a2⟩:=hT.get d
 obtain ⟨b1,b2⟩:=hU.get d
 have e:=h.dD 10 d o hf ho
 cases g1:MM.get T.at_ d with
 | some c=>
  have:=a2 c g1
  rw [e] at this
  cases g2:MM.get U.at_ d with
  | some c'=>rw [b2 c' g2] at this;cases this;rfl
  | none=>
   have b1:(Go.Proofs.YtaelhkkjgfobhaaGreat.dD l 10 d).2=(MM.get U.at_ d).isSome:=b1
   rw [g2,this] at b1;cases b1
 | none=>
  have a1:(Go.Proofs.YtaelhkkjgfobhaaGreat.dD t 10 d).2=(MM.get T.at_ d).isSome:=a1
  rw [g1,e] at a1
  cases g2:MM.get U.at_ d with
  | some c'=>rw [b2 c' g2] at a1;cases a1
  | none=>rfl
theorem jh.ue {oc:Option Cr}{L:List Cr}(hL:rS T.at_ oc L):(∀ c,oc=some c→∃ d o,MM.get T.at_ d=some c∧aD l d=some o∧A o)→rS U.at_ oc L:=by
 induction hL with
 | none=>intro _;exact .none
 | root c hc=>intro _;exact .root c hc
 | more c L hc h2 ih=>
  intro hx
  obtain ⟨d,x,hd,hx,hax⟩:=hx c rfl
  obtain ⟨o,p,q,ho,hq,hp,hb⟩:=hT.above hd hc
  have e1:o=x:=by have:=h.up ho;rw [hx] at this;injection this with this;exact this.symm
  subst e1
  obtain ⟨q',hq',hc'⟩:=hT.aG hp
  rw [hq] at hq';injection hq' with hq';subst hq'
  have haq:A q:=h.down hax (h.up hq) hb.r9 (by rw [← hc',hb.aG])
  have e:=h.get hT hU (h.up hq) haq
  refine .more c L hc ?_
  rw [← e]
  exact ih fun c' hc''=>⟨c.par,q,hc'',h.up hq,haq⟩
theorem jh.JM {d:Dt}{o:ag}(hf:aD l d=some o)(ho:A o):mV T.at_ d=mV U.at_ d:=by
 obtain ⟨L,hL,_⟩:=hT.ue d
 have e:=h.get hT hU hf ho
 have:=h.ue hT hU hL fun c hc=>⟨d,o,hc,hf,ho⟩
 rw [e] at this
 rw [i_ hL,i_ this]
end
end
section
noncomputable def mG (l:List ag)(o:ag):Nat:=yK l (a_ l).at_ (a_ l).made o (mT (a_ l).at_ o.aK o.at_ (mV (a_ l).at_ o.at_))
theorem zY (l:List ag)(o:ag):tG (a_ l).at_ (a_ l).made o=(eL l (dD l 10 o.aK) o).2:=((gU l).why o).symm
theorem bI {l:List ag}{d:Dt}{a:ag}(h:aD l d=some a):rT l d=a:=by unfold rT;rw [h];rfl
theorem tI {l:List ag}{d:Dt}{o:ag}:pV l (a_ l).at_ d o=true↔∃ c a,MM.get (a_ l).at_ d=some c∧aD l d=some a∧a.before o=true∧a.aG=o.aG∧c.aG=o.aG:=by
 unfold pV MM.has mF
 constructor
 ·intro h
  simp only [Bool.and_eq_true,decide_eq_true_eq] at h
  obtain ⟨h1,h2,h3,h4⟩:=h
  obtain ⟨c,hc⟩:=Option.isSome_iff_exists.1 h1
  obtain ⟨a,ha,e⟩:=(gU l).aG hc
  rw [bI ha] at h4
  rw [hc] at h2
  have h2:c.aG=o.aG:=h2
  exact ⟨c,a,hc,ha,h4,by rw [← e,h2],h2⟩
 ·rintro ⟨c,a,h1,h2,h3,h4,h5⟩
  rw [h1,bI h2,h2]
  simp [h3,h5]
theorem l9 {l:List ag}{tr:MM Dt Cr}{md:MM Dt ag}{d:Dt}{o:ag}:lu l tr md d o=(yJ l tr md d && (mF l d o && decide ((rT l d).aG=o.aG))):=by
 unfold lu;rw [Bool.and_comm (decide _)]
theorem qS {l:List ag}{d:Dt}{o:ag}(hl:(mF l d o && decide ((rT l d).aG=o.aG))=true):∃ a,aD l d=some a∧a.before o=true∧a.aG=o.aG:=by
 unfold mF at hl
 simp only [Bool.and_eq_true,decide_eq_true_eq] at hl
 obtain ⟨⟨h1,h2⟩,h3⟩:=hl
 obtain ⟨a,ha⟩:=Option.isSome_iff_exists.1 h1
 rw [bI ha] at h2 h3
 exact ⟨a,ha,h2,h3⟩
section
variable {t l:List ag} {A:ag→Prop} (h:jh t l A)
include h
theorem jh.vG {d:Dt}{o:ag}(hf:aD l d=some o)(ho:A o):MM.get (a_ t).at_ d=MM.get (a_ l).at_ d:=h.get (gU t) (gU l) hf ho
theorem jh.we (d:Dt){o:ag}(ho:A o):pV t (a_ t).at_ d o=pV l (a_ l).at_ d o:=by
 rw [Bool.eq_iff_iff,tI,tI]
 constructor
 ·rintro ⟨c,a,h1,h2,h3,h4,h5⟩
  have hl:=h.up h2
  exact ⟨c,a,by rw [← h.vG hl (h.down ho hl h3 h4)];exact h1,hl,h3,h4,h5⟩
 ·rintro ⟨c,a,h1,h2,h3,h4,h5⟩
  have ha:=h.down ho h2 h3 h4
  exact ⟨c,a,by rw [h.vG h2 ha];exact h1,h.at_ h2 ha,h3,h4,h5⟩
theorem jh.yL {d:Dt}{o:ag}(ho:A o)(hc:pV l (a_ l).at_ d o=true):MM.get (a_ t).at_ d=MM.get (a_ l).at_ d∧mV (a_ t).at_ d=mV (a_ l).at_ d:=by
 obtain ⟨c,a,h1,h2,h3,h4,h5⟩:=tI.1 hc
 have ha:=h.down ho h2 h3 h4
 exact ⟨h.vG h2 ha,h.JM (gU t) (gU l) h2 ha⟩
theorem jh.look (d:Dt){o:ag}(ho:A o):(mF t d o && decide ((rT t d).aG=o.aG))=(mF l d o && decide ((rT l d).aG=o.aG)):=by
 rw [Bool.eq_iff_iff]
 unfold mF
 simp only [Bool.and_eq_true,decide_eq_true_eq]
 constructor
 ·rintro ⟨⟨h1,h2⟩,h3⟩
  obtain ⟨a,ha⟩:=Option.isSome_iff_exists.1 h1
  have hl:=h.up ha
  rw [bI ha] at h2 h3
  rw [bI hl,hl]
  exact ⟨⟨rfl,h2⟩,h3⟩
 ·rintro ⟨⟨h1,h2⟩,h3⟩
  obtain ⟨a,ha⟩:=Option.isSome_iff_exists.1 h1
  rw [bI ha] at h2 h3
  have ht:=h.at_ ha (h.down ho ha h2 h3)
  rw [bI ht,ht]
  exact ⟨⟨rfl,h2⟩,h3⟩
theorem jh.aG {o:ag}(ho:A o):rF t o=rF l o:=by
 unfold rF
 by_cases hk:o.kind=0
 ·rw [if_pos hk,if_pos hk]
 ·rw [if_neg hk,if_neg hk,Bool.eq_iff_iff]
  simp only [Bool.and_eq_true,decide_eq_true_eq]
  constructor
  ·rintro ⟨h1,h2,h3,h4⟩
   obtain ⟨a,ha⟩:=Option.isSome_iff_exists.1 h1
   have hl:=h.up ha
   rw [bI ha] at h2 h3 h4
   rw [bI hl,hl]
   exact ⟨rfl,h2,h3,h4⟩
  ·rintro ⟨h1,h2,h3,h4⟩
   obtain ⟨a,ha⟩:=Option.isSome_iff_exists.1 h1
   rw [bI ha] at h2 h3 h4
   have ht:=h.at_ ha (h.down ho ha h4 (by rw [h3,dS ha]))
   rw [bI ht,ht]
   exact ⟨rfl,h2,h3,h4⟩
theorem jh.HU {o:ag}(ho:A o):decide (tG (a_ t).at_ (a_ t).made o≠0)=decide (tG (a_ l).at_ (a_ l).made o≠0):=by
 rw [zY,zY]
 rcases h.eL 10 ho (fun a h1 h2=>h.dD 10 _ a h1 h2) with e | ⟨e1,e2⟩
 ·rw [e]
 ·rw [decide_eq_true e1,decide_eq_true e2]
theorem jh.l8 {o:ag}(ho:A o)(x y:Bool)(hxy:(o.kind≠0→pV l (a_ l).at_ o.aK o=true)→x=y):Go.Proofs.YtaelhkkjgfobhaaGreat.l8 t (a_ t).at_ (a_ t).made o x=Go.Proofs.YtaelhkkjgfobhaaGreat.l8 l (a_ l).at_ (a_ l).made o y:=by
 unfold Go.Proofs.YtaelhkkjgfobhaaGreat.l8
 rw [h.aG ho,h.we _ ho,h.HU ho]
 by_cases hk:o.kind=0
 ·have hk':((o.kind:Int) == 0)=true:=by rw [hk];rfl
  rw [hk',hxy (fun hn=>absurd hk hn),hk,oS,oS]
  simp
 ·have hk':((o.kind:Int) == 0)=false:=by simp;exact hk
  cases hc:pV l (a_ l).at_ o.aK o with
  | false=>rw [hk'];simp
  | true=>
   rw [(h.yL ho hc).1,hxy (fun _=>hc)]
theorem jh.add {d:Dt}{o:ag}(hf:aD l d=some o)(ho:A o):yJ t (a_ t).at_ (a_ t).made d=yJ l (a_ l).at_ (a_ l).made d:=by
 unfold yJ
 rw [hf,h.at_ hf ho]
 dsimp only
 rw [h.l8 ho true true (fun _=>rfl)]
theorem jh.line (d:Dt){o:ag}(ho:A o):lu t (a_ t).at_ (a_ t).made d o=lu l (a_ l).at_ (a_ l).made d o:=by
 rw [l9,l9,h.look d ho]
 cases hl:(mF l d o && decide ((rT l d).aG=o.aG)) with
 | false=>simp
 | true=>
  obtain ⟨a,h1,h2,h3⟩:=qS hl
  rw [h.add h1 (h.down ho h1 h2 h3)]
theorem jh.set {d:Dt}{o:ag}(hf:aD l d=some o)(ho:A o):tH t (a_ t).at_ (a_ t).made d=tH l (a_ l).at_ (a_ l).made d:=by
 unfold tH
 rw [hf,h.at_ hf ho]
 dsimp only
 rw [h.line _ ho,h.l8 ho _ _ (fun _=>rfl)]
end
theorem Dw {l:List ag}{tr:MM Dt Cr}{md:MM Dt ag}{d e:Dt}:tH l tr md d=some e↔∃ x,aD l d=some x∧x.kind=4∧Go.Proofs.YtaelhkkjgfobhaaGreat.l8 l tr md x (lu l tr md x.at_ x)=0∧x.at_=e:=by
 unfold tH
 constructor
 ·intro h
  split at h
  ·rename_i x hx
   split at h
   ·rename_i hc
    injection h with h
    exact ⟨x,hx,hc.1,hc.2,h⟩
   ·cases h
  ·cases h
 ·rintro ⟨x,h1,h2,h3,h4⟩
  rw [h1]
  dsimp only
  rw [if_pos ⟨h2,h3⟩,h4]
theorem HV {l:List ag}{tr:MM Dt Cr}{md:MM Dt ag}{o:ag}{x:Bool}(h:Go.Proofs.YtaelhkkjgfobhaaGreat.l8 l tr md o x=0):x=true:=by
 cases x with
 | true=>rfl
 | false=>
  exfalso
  unfold Go.Proofs.YtaelhkkjgfobhaaGreat.l8 at h
  revert h
  simp only [Bool.not_false,if_true]
  repeat' split
  all_goals simp
theorem vu {l:List ag}{tr:MM Dt Cr}{md:MM Dt ag}{d e:Dt}{o:ag}(h:tH l tr md d=some e)(hl:lu l tr md e o=true):∃ x,aD l d=some x∧x.aG=o.aG:=by
 obtain ⟨x,h1,h2,h3,h4⟩:=Dw.1 h
 have h5:=HV h3
 rw [h4,l9,Bool.and_eq_true] at h5
 rw [l9,Bool.and_eq_true] at hl
 obtain ⟨a,a1,a2,a3⟩:=qS h5.2
 obtain ⟨b,b1,b2,b3⟩:=qS hl.2
 rw [a1] at b1;injection b1 with b1;subst b1
 exact ⟨x,h1,by rw [← a3,b3]⟩
theorem xP {l:List ag}{tr:MM Dt Cr}{md:MM Dt ag}{c:Cm}{o:ag}:xO l tr md c o=true↔lu l tr md c.line o=true∧(c.iK=c.line∨tH l tr md c.iK=some c.line∧mF l c.iK o=true):=by
 unfold xO
 simp only [Bool.and_eq_true,Bool.or_eq_true,decide_eq_true_eq]
 constructor
 ·rintro ⟨h1,h2 | ⟨h2,h3,h4⟩⟩
  ·exact ⟨h1,.inl h2⟩
  ·obtain ⟨e,he⟩:=Option.isSome_iff_exists.1 h2
   rw [he] at h3
   have h3:e=c.line:=h3
   exact ⟨h1,.inr ⟨by rw [he,h3],h4⟩⟩
 ·rintro ⟨h1,h2 | ⟨h2,h3⟩⟩
  ·exact ⟨h1,.inl h2⟩
  ·exact ⟨h1,.inr ⟨by rw [h2];rfl,by rw [h2];rfl,h3⟩⟩
section
variable {t l:List ag} {A:ag→Prop} (h:jh t l A)
include h
theorem jh.qN (c:Cm){o:ag}(ho:A o):xO t (a_ t).at_ (a_ t).made c o=xO l (a_ l).at_ (a_ l).made c o:=by
 rw [Bool.eq_iff_iff,xP,xP,h.line _ ho]
 constructor
 ·rintro ⟨h1,h2 | ⟨h2,h3⟩⟩
  ·exact ⟨h1,.inl h2⟩
  ·obtain ⟨x,hx,e⟩:=vu h2 (by rw [h.line _ ho];exact h1)
   have hl:=h.up hx
   unfold mF at h3
   rw [bI hx,hx] at h3
   have ha:=h.down ho hl (by simpa using h3) e
   refine ⟨h1,.inr ⟨by rw [← h.set hl ha];exact h2,?_⟩⟩
   unfold mF
   rw [bI hl,hl];exact h3
 ·rintro ⟨h1,h2 | ⟨h2,h3⟩⟩
  ·exact ⟨h1,.inl h2⟩
  ·obtain ⟨x,hl,e⟩:=vu h2 h1
   unfold mF at h3
   rw [bI hl,hl] at h3
   have ha:=h.down ho hl (by simpa using h3) e
   have hx:=h.at_ hl ha
   refine ⟨h1,.inr ⟨by rw [h.set hl ha];exact h2,?_⟩⟩
   unfold mF
   rw [bI hx,hx];exact h3
theorem jh.why {o:ag}(ho:A o):mG t o=mG l o:=by
 unfold mG yK
 refine h.l8 ho _ _ fun hc=> ?_
 unfold FJ
 rw [h.we _ ho,h.line _ ho]
 simp only [h.qN _ ho]
 by_cases k2:o.kind=2
 ·rw [if_pos k2,if_pos k2]
  cases hd:pV l (a_ l).at_ o.at_ o with
  | false=>rfl
  | true=>
   unfold mT
   rw [(h.yL ho hd).2]
 ·rw [if_neg k2,if_neg k2]
end
end
section
theorem Dx {l :List ag}{tr:MM Dt Cr}{md:MM Dt ag}{o:ag}{x:Bool}:Go.Proofs.YtaelhkkjgfobhaaGreat.l8 l tr md o x=0↔ ¬ (o.kind:Int)>8∧rF l o=true∧(o.kind≠0→pV l tr o.aK o=true∧((((MM.get tr o.aK).getD Cr.zero).hold:Int)=(o.who:Int))∧mU ((MM.get tr o.aK).getD Cr.zero) o.kind=false)∧(o.kind=1→tG tr md o=0)∧x=true:=by
 unfold Go.Proofs.YtaelhkkjgfobhaaGreat.l8
 by_cases h8:(o.kind:Int)>8
 ·rw [decide_eq_true h8];simp [h8]
 rw [decide_eq_false h8]
 cases hc:rF l o with
 | false=>simp
 | true=>
  by_cases hk:o.kind=0
  ·have hk':((o.kind:Int) == 0)=true:=by rw [hk];rfl
   rw [hk',hk,oS]
   cases x <;> simp
  ·have hk':((o.kind:Int) == 0)=false:=by simp;exact hk
   rw [hk']
   cases h1:pV l tr o.aK o with
   | false=>simp [hk]
   | true=>
    by_cases h2:(((MM.get tr o.aK).getD Cr.zero).hold:Int)=(o.who:Int)
    ·have h2':((((MM.get tr o.aK).getD Cr.zero).hold:Int) != (o.who:Int))=false:=by simpa using h2
     rw [h2']
     cases h3:mU ((MM.get tr o.aK).getD Cr.zero) o.kind with
     | true=>simp [hk]
     | false=>
      by_cases h4:o.kind=1
      ·by_cases h5:tG tr md o=0
       ·rw [h5];cases x <;> simp [h2];omega
       ·cases x <;> simp [h4,h5]
      ·cases x <;> simp [h4,h2];omega
    ·have h2':((((MM.get tr o.aK).getD Cr.zero).hold:Int) != (o.who:Int))=true:=by simpa using h2
     rw [h2'];simp [hk,h2]
section
variable {t l:List ag} {A:ag→Prop} (h:jh t l A) (hA:∀ o,o∈t→A o)
include h hA
end
theorem Part.JN {t l:List ag}(h:Part t l):jh t l (· ∈t):=⟨h.uniq,h.A2,h.sub,fun _ h=>h,fun o a ho ha hb _=>h.Kr o a ho ha hb⟩
theorem yM {t l:List ag}(h:Part t l){o:ag}(ho:o∈t):mG t o=mG l o:=h.JN.why ho
theorem cN.good {l:List ag}{S:Sh}(h:cN l S)(d:Dt):S.good d=match aD l d with
  | some o=>decide (mG l o=0)
  | none=>false:=by
 unfold Sh.good
 rw [h.base.has,h.base.op,h.eD]
 cases hf:aD l d with
 | none=>rfl
 | some o=>rw [bI hf];rfl
theorem cN.rG {l:List ag}{S:Sh}(h:cN l S){d:Dt}{o:ag}(hf:aD l d=some o):S.good d=decide (mG l o=0):=by rw [h.good,hf]
theorem cN.JO {l:List ag}{S:Sh}(h:cN l S){d:Dt}(hf:aD l d=none):S.good d=false:=by rw [h.good,hf]
end
end Go.Proofs.YtaelhkkjgfobhaaGreat
