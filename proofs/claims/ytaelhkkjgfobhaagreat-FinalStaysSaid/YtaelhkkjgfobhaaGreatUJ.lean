/-
 Shapes: what a new shape holds (plain).
-/
import Derived.Test.YtaelhkkjgfobhaaGreatUI
set_option linter.unusedSectionVars false
set_option linter.unusedVariables false
set_option linter.unusedSimpArgs false
namespace Go.Proofs.YtaelhkkjgfobhaaGreat
open Go.Sl Go.Proofs
section
theorem oI.uniq {a:MM Dt Cr}{oc:Option Cr}{L M:List Cr}(h:oI a oc L):oI a oc M->L=M:=by
 induction h generalizing M with
 | none=>intro g;cases g;rfl
 | root c hc=>intro g;cases g with
  | root _ _=>rfl
  | more _ L h1 _=>exact absurd h1 hc
 | more c L h1 _ ih=>intro g;cases g with
  | root _ h2=>exact absurd h1 h2
  | more _ L' _ h2=>rw [ih h2]
open Classical in
noncomputable def m_ (a:MM Dt Cr)(d:Dt):List Cr:=if h:∃ L,oI a (MM.get a d) L then Classical.choose h else []
theorem ig {a:MM Dt Cr}{d:Dt}{L:List Cr}(h:oI a (MM.get a d) L):m_ a d=L:=by
 have hx:∃ L,oI a (MM.get a d) L:=⟨L,h⟩;unfold m_;rw [dif_pos hx];exact (Classical.choose_spec hx).uniq h
noncomputable def Sh.HA (S:Sh)(e d:Dt):Bool:=lG S.tr e d (m_ S.tr d)
noncomputable def Sh.fI (S:Sh)(o:ag):Nat:=S.why o (S.HA o.aM o.at_)
def Sh.tR (S:Sh):Prop:=∀ d,∃ L,oI S.tr (MM.get S.tr d) L/\L.length<=9
theorem Sh.Oh (S:Sh)(h:S.tR)(e d:Dt):∃ m,∀ k,aJ Tryz.prog tree_Tree_Above.f [.ptr 4 0,.agg e.cells,.agg d.cells] S.h4 k m (bl (S.HA e d)) S.h4:=by
 obtain ⟨L,hL,hlen⟩:=h d;refine ⟨6+L.length*(1+1),λ k=> ?_⟩;have:=Fa S.KU e d L hL (by omega) k;unfold Sh.HA;rw [ig hL];exact this
theorem Sh.M6 (S:Sh)(h:S.tR)(o:ag)(hk:o.kind<256)(hl:o.mW)(n:Sn)(hn:n.ok)(k:Nat):aJ Tryz.prog shape_Shape_Why.f [.ptr n.b 0,.agg o.cells] (S.hp n) k 0 (i64 (S.fI o)) (S.hp n):=by
 obtain ⟨m,hm⟩:=S.Oh h o.aM o.at_;exact IE S o hk _ (λ k=>KX S o hk hl _ m hm k) n hn k
theorem Sh.sY (S:Sh)(A:MM Dt Int)(c:Nat)(B:MM Dt Dt)(e:Nat){o:ag}(hk:o.kind=3):({ S with gj:=A,ca:=c,mI:=B,cl:=e}:Sh).fI o=S.fI o:=by
 have ht:∀ (T:Sh) (b:Bool),T.tgt o b=true:=λ T b=>by unfold Sh.tgt;rw [if_neg (by omega),if_neg (by omega),if_neg (by omega),if_neg (by omega)]
 have hr:∀ (b:Bool) i,Sh.rF { S with gj:=A,ca:=c,mI:=B,cl:=e} o b i=S.rF o b i:=λ b i=>by
  match i with
  | 0 | 1 | 2 | 3 | 4 | 5=>rfl
  | i+6=>show (!Sh.tgt _ o b)=(!Sh.tgt _ o b);rw [ht,ht]
 show Sh.why _ o (S.HA o.aM o.at_)=S.why o (S.HA o.aM o.at_);unfold Sh.why;simp only [hr]
theorem Sh.zO (S:Sh)(B:MM Dt Dt)(e:Nat){o:ag}(hk:o.kind=4):({ S with mI:=B,cl:=e}:Sh).fI o=S.fI o:=by
 have ht:∀ (b:Bool),Sh.tgt { S with mI:=B,cl:=e} o b=S.tgt o b:=λ b=>by
  unfold Sh.tgt;rw [if_neg (by omega),if_pos (.inl hk),if_neg (by omega),if_pos (.inl hk)];rfl
 have hr:∀ (b:Bool) i,Sh.rF { S with mI:=B,cl:=e} o b i=S.rF o b i:=λ b i=>by
  match i with
  | 0 | 1 | 2 | 3 | 4 | 5=>rfl
  | i+6=>show (!Sh.tgt _ o b)=(!Sh.tgt _ o b);rw [ht]
 show Sh.why _ o (S.HA o.aM o.at_)=S.why o (S.HA o.aM o.at_);unfold Sh.why;simp only [hr]
def B8 (s:MM Dt ag×Nat)(o:ag):MM Dt ag×Nat:=if MM.has s.1 o.dot then s else (MM.put s.1 s.2 o.dot o,MM.jh s.1 s.2 o.dot)
def firstM (l:List ag):MM Dt ag×Nat:=l.foldl B8 ([],0)
theorem tD (l:List ag)(x:ag):firstM (l++[x])=B8 (firstM l) x:=by unfold firstM;rw [List.foldl_append];rfl
theorem ve (l:List ag)(x:ag)(d:Dt):aW (l++[x]) d=(aW l d).or (if x.dot=d then some x else none):=by
 unfold aW;rw [List.find?_append]
 congr 1
 simp only [List.find?_cons,List.find?_nil]
 by_cases h:x.dot=d <;> simp [h]
structure yz (l:List ag)(m:MM Dt ag)(c:Nat):Prop where
 wf:MM.wf m c
 get:∀ d,MM.get m d=aW l d
theorem FT (l:List ag):yz l (firstM l).1 (firstM l).2:=by
 have key:∀ n,∀ l:List ag,l.length=n->yz l (firstM l).1 (firstM l).2:=λ n=>by
  induction n with
  | zero=>
   intro l hl;rw [List.eq_nil_of_length_eq_zero hl];exact ⟨MM.j7,λ d=>by simp [firstM,MM.get,aW]⟩
  | succ n ih=>
   intro l hl;have hne:l≠[]:=λ e=>by rw [e] at hl;cases hl
   have hd:=List.dropLast_concat_getLast hne;obtain ⟨x,hx⟩:∃ x,l.getLast hne=x:=⟨_,rfl⟩;obtain ⟨p,hp⟩:∃ p,l.dropLast=p:=⟨_,rfl⟩;rw [hx,hp] at hd;have hpl:p.length=n:=by rw [<- hp,List.length_dropLast,hl];omega
   have h:=ih p hpl;rw [<- hd,tD];unfold B8
   by_cases hh:MM.has (firstM p).1 x.dot=true
   .rw [if_pos hh]
    refine ⟨h.wf,λ d=> ?_⟩;rw [h.get,ve];have hs:(aW p x.dot).isSome=true:=by rw [<- h.get];exact hh
    by_cases e:x.dot=d
    .subst e
     obtain ⟨y,hy⟩:=Option.isSome_iff_exists.1 hs;rw [hy];rfl
    .rw [if_neg e];simp
   .rw [if_neg hh]
    refine ⟨MM.fV h.wf _ _,λ d=> ?_⟩;rw [MM.bT,h.get,ve];have hs:aW p x.dot=none:=by
     rw [<- h.get];have:(MM.get (firstM p).1 x.dot).isSome=false:=by simpa [MM.has] using hh
     simpa using this
    by_cases e:d=x.dot
    .subst e
     rw [if_pos rfl,hs,if_pos rfl];rfl
    .rw [if_neg e,if_neg (Ne.symm e)];simp
 exact key _ l rfl
end
section
attribute [local irreducible] SW RW aJ SC ai an
abbrev Pw (a:MM Dt Cr)(ca:Nat)(m:MM Dt ag)(cm:Nat):Tr:=⟨2,0,1,a,ca,m,cm⟩
abbrev H2 (a:MM Dt Cr)(ca:Nat)(m:MM Dt ag)(cm:Nat):Hp:=[(2,.box 166 [.mp 0,.mp 1]),(0,.map (ah Dt.cells cv a) ca),(1,.map (ah Dt.cells ov m) cm)]
structure Tn (l:List ag)(a:MM Dt Cr)(ca:Nat)(m:MM Dt ag)(cm:Nat):Prop where
 new:jI l 0=Pw a ca m cm
theorem M7 (l:List ag):∃ a ca m cm,Tn l a ca m cm:=by
 refine ⟨(jI l 0).at_,(jI l 0).ca,(jI l 0).made,(jI l 0).cm,⟨?_⟩⟩;have e1:(jI l 0).bx=2:=by show 0+_=2;rw [Nat.zero_add];exact mH.e1 _
 have e2:(jI l 0).ma=0:=by show 0+_=0;rw [Nat.zero_add];exact mH.e2 _
 have e3:(jI l 0).mm=1:=by show 0+_=1;rw [Nat.zero_add];exact mH.e3 _
 revert e1 e2 e3
 generalize jI l 0=T;obtain ⟨b,x,y,a,ca,m,cm⟩:=T;rintro rfl rfl rfl;rfl
section
variable {l:List ag} {a:MM Dt Cr} {ca:Nat} {m:MM Dt ag} {cm:Nat} (h:Tn l a ca m cm)
include h
theorem Tn.Oi (hl:l.length<1000000000):aJ Tryz.prog tree_New.f [ops l] [] 0 7 (.ptr 2 0) (H2 a ca m cm):=by
 have:=KT l hl 0;rw [h.new] at this;exact this
end
end
section
abbrev n10:Sn:=⟨10,7,8,9,2,0,1⟩
theorem yA:n10.ok:=by decide
abbrev Sh.j5 (S:Sh):Hp:=[(10,.box 117 [.ptr 2 0,.mp 7,.mp 8,.mp 9]),(7,.map (ah Dt.cells ov S.ops) S.co),(8,.map (ah Dt.cells iv S.gj) S.ca),(9,.map (ah Dt.cells dv S.mI) S.cl),
 (2,.box 166 [.mp 0,.mp 1]),(0,.map (ah Dt.cells cv S.tr) S.ct),(1,.map (ah Dt.cells ov S.md) S.cm)]
theorem Sh.ou (S:Sh){k:Nat}(h:11<=k):S.j5.ok (λ n=>decide (n<k))=true:=by
 have a:=a_ (λ n=>decide (n<k)) S.ops;have b:=bB (λ n=>decide (n<k)) S.gj;have c:=jX (λ n=>decide (n<k)) S.mI;have d:=iG (λ n=>decide (n<k)) S.tr;have e:=a_ (λ n=>decide (n<k)) S.md;simp only [Hp.ok,List.all_cons,List.all_nil,Ob.ok,SV.ay,SV.ok,a,b,c,d,e,Bool.and_true,Bool.true_and,Bool.and_eq_true,decide_eq_true_eq];omega
theorem Sh.M8 (S:Sh):(S.j5.map (·.1)).Nodup:=by simp
theorem Sh.JV (S:Sh)(h:S.tR)(o:ag)(hk:o.kind<256)(hl:o.mW)(k:Nat):aJ Tryz.prog shape_Shape_Why.f [.ptr 10 0,.agg o.cells] S.j5 k 0 (i64 (S.fI o)) S.j5:=S.M6 h o hk hl n10 yA k
structure jJ (l:List ag)(S:Sh):Prop where
 ops:yz l S.ops S.co
 tok:lP l S.T
 tR:S.tR
 tr:S.tr=(bh l).at_
 md:S.md=(bh l).made
def j_ (S:Sh)(xs:MM Dt ag)(A:MM Dt Int)(c:Nat):Prop:=MM.wf A c/\∀ d v,MM.get A d=some v↔v=1/\∃ x,x∈xs/\x.2.1=d/\x.2.2.kind=3/\S.fI x.2.2=0
def oK (S:Sh)(xs:MM Dt ag)(B:MM Dt Dt)(c:Nat):Prop:=MM.wf B c/\∀ d v,MM.get B d=some v↔∃ x,x∈xs/\x.2.1=d/\x.2.2.kind=4/\S.fI x.2.2=0/\v=x.2.2.at_
structure bS (l:List ag)(S:Sh):Prop where
 base:jJ l S
 gj:j_ S S.ops S.gj S.ca
 mI:oK S S.ops S.mI S.cl
theorem get_mem {V:Type}{m:MM Dt V}{d:Dt}{v:V}(h:MM.get m d=some v):∃ x,x∈m/\x.2.1=d/\x.2.2=v:=by
 unfold MM.get at h;obtain ⟨x,hx,rfl⟩:=Option.map_eq_some_iff.1 h;exact ⟨x,List.mem_of_find?_eq_some hx,by have:=List.find?_some hx;simp at this;exact this.symm,rfl⟩
theorem rG {V:Type}{m:MM Dt V}(hk:(MM.keys m).Nodup){x:Nat×Dt×V}(hx:x∈m):MM.get m x.2.1=some x.2.2:=by
 have:(MM.get m x.2.1).isSome=true:=by
  unfold MM.get;rw [Option.isSome_map,List.find?_isSome];exact ⟨x,hx,by simp⟩
 obtain ⟨v,hv⟩:=Option.isSome_iff_exists.1 this;obtain ⟨y,hy,e1,e2⟩:=get_mem hv;have:y=x:=by
  have hp:=List.nodup_iff_pairwise_ne.1 hk;unfold MM.keys at hp;rw [List.pairwise_map] at hp;exact Classical.byContradiction λ hne=>by
   rcases List.pairwise_iff_getElem.1 hp with hpp;obtain ⟨i,hi,rfl⟩:=List.getElem_of_mem hy;obtain ⟨j,hj,rfl⟩:=List.getElem_of_mem hx;rcases Nat.lt_trichotomy i j with h | h | h
   .exact hpp i j hi hj h e1
   .subst h;exact hne rfl
   .exact hpp j i hj hi h e1.symm
 rw [hv,<- e2,this]
theorem j_.skip {S:Sh}{xs:MM Dt ag}{A:MM Dt Int}{c:Nat}(h:j_ S xs A c){x:Nat×Dt×ag}(hx: ¬ (x.2.2.kind=3/\S.fI x.2.2=0)):j_ S (xs++[x]) A c:=by
 refine ⟨h.1,λ d v=> ?_⟩;rw [h.2];constructor
 .rintro ⟨h1,y,h2,h3⟩
  exact ⟨h1,y,List.mem_append_left _ h2,h3⟩
 .rintro ⟨h1,y,h2,h3,h4⟩
  rcases List.mem_append.1 h2 with h2 | h2
  .exact ⟨h1,y,h2,h3,h4⟩
  .rw [List.mem_singleton] at h2
   subst h2;exact absurd h4 hx
theorem j_.put {S:Sh}{xs:MM Dt ag}{A:MM Dt Int}{c:Nat}(h:j_ S xs A c){x:Nat×Dt×ag}(hx:x.2.2.kind=3/\S.fI x.2.2=0):j_ S (xs++[x]) (MM.put A c x.2.1 1) (MM.jh A c x.2.1):=by
 refine ⟨MM.fV h.1 _ _,λ d v=> ?_⟩;rw [MM.bT]
 by_cases e:d=x.2.1
 .rw [if_pos e]
  constructor
  .intro h1
   injection h1 with h1;exact ⟨h1.symm,x,List.mem_append_right _ (List.mem_singleton.2 rfl),e.symm,hx⟩
  .rintro ⟨rfl,_⟩;rfl
 .rw [if_neg e,h.2]
  constructor
  .rintro ⟨h1,y,h2,h3⟩
   exact ⟨h1,y,List.mem_append_left _ h2,h3⟩
  .rintro ⟨h1,y,h2,h3,h4⟩
   rcases List.mem_append.1 h2 with h2 | h2
   .exact ⟨h1,y,h2,h3,h4⟩
   .rw [List.mem_singleton] at h2
    subst h2;exact absurd h3.symm e
theorem j_.to {S S':Sh}{xs ys:MM Dt ag}{A:MM Dt Int}{c:Nat}(h:j_ S xs A c)(hm:∀ x,x∈xs↔x∈ys)(hw:∀ o:ag,o.kind=3->S'.fI o=S.fI o):j_ S' ys A c:=by
 refine ⟨h.1,λ d v=> ?_⟩;rw [h.2];constructor
 .rintro ⟨h1,y,h2,h3,h4,h5⟩
  exact ⟨h1,y,(hm y).1 h2,h3,h4,by rw [hw _ h4];exact h5⟩
 .rintro ⟨h1,y,h2,h3,h4,h5⟩
  exact ⟨h1,y,(hm y).2 h2,h3,h4,by rw [<- hw _ h4];exact h5⟩
theorem oK.skip {S:Sh}{xs:MM Dt ag}{A:MM Dt Dt}{c:Nat}(h:oK S xs A c){x:Nat×Dt×ag}(hx: ¬ (x.2.2.kind=4/\S.fI x.2.2=0)):oK S (xs++[x]) A c:=by
 refine ⟨h.1,λ d v=> ?_⟩;rw [h.2];constructor
 .rintro ⟨y,h2,h3⟩
  exact ⟨y,List.mem_append_left _ h2,h3⟩
 .rintro ⟨y,h2,h3,h4,h5,h6⟩
  rcases List.mem_append.1 h2 with h2 | h2
  .exact ⟨y,h2,h3,h4,h5,h6⟩
  .rw [List.mem_singleton] at h2
   subst h2;exact absurd ⟨h4,h5⟩ hx
theorem oK.put {S:Sh}{xs:MM Dt ag}{A:MM Dt Dt}{c:Nat}(h:oK S xs A c){x:Nat×Dt×ag}(hx:x.2.2.kind=4/\S.fI x.2.2=0)(hu:∀ y,y∈xs->y.2.1≠x.2.1):oK S (xs++[x]) (MM.put A c x.2.1 x.2.2.at_) (MM.jh A c x.2.1):=by
 refine ⟨MM.fV h.1 _ _,λ d v=> ?_⟩;rw [MM.bT]
 by_cases e:d=x.2.1
 .rw [if_pos e]
  constructor
  .intro h1
   injection h1 with h1;exact ⟨x,List.mem_append_right _ (List.mem_singleton.2 rfl),e.symm,hx.1,hx.2,h1.symm⟩
  .rintro ⟨y,h2,h3,_,_,h6⟩
   rcases List.mem_append.1 h2 with h2 | h2
   .exact absurd (h3.trans e) (hu y h2)
   .rw [List.mem_singleton] at h2
    subst h2;rw [h6]
 .rw [if_neg e,h.2]
  constructor
  .rintro ⟨y,h2,h3⟩
   exact ⟨y,List.mem_append_left _ h2,h3⟩
  .rintro ⟨y,h2,h3,h4⟩
   rcases List.mem_append.1 h2 with h2 | h2
   .exact ⟨y,h2,h3,h4⟩
   .rw [List.mem_singleton] at h2
    subst h2;exact absurd h3.symm e
theorem oK.to {S S':Sh}{xs ys:MM Dt ag}{A:MM Dt Dt}{c:Nat}(h:oK S xs A c)(hm:∀ x,x∈xs↔x∈ys)(hw:∀ o:ag,o.kind=4->S'.fI o=S.fI o):oK S' ys A c:=by
 refine ⟨h.1,λ d v=> ?_⟩;rw [h.2];constructor
 .rintro ⟨y,h2,h3,h4,h5,h6⟩
  exact ⟨y,(hm y).1 h2,h3,h4,by rw [hw _ h4];exact h5,h6⟩
 .rintro ⟨y,h2,h3,h4,h5,h6⟩
  exact ⟨y,(hm y).2 h2,h3,h4,by rw [<- hw _ h4];exact h5,h6⟩
theorem vf {M xs:MM Dt ag}{c:Nat}(hwf:MM.wf M c)(p1:∀ x,x∈xs->x∈M)(hall:∀ e,e∈ah Dt.cells ov M->(xs.map (·.1)).contains e.1=true):∀ x,x∈xs↔x∈M:=λ x=>⟨p1 x,λ hx=>by
 have:=hall _ (List.mem_map.2 ⟨x,hx,rfl⟩);simp only [List.contains_iff_mem] at this;obtain ⟨z,hz,e⟩:=List.mem_map.1 this;rw [<- MM.ry hwf.times (p1 z hz) hx e];exact hz⟩
theorem sZ {M xs:MM Dt ag}(p1:∀ x,x∈xs->x∈M)(p2:(xs.map (·.1)).Nodup){x:Nat×Dt×ag}(hx:x∈M)(hs:(xs.map (·.1)).contains x.1=false):(∀ z,z∈xs++[x]->z∈M)/\((xs++[x]).map (·.1)).Nodup/\x.1∉xs.map (·.1):=by
 have hxt:x.1∉xs.map (·.1):=λ h=>by
  have:(xs.map (·.1)).contains x.1=true:=by simpa only [List.contains_iff_mem] using h
  rw [this] at hs;cases hs
 refine ⟨λ z hz=> ?_,?_,hxt⟩
 .rcases List.mem_append.1 hz with hz | hz
  .exact p1 z hz
  .rw [List.mem_singleton.1 hz];exact hx
 .rw [List.map_append,List.nodup_append]
  refine ⟨p2,by simp,λ a ha b' hb'=> ?_⟩;simp only [List.map_cons,List.map_nil,List.mem_singleton] at hb';intro e;exact hxt (by rw [<- hb',<- e];exact ha)
section
attribute [local irreducible] SW RW aJ SC ai an
set_option maxHeartbeats 16000000 in
theorem IF (l:List ag)(hl:l.length<1000000000)(hd:∀ o,o∈l->o.kind<256/\o.mW):SB Tryz.prog shape_New.f [ops l] [] 0 11 λ r F=>∃ S,bS l S/\r= .ptr 10 0/\F=S.j5:=by
 obtain ⟨a,ca,m,cm,hT⟩:=M7 l;refine shape_New.enter (by first | rfl | simp [SV.ok,SV.ay]) (by first | rfl | simp [Hp.ok,Ob.ok,SV.ok,SV.ay,aD.aq]) (by simp) ?_;dsimp only [shape_New.s,Co.M,Co.G,Co.J,Co.H,Co.N,Co.F,Co.C,Co.Z,Co.b8,Co.aB,Co.bW,Co.T,Co.K,Co.E,Co.L,Co.P,Co.x,Co.W,Co.Y,Co.V,Co.U,Co.O,Co.D,Co.A,Co.I,Co.S];have hN:=hT.Oi hl;refine SW.seq (SW.g0 [0,2,3,5,7,8,9,10,11,19,20,21,22,36,49,51,63,73,75,87] Zm af ?_);refine SW.seq ?_;have sp4:cG (cG (cG (cG [SV.d .kA,.d .iV,.d .iV,.d .iV] 0 [.ptr 2 0]) 1 [.mp 7]) 2 [.mp 8]) 3 [.mp 9]=[.ptr 2 0,.mp 7,.mp 8,.mp 9]:=rfl;refine SW.g1 [0,2,3,5,7,8,9,10,11,19,20,21,22,36,49,51,63,73,75,87] Zm sp4 hN ?_;have w0:∀ y,y∈(⟨[],0,[],0,[],0,a,ca,m,cm⟩:Sh).j5->lk [(10,.box 117 [.ptr 2 0,.mp 7,.mp 8,.mp 9]),(9,Ob.map [] 0),(8,.map [] 0),(7,.map [] 0),(2,.box 166 [.mp 0,.mp 1]),(0,.map (ah Dt.cells cv a) ca),(1,.map (ah Dt.cells ov m) cm)] y.1=some y.2:=λ y hy=>by
  simp only [List.mem_cons,List.not_mem_nil,or_false] at hy;rcases hy with rfl | rfl | rfl | rfl | rfl | rfl | rfl <;> rfl
 refine SW.weak id (st1:=⟨[(0,ops l),(3,.ptr 10 0)],(⟨[],0,[],0,[],0,a,ca,m,cm⟩:Sh).j5,11⟩) (aI.same (by simp) (by simp [aL,List.lookup,SV.aA,SV.ok,SV.ay]) (Sh.ou _ (Nat.le_refl 11)) w0) ?_;refine SW.seq (SW.seq (SW.g0 [0,2,3,5,7,8,9,10,11,19,20,21,22,36,49,51,63,73,75,87] Zm af ?_));refine SW.block (SW.loop (α:={i:Nat // i<=l.length}) (λ i=>⟨[(21,i64 i.1),(20,i64 l.length),(19,ops l),(3,.ptr 10 0)],(⟨(firstM (l.take i.1)).1,(firstM (l.take i.1)).2,[],0,[],0,a,ca,m,cm⟩:Sh).j5,11⟩) (λ i=>l.length - i.1) ⟨0,by omega⟩ id (aI.same (by simp) (by simp [aL,List.lookup,SV.aA,SV.ok,SV.ay]) (Sh.ou _ (Nat.le_refl 11)) (aH (Sh.M8 _))) ?_);rintro ⟨i,hi⟩;dsimp only
 by_cases h:i<l.length
 .have h1:decide ((i:Int)<l.length)=true:=by simp only [decide_eq_true_eq];omega
  obtain ⟨x,hx⟩:=aZ h;have e2:IntKind.i64.wrap ((i:Int)+1)=((i+1:Nat):Int):=wrap_i64 _ (by omega);have hsn:=tD (l.take i) x;rw [<- dB hx] at hsn;unfold B8 at hsn;obtain ⟨M,hM⟩:∃ M,(firstM (l.take i)).1=M:=⟨_,rfl⟩;obtain ⟨c,hc⟩:∃ c,(firstM (l.take i)).2=c:=⟨_,rfl⟩;rw [hM,hc] at hsn ⊢;obtain ⟨g,hg⟩:∃ g,(MM.get M x.dot).getD ag.zero=g:=⟨_,rfl⟩;have hms:=B5 M c x.dot x;refine SW.seq (SW.g0 [0,2,3,5,7,8,9,10,11,19,20,21,22,36,49,51,63,73,75,87] Zm h1 ?_);refine SW.seq (SW.aj rfl (SW.skip (SW.seq (SW.block (SW.seq (SW.g0 [0,2,3,5,7,8,9,10,11,19,20,21,22,36,49,51,63,73,75,87] Zm (Zq (lW hx) (Zq (jW hx) (Zq (jl hx) (dO hx)))) ?_))))));refine SW.seq ?_;rcases hh:MM.has M x.dot with _ | _
  .rw [hh] at hsn
   simp only [Bool.false_eq_true,if_false] at hsn;refine SW.g0 [0,2,3,5,7,8,9,10,11,19,20,21,22,36,49,51,63,73,75,87] Zm (Zq hh hg) ?_;refine SW.seq (SW.g0 [0,2,3,5,7,8,9,10,11,19,20,21,22,36,49,51,63,73,75,87] Zm af ?_);refine SW.aj rfl (SW.g0 [0,2,3,5,7,8,9,10,11,19,20,21,22,36,49,51,63,73,75,87] Zm hms ?_);refine SW.g0 [0,2,3,5,7,8,9,10,11,19,20,21,22,36,49,51,63,73,75,87] Zm e2 ?_;refine ⟨⟨i+1,by omega⟩,id,by show l.length - (i+1)<l.length - i;omega,?_⟩;dsimp only;rw [hsn];refine aI.same (by simp) (by simp [aL,List.lookup,SV.aA,SV.ok,SV.ay]) (Sh.ou _ (Nat.le_refl 11)) (λ y hy=> ?_);simp only [List.mem_cons,List.not_mem_nil,or_false] at hy;rcases hy with rfl | rfl | rfl | rfl | rfl | rfl | rfl <;> rfl
  .rw [hh] at hsn
   simp only [if_true] at hsn;refine SW.g0 [0,2,3,5,7,8,9,10,11,19,20,21,22,36,49,51,63,73,75,87] Zm (Zq hh hg) ?_;refine SW.seq (SW.g0 [0,2,3,5,7,8,9,10,11,19,20,21,22,36,49,51,63,73,75,87] Zm af ?_);refine SW.au rfl (SW.skip (SW.g0 [0,2,3,5,7,8,9,10,11,19,20,21,22,36,49,51,63,73,75,87] Zm e2 ?_));refine ⟨⟨i+1,by omega⟩,id,by show l.length - (i+1)<l.length - i;omega,?_⟩;dsimp only;rw [hsn,hM,hc];refine aI.same (by simp) (by simp [aL,List.lookup,SV.aA,SV.ok,SV.ay]) (Sh.ou _ (Nat.le_refl 11)) (λ y hy=> ?_);simp only [List.mem_cons,List.not_mem_nil,or_false] at hy;rcases hy with rfl | rfl | rfl | rfl | rfl | rfl | rfl <;> rfl
 have h1:decide ((i:Int)<l.length)=false:=by simp only [decide_eq_false_iff_not];omega
 have hi2:i=l.length:=by omega
 subst hi2;rw [List.take_length];have hF:=FT l;obtain ⟨M,hM⟩:∃ M,(firstM l).1=M:=⟨_,rfl⟩;obtain ⟨c,hc⟩:∃ c,(firstM l).2=c:=⟨_,rfl⟩;rw [hM,hc] at hF ⊢;refine SW.seq (SW.g0 [0,2,3,5,7,8,9,10,11,19,20,21,22,36,49,51,63,73,75,87] Zm h1 ?_);refine SW.seq (SW.au rfl (SW.exit ?_));refine (?_:Sl.SW _ _ _ _ _ _);refine SW.weak id (st1:=⟨[(3,.ptr 10 0)],(⟨M,c,[],0,[],0,a,ca,m,cm⟩:Sh).j5,11⟩) (aI.same (by simp) (by simp [aL,List.lookup,SV.aA,SV.ok,SV.ay]) (Sh.ou _ (Nat.le_refl 11)) (aH (Sh.M8 _))) ?_;obtain ⟨S,hS⟩:∃ S:Sh,(⟨M,c,[],0,[],0,a,ca,m,cm⟩:Sh)=S:=⟨_,rfl⟩;have hB:jJ l S:=by
  rw [<- hS];have hnew:=hT.new;have ht:=AY l 0;rw [hnew] at ht;refine ⟨hF,⟨ht.cr,ht.no⟩,λ d=> ?_,(congrArg Tr.at_ hnew).symm,(congrArg Tr.made hnew).symm⟩;obtain ⟨L,h2,h3,_⟩:=ht.tR d;exact ⟨L,h2,h3⟩
 rw [hS];have hwf:=hB.ops.wf;have hkd:∀ x,x∈S.ops->x.2.2.kind<256/\x.2.2.mW:=λ x hx=>by
  have h1:=rG hwf.keys hx;rw [hB.ops.get] at h1;exact hd _ (sU h1)
 have hSa:({ S with gj:=[],ca:=0}:Sh)=S/\S.mI=[]/\S.cl=0:=by rw [<- hS];exact ⟨rfl,rfl,rfl⟩
 clear hS hN hT w0 hF hM hc;refine SW.seq (SW.seq (SW.g0 [0,2,3,5,7,8,9,10,11,19,20,21,22,36,49,51,63,73,75,87] Zm af ?_));refine SW.block ?_
 refine SW.pR (es:=λ _=>ah Dt.cells ov S.ops) (c:=λ _=>S.co) (ud:=λ _=>11) (nm:=λ _=>7) (since:=λ _=>S.co) (AN:=λ _=>S.co)
  (α:={p:MM Dt ag×MM Dt Int×Nat // (∀ x,x∈p.1->x∈S.ops)/\(p.1.map (·.1)).Nodup/\j_ S p.1 p.2.1 p.2.2})
  (λ p=>⟨[(49,.it 11),(3,.ptr 10 0)],(11,.iter (some 7) S.co (p.1.1.map (·.1)) S.co)::({ S with gj:=p.1.2.1,ca:=p.1.2.2}:Sh).j5,12⟩)
  (λ p=>gw (ah Dt.cells ov S.ops) (p.1.1.map (·.1))) ⟨([],[],0),by simp,by simp,MM.j7,λ d v=>by simp [MM.get]⟩ id (seen:=λ p=>p.1.1.map (·.1)) ?_ (λ p=>by simp [List.lookup]) (λ p=>by simp [aa]) (λ p=>by simp [aa]) (λ p=>by decide) (λ p e he=> ?_) (λ p=>Nat.le_refl _) (λ p hall=> ?_) (λ p e he hs=> ?_)
 .show aI 0 _ ⟨[(49,.it 11),(3,.ptr 10 0)],(11,.iter (some 7) S.co [] S.co)::({ S with gj:=[],ca:=0}:Sh).j5,12⟩ id
  rw [hSa.1];exact aI.same (by simp) (by simp [aL,List.lookup,SV.aA,SV.ok,SV.ay]) (ak (by simp) (by simp [Ob.ok]) (Sh.ou _ (show 11<=12 by omega))) (aH (by simp))
 .obtain ⟨x,hx,rfl⟩:=eV he
  exact hwf.old x hx
 .obtain ⟨⟨xs,A,ac⟩,p1,p2,p3⟩:=p
  dsimp only at*;have hxs:=vf hwf p1 hall;refine ⟨⟨[(3,.ptr 10 0)],({ S with gj:=A,ca:=ac}:Sh).j5,11⟩,id,aI.same (by simp) (by simp [aL,List.lookup,SV.aA,SV.ok,SV.ay]) (Sh.ou _ (Nat.le_refl 11)) (λ y hy=>by
   simp only [List.mem_cons,List.not_mem_nil,or_false] at hy;rcases hy with rfl | rfl | rfl | rfl | rfl | rfl | rfl <;> rfl),?_⟩
  rw [if_pos rfl];obtain ⟨S1,vP⟩:∃ S1:Sh,({ S with gj:=A,ca:=ac}:Sh)=S1:=⟨_,rfl⟩;have hB1:jJ l S1:=by rw [<- vP];exact ⟨hB.ops,⟨hB.tok.cr,hB.tok.no⟩,hB.tR,hB.tr,hB.md⟩
  have hA1:j_ S1 S1.ops S1.gj S1.ca:=by
   rw [<- vP];exact p3.to hxs λ o ho=>S.sY A ac S.mI S.cl ho
  have hops:S1.ops=S.ops/\S1.co=S.co:=by rw [<- vP];exact ⟨rfl,rfl⟩
  have hSb:({ S1 with mI:=[],cl:=0}:Sh)=S1:=by
   rw [<- vP];have h2:=hSa.2.1;have h3:=hSa.2.2;cases S;dsimp only at h2 h3 ⊢;rw [h2,h3]
  rw [vP];have hwf1:=hB1.ops.wf;have hkd1:∀ x,x∈S1.ops->x.2.2.kind<256/\x.2.2.mW:=λ x hx=>hkd x (by rw [<- hops.1];exact hx)
  refine SW.seq (SW.seq (SW.g0 [0,2,3,5,7,8,9,10,11,19,20,21,22,36,49,51,63,73,75,87] Zm af ?_));refine SW.block ?_
  refine SW.pR (es:=λ _=>ah Dt.cells ov S1.ops) (c:=λ _=>S1.co) (ud:=λ _=>11) (nm:=λ _=>7) (since:=λ _=>S1.co) (AN:=λ _=>S1.co)
   (α:={p:MM Dt ag×MM Dt Dt×Nat // (∀ x,x∈p.1->x∈S1.ops)/\(p.1.map (·.1)).Nodup/\oK S1 p.1 p.2.1 p.2.2})
   (λ p=>⟨[(73,.it 11),(3,.ptr 10 0)],(11,.iter (some 7) S1.co (p.1.1.map (·.1)) S1.co)::({ S1 with mI:=p.1.2.1,cl:=p.1.2.2}:Sh).j5,12⟩)
   (λ p=>gw (ah Dt.cells ov S1.ops) (p.1.1.map (·.1))) ⟨([],[],0),by simp,by simp,MM.j7,λ d v=>by simp [MM.get]⟩ id (seen:=λ p=>p.1.1.map (·.1)) ?_ (λ p=>by simp [List.lookup]) (λ p=>by simp [aa]) (λ p=>by simp [aa]) (λ p=>by decide) (λ p e he=> ?_) (λ p=>Nat.le_refl _) (λ p hall=> ?_) (λ p e he hs=> ?_)
  .show aI 0 _ ⟨[(73,.it 11),(3,.ptr 10 0)],(11,.iter (some 7) S1.co [] S1.co)::({ S1 with mI:=[],cl:=0}:Sh).j5,12⟩ id
   rw [hSb];exact aI.same (by simp) (by simp [aL,List.lookup,SV.aA,SV.ok,SV.ay]) (ak (by simp) (by simp [Ob.ok]) (Sh.ou _ (show 11<=12 by omega))) (aH (by simp))
  .obtain ⟨x,hx,rfl⟩:=eV he
   exact hwf1.old x hx
  .obtain ⟨⟨xs2,B,bc⟩,r1,r2,r3⟩:=p
   dsimp only at*;have hxs2:=vf hwf1 r1 hall;refine ⟨⟨[(3,.ptr 10 0)],({ S1 with mI:=B,cl:=bc}:Sh).j5,11⟩,id,aI.same (by simp) (by simp [aL,List.lookup,SV.aA,SV.ok,SV.ay]) (Sh.ou _ (Nat.le_refl 11)) (λ y hy=>by
    simp only [List.mem_cons,List.not_mem_nil,or_false] at hy;rcases hy with rfl | rfl | rfl | rfl | rfl | rfl | rfl <;> rfl),?_⟩
   rw [if_pos rfl];refine SW.seq (SW.g0 [0,2,3,5,7,8,9,10,11,19,20,21,22,36,49,51,63,73,75,87] Zm af ?_);refine SW.ret ?_;refine End.mk ({ S1 with mI:=B,cl:=bc}:Sh).j5 (h4:=⟨{ S1 with mI:=B,cl:=bc},⟨⟨hB1.ops,⟨hB1.tok.cr,hB1.tok.no⟩,hB1.tR,hB1.tr,hB1.md⟩,hA1.to (λ _=>Iff.rfl) λ o ho=> ?_,r3.to hxs2 λ o ho=>S1.zO B bc ho⟩,rfl,rfl⟩) (h6:=Sh.ou _ (Nat.le_refl 11));exact S1.sY S1.gj S1.ca B bc ho
  .obtain ⟨⟨xs,B,bc⟩,p1,p2,p3⟩:=p
   dsimp only at*;obtain ⟨x,hx,rfl⟩:=eV he;dsimp only at hs;have g5:(xs.map (·.1)++[x.1]).getLast? =some x.1:=by simp
   have g6:=kM (kc:=Dt.cells) (vs:=ov) hwf1.times hx;have eov:∀ o,ov o= .agg o.cells:=λ _=>rfl
   obtain ⟨q1,q2,hxt⟩:=sZ p1 p2 hx hs;have hu:∀ y,y∈xs->y.2.1≠x.2.1:=λ y hy e=>by
    have h1:=rG hwf1.keys (p1 y hy);have h2:=rG hwf1.keys hx;have hp:=List.nodup_iff_pairwise_ne.1 hwf1.keys;unfold MM.keys at hp;rw [List.pairwise_map] at hp;obtain ⟨i,hi,e1⟩:=List.getElem_of_mem (p1 y hy);obtain ⟨j,hj,e2⟩:=List.getElem_of_mem hx;rcases Nat.lt_trichotomy i j with h | h | h
    .exact List.pairwise_iff_getElem.1 hp i j hi hj h (by rw [e1,e2];exact e)
    .subst h
     exact hxt (List.mem_map.2 ⟨y,hy,by rw [<- e1,<- e2]⟩)
    .exact List.pairwise_iff_getElem.1 hp j i hj hi h (by rw [e1,e2];exact e.symm)
   have em:(xs++[x]).map (·.1)=xs.map (·.1)++[x.1]:=by simp
   have hm:=kO he hs;obtain ⟨k1,k2⟩:=hkd1 x hx;rw [iS];refine SW.block (SW.seq (SW.g0 [0,2,3,5,7,8,9,10,11,19,20,21,22,36,49,51,63,73,75,87] Zm (Zq g5 (Zq g6 eov)) ?_));refine SW.seq ?_
   by_cases h3:x.2.2.kind=4
   .have z3:(((x.2.2.kind:Nat):Int) == 4)=true:=by rw [h3];rfl
    have hw:∀ k,aJ Tryz.prog shape_Shape_Why.f [.ptr 10 0,.agg x.2.2.cells] ({ S1 with mI:=B,cl:=bc}:Sh).j5 k 0 (i64 (S1.fI x.2.2)) ({ S1 with mI:=B,cl:=bc}:Sh).j5:=λ k=>by
     have:=Sh.JV { S1 with mI:=B,cl:=bc} hB1.tR x.2.2 k1 k2 k;rw [show Sh.fI { S1 with mI:=B,cl:=bc} x.2.2=S1.fI x.2.2 from S1.zO B bc h3] at this;exact this
    by_cases h0:S1.fI x.2.2=0
    .have z0:(((S1.fI x.2.2:Nat):Int) == 0)=true:=by rw [h0];rfl
     refine SW.g1 [0,2,3,5,7,8,9,10,11,19,20,21,22,36,49,51,63,73,75,87] Zm (Zq z3 z0) hw ?_;refine SW.aj rfl (SW.g0 [0,2,3,5,7,8,9,10,11,19,20,21,22,36,49,51,63,73,75,87] Zm (Is B bc x.2.1 x.2.2.at_) ?_);refine ⟨⟨(xs++[x],MM.put B bc x.2.1 x.2.2.at_,MM.jh B bc x.2.1),q1,q2,p3.put ⟨h3,h0⟩ hu⟩,id,by rw [em];exact hm,?_⟩;dsimp only;rw [em];refine aI.same (by simp) (by simp [aL,List.lookup,SV.aA,SV.ok,SV.ay]) (ak (by simp) (by simp [Ob.ok]) (Sh.ou _ (show 11<=12 by omega))) (λ y hy=> ?_);simp only [List.mem_cons,List.not_mem_nil,or_false] at hy;rcases hy with rfl | rfl | rfl | rfl | rfl | rfl | rfl | rfl <;> rfl
    ·
     have z0:(((S1.fI x.2.2:Nat):Int) == 0)=false:=by simpa using h0
     refine SW.g1 [0,2,3,5,7,8,9,10,11,19,20,21,22,36,49,51,63,73,75,87] Zm (Zq z3 z0) hw ?_;refine SW.au rfl (SW.skip ?_);refine ⟨⟨(xs++[x],B,bc),q1,q2,p3.skip λ h=>h0 h.2⟩,id,by rw [em];exact hm,?_⟩;dsimp only;rw [em];refine aI.same (by simp) (by simp [aL,List.lookup,SV.aA,SV.ok,SV.ay]) (ak (by simp) (by simp [Ob.ok]) (Sh.ou _ (show 11<=12 by omega))) (λ y hy=> ?_);simp only [List.mem_cons,List.not_mem_nil,or_false] at hy;rcases hy with rfl | rfl | rfl | rfl | rfl | rfl | rfl | rfl <;> rfl
   .have z3:(((x.2.2.kind:Nat):Int) == 4)=false:=by simp;omega
    refine SW.g0 [0,2,3,5,7,8,9,10,11,19,20,21,22,36,49,51,63,73,75,87] Zm z3 ?_;refine SW.au rfl (SW.skip ?_);refine ⟨⟨(xs++[x],B,bc),q1,q2,p3.skip λ h=>h3 h.1⟩,id,by rw [em];exact hm,?_⟩;dsimp only;rw [em];refine aI.same (by simp) (by simp [aL,List.lookup,SV.aA,SV.ok,SV.ay]) (ak (by simp) (by simp [Ob.ok]) (Sh.ou _ (show 11<=12 by omega))) (λ y hy=> ?_);simp only [List.mem_cons,List.not_mem_nil,or_false] at hy;rcases hy with rfl | rfl | rfl | rfl | rfl | rfl | rfl | rfl <;> rfl
 .obtain ⟨⟨xs,A,ac⟩,p1,p2,p3⟩:=p
  dsimp only at*;obtain ⟨x,hx,rfl⟩:=eV he;dsimp only at hs;have g5:(xs.map (·.1)++[x.1]).getLast? =some x.1:=by simp
  have g6:=kM (kc:=Dt.cells) (vs:=ov) hwf.times hx;have eov:∀ o,ov o= .agg o.cells:=λ _=>rfl
  obtain ⟨q1,q2,_⟩:=sZ p1 p2 hx hs;have em:(xs++[x]).map (·.1)=xs.map (·.1)++[x.1]:=by simp
  have hm:=kO he hs;obtain ⟨k1,k2⟩:=hkd x hx;rw [iS];refine SW.block (SW.seq (SW.g0 [0,2,3,5,7,8,9,10,11,19,20,21,22,36,49,51,63,73,75,87] Zm (Zq g5 (Zq g6 eov)) ?_));refine SW.seq ?_
  by_cases h3:x.2.2.kind=3
  .have z3:(((x.2.2.kind:Nat):Int) == 3)=true:=by rw [h3];rfl
   have hw:∀ k,aJ Tryz.prog shape_Shape_Why.f [.ptr 10 0,.agg x.2.2.cells] ({ S with gj:=A,ca:=ac}:Sh).j5 k 0 (i64 (S.fI x.2.2)) ({ S with gj:=A,ca:=ac}:Sh).j5:=λ k=>by
    have:=Sh.JV { S with gj:=A,ca:=ac} hB.tR x.2.2 k1 k2 k;rw [show Sh.fI { S with gj:=A,ca:=ac} x.2.2=S.fI x.2.2 from S.sY A ac S.mI S.cl h3] at this;exact this
   by_cases h0:S.fI x.2.2=0
   .have z0:(((S.fI x.2.2:Nat):Int) == 0)=true:=by rw [h0];rfl
    refine SW.g1 [0,2,3,5,7,8,9,10,11,19,20,21,22,36,49,51,63,73,75,87] Zm (Zq z3 z0) hw ?_;refine SW.aj rfl (SW.g0 [0,2,3,5,7,8,9,10,11,19,20,21,22,36,49,51,63,73,75,87] Zm af ?_);refine ⟨⟨(xs++[x],MM.put A ac x.2.1 1,MM.jh A ac x.2.1),q1,q2,p3.put ⟨h3,h0⟩⟩,id,by rw [em];exact hm,?_⟩;dsimp only;rw [em];refine aI.same (by simp) (by simp [aL,List.lookup,SV.aA,SV.ok,SV.ay]) (ak (by simp) (by simp [Ob.ok]) (Sh.ou _ (show 11<=12 by omega))) (λ y hy=> ?_);simp only [List.mem_cons,List.not_mem_nil,or_false] at hy;rcases hy with rfl | rfl | rfl | rfl | rfl | rfl | rfl | rfl <;> rfl
   ·
    have z0:(((S.fI x.2.2:Nat):Int) == 0)=false:=by simpa using h0
    refine SW.g1 [0,2,3,5,7,8,9,10,11,19,20,21,22,36,49,51,63,73,75,87] Zm (Zq z3 z0) hw ?_;refine SW.au rfl (SW.skip ?_);refine ⟨⟨(xs++[x],A,ac),q1,q2,p3.skip λ h=>h0 h.2⟩,id,by rw [em];exact hm,?_⟩;dsimp only;rw [em];refine aI.same (by simp) (by simp [aL,List.lookup,SV.aA,SV.ok,SV.ay]) (ak (by simp) (by simp [Ob.ok]) (Sh.ou _ (show 11<=12 by omega))) (λ y hy=> ?_);simp only [List.mem_cons,List.not_mem_nil,or_false] at hy;rcases hy with rfl | rfl | rfl | rfl | rfl | rfl | rfl | rfl <;> rfl
  .have z3:(((x.2.2.kind:Nat):Int) == 3)=false:=by simp;omega
   refine SW.g0 [0,2,3,5,7,8,9,10,11,19,20,21,22,36,49,51,63,73,75,87] Zm z3 ?_;refine SW.au rfl (SW.skip ?_);refine ⟨⟨(xs++[x],A,ac),q1,q2,p3.skip λ h=>h3 h.1⟩,id,by rw [em];exact hm,?_⟩;dsimp only;rw [em];refine aI.same (by simp) (by simp [aL,List.lookup,SV.aA,SV.ok,SV.ay]) (ak (by simp) (by simp [Ob.ok]) (Sh.ou _ (show 11<=12 by omega))) (λ y hy=> ?_);simp only [List.mem_cons,List.not_mem_nil,or_false] at hy;rcases hy with rfl | rfl | rfl | rfl | rfl | rfl | rfl | rfl <;> rfl
end
end
section
def lZ (S:Sh):Prop:=∀ d o,MM.get S.ops d=some o->o.kind<256/\o.mW/\o.cl.length<=1048576
noncomputable def Sh.good (S:Sh)(d:Dt):Bool:=MM.has S.ops d && decide (S.fI (S.op d)=0)
theorem M9 (o:ag):cG o.cells 28 [.d o.lines]=o.cells:=rfl
section
attribute [local irreducible] SW RW aJ SC ai an
theorem Da (cl:List Cm)(hl:cl.length<=1048576):Go.Sl.Pure Tryz.prog slices_Clone_Lapi_Claim_api_Claim.f [.d (.sl cl.length (cl.flatMap Cm.ds))] (.d (.sl cl.length (cl.flatMap Cm.ds))):=by
 refine slices_Clone_Lapi_Claim_api_Claim.enter (by first | rfl | simp [SV.ok,SV.ay]) (by first | rfl | simp [Hp.ok,Ob.ok,SV.ok,SV.ay,aD.aq]) (by simp) ?_;dsimp only [slices_Clone_Lapi_Claim_api_Claim.s,Co.M,Co.J,Co.F,Co.S];refine SW.seq (SW.g0 [0,2,4] Zm af ?_);refine SW.seq (SW.seq (SW.MH (n:=cl.length) (cs:=cl.flatMap Cm.ds) rfl ?_ λ h0=> ?_))
 .refine SW.au rfl (SW.skip ?_)
  refine (?_:Sl.SW _ _ _ _ _ _);refine SW.seq ?_;have hlen:cl.length*4=cl.length*4:=rfl;refine SW.g0 [0,2,4] Zm af ?_;refine SW.freeze 1 (cl.flatMap Cm.ds) rfl (by simp) ?_;simp only [k_,SV.iB,List.map_cons,List.map_nil,if_true,if_false,reduceIte,cE,Nat.reduceEqDiff];refine SW.ret ?_;exact End.mk [] (h4:=⟨by simp [fc],rfl⟩)
 .have hl0:cl=[]:=List.eq_nil_of_length_eq_zero h0
  subst hl0;refine SW.aj rfl (SW.seq (SW.g0 [0,2,4] Zm af ?_));refine SW.aN 2 rfl ?_;refine SW.ret ?_;exact End.mk [] (h4:=⟨rfl,rfl⟩)
theorem Db:Go.Sl.Pure Tryz.prog slices_Clone_Lapi_Claim_api_Claim.f [.d .aN] (.d .aN):=by
 refine slices_Clone_Lapi_Claim_api_Claim.enter (by first | rfl | simp [SV.ok,SV.ay]) (by first | rfl | simp [Hp.ok,Ob.ok,SV.ok,SV.ay,aD.aq]) (by simp) ?_;dsimp only [slices_Clone_Lapi_Claim_api_Claim.s,Co.M,Co.J,Co.F,Co.S];(repeat (first | refine SW.seq ?_ | refine SW.block ?_ | refine SW.g0 [0,2,4] Zm af ?_ | refine SW.skip ?_ | refine SW.exit ?_ | refine SW.ret ?_ | refine SW.aj rfl ?_ | refine SW.au rfl ?_));exact End.mk [] (h4:=⟨rfl,rfl⟩)
theorem K5 (S:Sh)(hs:lZ S)(d:Dt)(k:Nat):aJ Tryz.prog slices_Clone_Lapi_Claim_api_Claim.f [.d (S.op d).lines] [] k 0 (.d (S.op d).lines) []:=by
 unfold Sh.op;cases h:MM.get S.ops d with
 | none=>exact Db.sc rfl k
 | some o=>
  obtain ⟨_,h1,h2⟩:=hs d o h;have:=(Da o.cl h2).sc rfl k
  rwa [<- h1.eq] at this
set_option maxHeartbeats 4000000 in
theorem A2 (S:Sh)(hs:lZ S)(d:Dt):SB Tryz.prog shape_Shape_Op.f [.ptr 0 0,.agg d.cells] S.h0 7 0 λ r F=>r= .eu [.agg (S.op d).cells,bl (MM.has S.ops d)]/\F=S.h0:=by
 refine shape_Shape_Op.enter (by simp [SV.ay,SV.ok]) (S.ok (Nat.le_refl 7)) (by simp) ?_;dsimp only [shape_Shape_Op.s,Co.M,Co.J,Co.F,Co.B,Co.bW,Co.T,Co.K,Co.E,Co.P,Co.x,Co.W,Co.D,Co.A,Co.S];have hn:=rE S;have hc:=K5 S hs d;obtain ⟨o,ho⟩:∃ o,S.op d=o:=⟨_,rfl⟩;have hg:(MM.get S.ops d).getD ag.zero=o:=ho;rw [ho] at hc ⊢;have O1:=M9 o;refine SW.seq (SW.g0 [0,1,3,4,5,6,7,9] Zm af ?_);refine SW.seq (SW.seq (SW.g1 [0,1,3,4,5,6,7,9] Zm af hn ?_));refine SW.au rfl (SW.skip (SW.seq (SW.g0 [0,1,3,4,5,6,7,9] Zm hg ?_)));refine SW.seq (SW.g1 [0,1,3,4,5,6,7,9] Zm O1 hc ?_);refine SW.seq (SW.g0 [0,1,3,4,5,6,7,9] Zm af ?_);refine SW.ret ?_;exact End.mk S.h0 (h4:=⟨rfl,rfl⟩) (h6:=S.ok (Nat.le_refl 7))
theorem M_ (S:Sh)(hs:lZ S)(d:Dt)(k:Nat):aJ Tryz.prog shape_Shape_Op.f [.ptr 0 0,.agg d.cells] S.h0 k 0 (.eu [.agg (S.op d).cells,bl (MM.has S.ops d)]) S.h0:=
 S.at_ (A2 S hs d) (λ ρ=>by simp [SV.aQ,SV.aA,Dt.ax]) (λ ρ=>by simp [SV.aQ,SV.aA,ag.ax]) n0 rD k
set_option maxHeartbeats 4000000 in
theorem FU (S:Sh)(hu:S.tR)(hs:lZ S)(d:Dt):SB Tryz.prog shape_Shape_Good.f [.ptr 0 0,.agg d.cells] S.h0 7 0 λ r F=>r=bl (S.good d)/\F=S.h0:=by
 refine shape_Shape_Good.enter (by simp [SV.ay,SV.ok]) (S.ok (Nat.le_refl 7)) (by simp) ?_;dsimp only [shape_Shape_Good.s,Co.M,Co.G,Co.J,Co.H,Co.F,Co.C,Co.Z,Co.B,Co.bW,Co.K,Co.E,Co.Q,Co.x,Co.W,Co.U,Co.S];have hc:=M_ S hs d;obtain ⟨o,ho⟩:∃ o,S.op d=o:=⟨_,rfl⟩;have hG:S.good d=(MM.has S.ops d && decide (S.fI o=0)):=by unfold Sh.good;rw [ho]
 rw [ho] at hc;refine SW.seq (SW.g0 [0,1,3,4,5,6] Zm af ?_);refine SW.seq (SW.g1 [0,1,3,4,5,6] Zm af hc ?_);refine SW.seq ?_;rcases h:MM.has S.ops d with _ | _
 .refine SW.g0 [0,1,3,4,5,6] Zm af ?_
  refine SW.ret ?_;exact End.mk S.h0 (h4:=⟨by rw [hG,h];rfl,rfl⟩) (h6:=S.ok (Nat.le_refl 7))
 obtain ⟨o',ho'⟩:=Option.isSome_iff_exists.1 (show (MM.get S.ops d).isSome=true from h);have e:o'=o:=by rw [<- ho];unfold Sh.op;rw [ho'];rfl
 subst e;obtain ⟨k1,k2,_⟩:=hs d o' ho';have hw:∀ k,aJ Tryz.prog shape_Shape_Why.f [.ptr 0 0,.agg o'.cells] S.h0 k 0 (i64 (S.fI o')) S.h0:=λ k=>S.M6 hu o' k1 k2 n0 rD k
 have hz:(((S.fI o':Nat):Int) == 0)=decide (S.fI o'=0):=by rw [Bool.eq_iff_iff];simp
 refine SW.g1 [0,1,3,4,5,6] Zm hz hw ?_;refine SW.ret ?_;exact End.mk S.h0 (h4:=⟨by rw [hG,h];simp [fc],rfl⟩) (h6:=S.ok (Nat.le_refl 7))
theorem FV (S:Sh)(hu:S.tR)(hs:lZ S)(d:Dt)(n:Sn)(hn:n.ok)(k:Nat):aJ Tryz.prog shape_Shape_Good.f [.ptr n.b 0,.agg d.cells] (S.hp n) k 0 (bl (S.good d)) (S.hp n):=
 S.at_ (FU S hu hs d) (λ ρ=>by simp [SV.aQ,SV.aA,Dt.ax]) (λ _=>rfl) n hn k
end
end
section
def tS (l:List ag)(d:Dt):ag:=(aW l d).getD ag.zero
def ow (l:List ag)(d:Dt)(o:ag):Bool:=(aW l d).isSome && (tS l d).before o
def tE (l:List ag)(o:ag):Bool:=if o.kind=0 then decide (o.aK=o.dot) else (aW l o.aK).isSome && (decide ((tS l o.aK).kind=0) && (decide ((tS l o.aK).aK=(tS l o.aK).dot) && (tS l o.aK).before o))
def rH (l:List ag)(tr:MM Dt Cr)(d:Dt)(o:ag):Bool:=MM.has tr d && (decide (((MM.get tr d).getD Cr.zero).aK=o.aK) && ow l d o)
def vg (tr:MM Dt Cr)(md:MM Dt ag)(o:ag):Nat:=Tr.why ⟨0,1,2,tr,0,md,0⟩ o
def nU (l:List ag)(tr:MM Dt Cr)(md:MM Dt ag)(o:ag)(t:Bool):Nat:=
 if decide ((o.kind:Int)>8) then 2 else if !tE l o then 271 else if !((o.kind:Int) == 0) && !rH l tr o.aM o then 272 else if !((o.kind:Int) == 0) && ((((MM.get tr o.aM).getD Cr.zero).hold:Int) != (o.who:Int)) then 273
 else if oq ((MM.get tr o.aM).getD Cr.zero) o.kind then 274 else if decide (o.kind=1) && decide (vg tr md o≠0) then 275 else if !t then 276 else 0
def A3 (l:List ag)(tr:MM Dt Cr)(md:MM Dt ag)(d:Dt):Bool:=match aW l d with
 | some o=>decide (o.kind=3) && decide (nU l tr md o true=0)
 | none=>false
def ng (l:List ag)(tr:MM Dt Cr)(md:MM Dt ag)(d:Dt)(o:ag):Bool:=A3 l tr md d && (decide ((tS l d).aK=o.aK) && ow l d o)
def vh (l:List ag)(tr:MM Dt Cr)(md:MM Dt ag)(d:Dt):Option Dt:=match aW l d with
 | some o=>if o.kind=4/\nU l tr md o (ng l tr md o.at_ o)=0 then some o.at_ else none
 | none=>none
def zP (l:List ag)(tr:MM Dt Cr)(md:MM Dt ag)(c:Cm)(o:ag):Bool:=ng l tr md c.line o && (decide (c.jD=c.line) || ((vh l tr md c.jD).isSome && (decide ((vh l tr md c.jD).getD ⟨0,0⟩=c.line) && ow l c.jD o)))
def Dc (l:List ag)(tr:MM Dt Cr)(md:MM Dt ag)(o:ag)(ab:Bool):Bool:=
 if o.kind=2 then rH l tr o.at_ o && ab else if o.kind=4\/o.kind=5 then ng l tr md o.at_ o else if o.kind=6\/o.kind=7 then zP l tr md ⟨o.at_,o.jD⟩ o else if o.kind=8 then !(o.cl.any λ c=> !zP l tr md c o) else true
def yB (l:List ag)(tr:MM Dt Cr)(md:MM Dt ag)(o:ag)(ab:Bool):Nat:=nU l tr md o (Dc l tr md o ab)
section
variable {l:List ag} {S:Sh} (hB:jJ l S)
include hB
theorem jJ.op (d:Dt):S.op d=tS l d:=by unfold Sh.op tS;rw [hB.ops.get]
theorem jJ.has (d:Dt):MM.has S.ops d=(aW l d).isSome:=by unfold MM.has;rw [hB.ops.get]
theorem jJ.uY (d:Dt)(o:ag):S.uY d o=ow l d o:=by unfold Sh.uY ow;rw [hB.op,hB.has]
theorem jJ.aK (o:ag):S.aK o=tE l o:=by unfold Sh.aK tE;rw [hB.op,hB.has]
theorem jJ.yx (d:Dt)(o:ag):S.yx d o=rH l S.tr d o:=by unfold Sh.yx rH Sh.cr;rw [hB.uY]
theorem jJ.K6 (o:ag):S.T.why o=vg S.tr S.md o:=rfl
theorem jJ.why (o:ag)(ab:Bool):S.why o ab=nU l S.tr S.md o (S.tgt o ab):=by
 unfold Sh.why nU;rw [<- hB.aK,<- hB.yx,<- hB.K6];rfl
end
theorem jJ.Na {l:List ag}{S:Sh}(hB:jJ l S){o:ag}(hk:o.kind=3):S.fI o=nU l S.tr S.md o true:=by
 unfold Sh.fI;rw [hB.why];have:S.tgt o (S.HA o.aM o.at_)=true:=by unfold Sh.tgt;rw [if_neg (by omega),if_neg (by omega),if_neg (by omega),if_neg (by omega)]
 rw [this]
section
variable {l:List ag} {S:Sh} (h:bS l S)
include h
theorem bS.add (d:Dt):decide (0<(MM.get S.gj d).getD 0)=A3 l S.tr S.md d:=by
 rw [Bool.eq_iff_iff,decide_eq_true_eq];unfold A3;constructor
 .intro h1
  cases hg:MM.get S.gj d with
  | none=>rw [hg] at h1;exact absurd h1 (by decide)
  | some v=>
   obtain ⟨_,x,hx,e,h3,h4⟩:=(h.gj.2 d v).1 hg;have h5:=rG h.base.ops.wf.keys hx;rw [e,h.base.ops.get] at h5;rw [h5];rw [h.base.Na h3] at h4;simp [h3,h4]
 .intro h1
  cases ho:aW l d with
  | none=>rw [ho] at h1;cases h1
  | some o=>
   rw [ho] at h1;simp only [Bool.and_eq_true,decide_eq_true_eq] at h1;obtain ⟨x,hx,e1,e2⟩:=get_mem (show MM.get S.ops d=some o by rw [h.base.ops.get];exact ho);have h2:=(h.gj.2 d 1).2 ⟨rfl,x,hx,e1,by rw [e2];exact h1.1,by rw [e2,h.base.Na h1.1];exact h1.2⟩;rw [h2];decide
theorem bS.line (d:Dt)(o:ag):S.line d o=ng l S.tr S.md d o:=by unfold Sh.line ng;rw [h.add,h.base.op,h.base.uY]
theorem bS.set (d:Dt):MM.get S.mI d=vh l S.tr S.md d:=by
 have hw:∀ o:ag,o.kind=4->S.fI o=nU l S.tr S.md o (ng l S.tr S.md o.at_ o):=λ o hk=>by
  unfold Sh.fI;rw [h.base.why,<- h.line];have:S.tgt o (S.HA o.aM o.at_)=S.line o.at_ o:=by unfold Sh.tgt;rw [if_neg (by omega),if_pos (.inl hk)]
  rw [this]
 refine Option.ext λ v=> ?_
 rw [h.mI.2];unfold vh;constructor
 .rintro ⟨x,hx,e,h3,h4,rfl⟩
  have h5:=rG h.base.ops.wf.keys hx;rw [e,h.base.ops.get] at h5;rw [h5];rw [hw _ h3] at h4;exact if_pos ⟨h3,h4⟩
 .intro h1
  cases ho:aW l d with
  | none=>rw [ho] at h1;cases h1
  | some o=>
   rw [ho] at h1;dsimp only at h1
   split at h1
   .rename_i h2
    injection h1 with h1;obtain ⟨x,hx,e1,e2⟩:=get_mem (show MM.get S.ops d=some o by rw [h.base.ops.get];exact ho);exact ⟨x,hx,e1,by rw [e2];exact h2.1,by rw [e2,hw _ h2.1];exact h2.2,by rw [e2];exact h1.symm⟩
   .cases h1
theorem bS.sW (c:Cm)(o:ag):S.sW c o=zP l S.tr S.md c o:=by
 unfold Sh.sW zP MM.has;rw [h.line,h.set,h.base.uY]
theorem bS.tgt (o:ag)(ab:Bool):S.tgt o ab=Dc l S.tr S.md o ab:=by
 unfold Sh.tgt Dc;simp only [h.line,h.sW,h.base.yx]
theorem bS.why (o:ag)(ab:Bool):S.why o ab=yB l (bh l).at_ (bh l).made o ab:=by
 unfold yB;rw [h.base.why,h.tgt,h.base.tr,h.base.md]
theorem bS.fI (o:ag):S.fI o=yB l (bh l).at_ (bh l).made o (lG (bh l).at_ o.aM o.at_ (m_ (bh l).at_ o.at_)):=by
 unfold Sh.fI;rw [h.why];unfold Sh.HA;rw [h.base.tr]
end
end
section
theorem qG (c:Cr):oq c 0=false:=by
 unfold oq;have h:(j9 0:Int)=((0:Nat):Int):=rfl;rw [h,and_eq];simp
structure jY (t l:List ag)(A:ag->Prop):Prop where
 uniq:oF l
 AZ:oF t
 sub:∀ o,o∈t->o∈l
 uT:∀ o,A o->o∈t
 Fg:∀ o a,A o->a∈l->a.before o=true->a.aK=o.aK->A a
theorem Dd {l:List ag}:∀ (m:Nat) (d:Dt) (a:ag),(ej l m d).2=true->aW l d=some a->(ej l m d).1.aK=a.aK
 | 0,d,a,h,hf=>by cases h
 | m +1,d,a,h,hf=>by
  simp only [ej,hf] at h ⊢
  by_cases hk:a.kind=0
  .rw [if_pos hk] at h ⊢
   exact (of_decide_eq_true h).symm
  .rw [if_neg hk] at h ⊢
   by_cases hw:(fQ l (ej l m a.aM) a).2≠0
   .rw [if_pos hw] at h;cases h
   .rw [if_neg hw]
theorem rI {l:List ag}{g:Cr×Bool}{o:ag}(h:gC l g o=true):(fQ l g o).2≠0:=by
 unfold fQ
 by_cases hk:o.kind≠1
 .rw [if_pos hk];show (2:Nat)≠0;decide
 .rw [if_neg hk,if_pos h];show (272:Nat)≠0;decide
theorem s4 {l:List ag}(m:Nat){d:Dt}(h:aW l d=none):(ej l m d).2=false:=by
 cases m with
 | zero=>simp only [ej]
 | succ m=>simp only [ej,h]
theorem B9 {l:List ag}{m:Nat}{o a:ag}(hf:aW l o.aM=some a)(h: ¬ (a.before o=true/\a.aK=o.aK)):gC l (ej l m o.aM) o=true:=by
 unfold gC;cases hg:(ej l m o.aM).2 with
 | false=>rfl
 | true=>
  rw [Dd m o.aM a hg hf,hf]
  by_cases hc:a.aK=o.aK
  .have:a.before o=false:=by
    rw [Bool.eq_false_iff];exact λ hb=>h ⟨hb,hc⟩
   simp [this]
  .simp [hc]
theorem lP.aK {l:List ag}{U:Tr}(hU:lP l U){d:Dt}{c:Cr}(hc:MM.get U.at_ d=some c):∃ a,aW l d=some a/\c.aK=a.aK:=by
 obtain ⟨a,_,ha⟩:=hU.cr d c hc;refine ⟨a,ha.fd,?_⟩;rcases ha.how with ⟨_,h2,h3⟩ | ⟨p,q,_,_,hb⟩
 .rw [h3];show a.dot=a.aK;rw [h2,fF ha.fd]
 .rw [hb.is]
section
variable {t l:List ag} {A:ag->Prop} (h:jY t l A)
include h
theorem jY.up {d:Dt}{o:ag}(hf:aW t d=some o):aW l d=some o:=by
 obtain ⟨h1,rfl⟩:=gP hf;exact h.uniq.find (h.sub o h1)
theorem jY.at_ {d:Dt}{o:ag}(hf:aW l d=some o)(ha:A o):aW t d=some o:=by
 rw [<- fF hf];exact h.AZ.find (h.uT o ha)
theorem jY.down {d:Dt}{o a:ag}(ho:A o)(hf:aW l d=some a)(hb:a.before o=true)(hc:a.aK=o.aK):A a:=h.Fg o a ho (gP hf).1 hb hc
theorem jY.fQ (m:Nat){o:ag}(ho:A o)(ih:∀ a,aW l o.aM=some a->A a->ej t m o.aM=ej l m o.aM):
  Go.Proofs.YtaelhkkjgfobhaaGreat.fQ t (ej t m o.aM) o=Go.Proofs.YtaelhkkjgfobhaaGreat.fQ l (ej l m o.aM) o\/(Go.Proofs.YtaelhkkjgfobhaaGreat.fQ t (ej t m o.aM) o).2≠0/\(Go.Proofs.YtaelhkkjgfobhaaGreat.fQ l (ej l m o.aM) o).2≠0:=by
 cases hf:aW l o.aM with
 | none=>
  have hn:aW t o.aM=none:=by
   cases ht:aW t o.aM with
   | none=>rfl
   | some a=>rw [h.up ht] at hf;cases hf
  refine .inr ⟨rI ?_,rI ?_⟩
  .unfold gC;rw [s4 m hn];rfl
  .unfold gC;rw [s4 m hf];rfl
 | some a=>
  by_cases hb:a.before o=true/\a.aK=o.aK
  .have haa:=h.down ho hf hb.1 hb.2
   refine .inl ?_;rw [ih a hf haa];unfold Go.Proofs.YtaelhkkjgfobhaaGreat.fQ gC;rw [h.at_ hf haa,hf]
  .refine .inr ⟨rI ?_,rI (B9 hf hb)⟩
   cases ht:aW t o.aM with
   | none=>unfold gC;rw [s4 m ht];rfl
   | some b=>
    have:=h.up ht;rw [hf] at this;injection this with this;subst this;exact B9 ht hb
theorem jY.ej:∀ (m:Nat) (d:Dt) (o:ag),aW l d=some o->A o->Go.Proofs.YtaelhkkjgfobhaaGreat.ej t m d=Go.Proofs.YtaelhkkjgfobhaaGreat.ej l m d
 | 0,d,o,_,_=>by simp only [Go.Proofs.YtaelhkkjgfobhaaGreat.ej]
 | m +1,d,o,hf,ho=>by
  simp only [Go.Proofs.YtaelhkkjgfobhaaGreat.ej,hf,h.at_ hf ho]
  by_cases hk:o.kind=0
  .rw [if_pos hk,if_pos hk]
  .rw [if_neg hk,if_neg hk]
   rcases h.fQ m ho (λ a h1 h2=>jY.ej m _ a h1 h2) with hw | ⟨n1,n2⟩
   .rw [hw]
   .rw [if_pos n1,if_pos n2]
variable {T U:Tr} (hT:lP t T) (hU:lP l U)
include hT hU
theorem jY.get {d:Dt}{o:ag}(hf:aW l d=some o)(ho:A o):MM.get T.at_ d=MM.get U.at_ d:=by
 obtain ⟨a1,a2⟩:=hT.get d;obtain ⟨b1,b2⟩:=hU.get d;have e:=h.ej 10 d o hf ho;cases g1:MM.get T.at_ d with
 | some c=>
  have:=a2 c g1;rw [e] at this;cases g2:MM.get U.at_ d with
  | some c'=>rw [b2 c' g2] at this;cases this;rfl
  | none=>
   have b1:(Go.Proofs.YtaelhkkjgfobhaaGreat.ej l 10 d).2=(MM.get U.at_ d).isSome:=b1;rw [g2,this] at b1;cases b1
 | none=>
  have a1:(Go.Proofs.YtaelhkkjgfobhaaGreat.ej t 10 d).2=(MM.get T.at_ d).isSome:=a1;rw [g1,e] at a1;cases g2:MM.get U.at_ d with
  | some c'=>rw [b2 c' g2] at a1;cases a1
  | none=>rfl
theorem jY.tR {oc:Option Cr}{L:List Cr}(hL:oI T.at_ oc L):(∀ c,oc=some c->∃ d o,MM.get T.at_ d=some c/\aW l d=some o/\A o)->oI U.at_ oc L:=by
 induction hL with
 | none=>intro _;exact .none
 | root c hc=>intro _;exact .root c hc
 | more c L hc h2 ih=>
  intro hx;obtain ⟨d,x,hd,hx,hax⟩:=hx c rfl;obtain ⟨o,p,q,ho,hq,hp,hb⟩:=hT.above hd hc;have e1:o=x:=by have:=h.up ho;rw [hx] at this;injection this with this;exact this.symm
  subst e1;obtain ⟨q',hq',hc'⟩:=hT.aK hp;rw [hq] at hq';injection hq' with hq';subst hq';have haq:A q:=h.down hax (h.up hq) hb.uY (by rw [<- hc',hb.aK]);have e:=h.get hT hU (h.up hq) haq;refine .more c L hc ?_;rw [<- e];exact ih λ c' hc''=>⟨c.par,q,hc'',h.up hq,haq⟩
theorem jY.Nb {d:Dt}{o:ag}(hf:aW l d=some o)(ho:A o):m_ T.at_ d=m_ U.at_ d:=by
 obtain ⟨L,hL,_⟩:=hT.tR d;have e:=h.get hT hU hf ho;have:=h.tR hT hU hL λ c hc=>⟨d,o,hc,hf,ho⟩
 rw [e] at this;rw [ig hL,ig this]
end
end
section
noncomputable def kf (l:List ag)(o:ag):Nat:=yB l (bh l).at_ (bh l).made o (lG (bh l).at_ o.aM o.at_ (m_ (bh l).at_ o.at_))
theorem B_ (l:List ag)(o:ag):vg (bh l).at_ (bh l).made o=(fQ l (ej l 10 o.aM) o).2:=((gr l).why o).symm
theorem bG {l:List ag}{d:Dt}{a:ag}(h:aW l d=some a):tS l d=a:=by unfold tS;rw [h];rfl
theorem rJ {l:List ag}{d:Dt}{o:ag}:rH l (bh l).at_ d o=true↔∃ c a,MM.get (bh l).at_ d=some c/\aW l d=some a/\a.before o=true/\a.aK=o.aK/\c.aK=o.aK:=by
 unfold rH MM.has ow;constructor
 .intro h
  simp only [Bool.and_eq_true,decide_eq_true_eq] at h;obtain ⟨h1,h2,h3,h4⟩:=h;obtain ⟨c,hc⟩:=Option.isSome_iff_exists.1 h1;obtain ⟨a,ha,e⟩:=(gr l).aK hc;rw [bG ha] at h4;rw [hc] at h2;have h2:c.aK=o.aK:=h2;exact ⟨c,a,hc,ha,h4,by rw [<- e,h2],h2⟩
 .rintro ⟨c,a,h1,h2,h3,h4,h5⟩
  rw [h1,bG h2,h2];simp [h3,h5]
theorem nV {l:List ag}{tr:MM Dt Cr}{md:MM Dt ag}{d:Dt}{o:ag}:ng l tr md d o=(A3 l tr md d && (ow l d o && decide ((tS l d).aK=o.aK))):=by
 unfold ng;rw [Bool.and_comm (decide _)]
theorem s6 {l:List ag}{d:Dt}{o:ag}(hl:(ow l d o && decide ((tS l d).aK=o.aK))=true):∃ a,aW l d=some a/\a.before o=true/\a.aK=o.aK:=by
 unfold ow at hl;simp only [Bool.and_eq_true,decide_eq_true_eq] at hl;obtain ⟨⟨h1,h2⟩,h3⟩:=hl;obtain ⟨a,ha⟩:=Option.isSome_iff_exists.1 h1;rw [bG ha] at h2 h3;exact ⟨a,ha,h2,h3⟩
section
variable {t l:List ag} {A:ag->Prop} (h:jY t l A)
include h
theorem jY.xR {d:Dt}{o:ag}(hf:aW l d=some o)(ho:A o):MM.get (bh t).at_ d=MM.get (bh l).at_ d:=h.get (gr t) (gr l) hf ho
theorem jY.yx (d:Dt){o:ag}(ho:A o):rH t (bh t).at_ d o=rH l (bh l).at_ d o:=by
 rw [Bool.eq_iff_iff,rJ,rJ];constructor
 .rintro ⟨c,a,h1,h2,h3,h4,h5⟩
  have hl:=h.up h2;exact ⟨c,a,by rw [<- h.xR hl (h.down ho hl h3 h4)];exact h1,hl,h3,h4,h5⟩
 .rintro ⟨c,a,h1,h2,h3,h4,h5⟩
  have ha:=h.down ho h2 h3 h4;exact ⟨c,a,by rw [h.xR h2 ha];exact h1,h.at_ h2 ha,h3,h4,h5⟩
theorem jY.A4 {d:Dt}{o:ag}(ho:A o)(hc:rH l (bh l).at_ d o=true):MM.get (bh t).at_ d=MM.get (bh l).at_ d/\m_ (bh t).at_ d=m_ (bh l).at_ d:=by
 obtain ⟨c,a,h1,h2,h3,h4,h5⟩:=rJ.1 hc;have ha:=h.down ho h2 h3 h4;exact ⟨h.xR h2 ha,h.Nb (gr t) (gr l) h2 ha⟩
theorem jY.look (d:Dt){o:ag}(ho:A o):(ow t d o && decide ((tS t d).aK=o.aK))=(ow l d o && decide ((tS l d).aK=o.aK)):=by
 rw [Bool.eq_iff_iff];unfold ow;simp only [Bool.and_eq_true,decide_eq_true_eq];constructor
 .rintro ⟨⟨h1,h2⟩,h3⟩
  obtain ⟨a,ha⟩:=Option.isSome_iff_exists.1 h1;have hl:=h.up ha;rw [bG ha] at h2 h3;rw [bG hl,hl];exact ⟨⟨rfl,h2⟩,h3⟩
 .rintro ⟨⟨h1,h2⟩,h3⟩
  obtain ⟨a,ha⟩:=Option.isSome_iff_exists.1 h1;rw [bG ha] at h2 h3;have ht:=h.at_ ha (h.down ho ha h2 h3);rw [bG ht,ht];exact ⟨⟨rfl,h2⟩,h3⟩
theorem jY.aK {o:ag}(ho:A o):tE t o=tE l o:=by
 unfold tE
 by_cases hk:o.kind=0
 .rw [if_pos hk,if_pos hk]
 .rw [if_neg hk,if_neg hk,Bool.eq_iff_iff]
  simp only [Bool.and_eq_true,decide_eq_true_eq];constructor
  .rintro ⟨h1,h2,h3,h4⟩
   obtain ⟨a,ha⟩:=Option.isSome_iff_exists.1 h1;have hl:=h.up ha;rw [bG ha] at h2 h3 h4;rw [bG hl,hl];exact ⟨rfl,h2,h3,h4⟩
  .rintro ⟨h1,h2,h3,h4⟩
   obtain ⟨a,ha⟩:=Option.isSome_iff_exists.1 h1;rw [bG ha] at h2 h3 h4;have ht:=h.at_ ha (h.down ho ha h4 (by rw [h3,fF ha]));rw [bG ht,ht];exact ⟨rfl,h2,h3,h4⟩
theorem jY.K6 {o:ag}(ho:A o):decide (vg (bh t).at_ (bh t).made o≠0)=decide (vg (bh l).at_ (bh l).made o≠0):=by
 rw [B_,B_];rcases h.fQ 10 ho (λ a h1 h2=>h.ej 10 _ a h1 h2) with e | ⟨e1,e2⟩
 .rw [e]
 .rw [decide_eq_true e1,decide_eq_true e2]
theorem jY.nU {o:ag}(ho:A o)(x y:Bool)(hxy:(o.kind≠0->rH l (bh l).at_ o.aM o=true)->x=y):Go.Proofs.YtaelhkkjgfobhaaGreat.nU t (bh t).at_ (bh t).made o x=Go.Proofs.YtaelhkkjgfobhaaGreat.nU l (bh l).at_ (bh l).made o y:=by
 unfold Go.Proofs.YtaelhkkjgfobhaaGreat.nU;rw [h.aK ho,h.yx _ ho,h.K6 ho]
 by_cases hk:o.kind=0
 .have hk':((o.kind:Int) == 0)=true:=by rw [hk];rfl
  rw [hk',hxy (λ hn=>absurd hk hn),hk,qG,qG];simp
 .have hk':((o.kind:Int) == 0)=false:=by simp;exact hk
  cases hc:rH l (bh l).at_ o.aM o with
  | false=>rw [hk'];simp
  | true=>
   rw [(h.A4 ho hc).1,hxy (λ _=>hc)]
theorem jY.add {d:Dt}{o:ag}(hf:aW l d=some o)(ho:A o):A3 t (bh t).at_ (bh t).made d=A3 l (bh l).at_ (bh l).made d:=by
 unfold A3;rw [hf,h.at_ hf ho];dsimp only;rw [h.nU ho true true (λ _=>rfl)]
theorem jY.line (d:Dt){o:ag}(ho:A o):ng t (bh t).at_ (bh t).made d o=ng l (bh l).at_ (bh l).made d o:=by
 rw [nV,nV,h.look d ho];cases hl:(ow l d o && decide ((tS l d).aK=o.aK)) with
 | false=>simp
 | true=>
  obtain ⟨a,h1,h2,h3⟩:=s6 hl;rw [h.add h1 (h.down ho h1 h2 h3)]
theorem jY.set {d:Dt}{o:ag}(hf:aW l d=some o)(ho:A o):vh t (bh t).at_ (bh t).made d=vh l (bh l).at_ (bh l).made d:=by
 unfold vh;rw [hf,h.at_ hf ho];dsimp only;rw [h.line _ ho,h.nU ho _ _ (λ _=>rfl)]
end
theorem FW {l:List ag}{tr:MM Dt Cr}{md:MM Dt ag}{d e:Dt}:vh l tr md d=some e↔∃ x,aW l d=some x/\x.kind=4/\Go.Proofs.YtaelhkkjgfobhaaGreat.nU l tr md x (ng l tr md x.at_ x)=0/\x.at_=e:=by
 unfold vh;constructor
 .intro h
  split at h
  .rename_i x hx
   split at h
   .rename_i hc
    injection h with h;exact ⟨x,hx,hc.1,hc.2,h⟩
   .cases h
  .cases h
 .rintro ⟨x,h1,h2,h3,h4⟩
  rw [h1];dsimp only;rw [if_pos ⟨h2,h3⟩,h4]
theorem K7 {l:List ag}{tr:MM Dt Cr}{md:MM Dt ag}{o:ag}{x:Bool}(h:Go.Proofs.YtaelhkkjgfobhaaGreat.nU l tr md o x=0):x=true:=by
 cases x with
 | true=>rfl
 | false=>
  exfalso
  unfold Go.Proofs.YtaelhkkjgfobhaaGreat.nU at h
  revert h
  simp only [Bool.not_false,if_true]
  repeat' split
  all_goals simp
theorem xz {l:List ag}{tr:MM Dt Cr}{md:MM Dt ag}{d e:Dt}{o:ag}(h:vh l tr md d=some e)(hl:ng l tr md e o=true):∃ x,aW l d=some x/\x.aK=o.aK:=by
 obtain ⟨x,h1,h2,h3,h4⟩:=FW.1 h;have h5:=K7 h3;rw [h4,nV,Bool.and_eq_true] at h5;rw [nV,Bool.and_eq_true] at hl;obtain ⟨a,a1,a2,a3⟩:=s6 h5.2;obtain ⟨b,b1,b2,b3⟩:=s6 hl.2;rw [a1] at b1;injection b1 with b1;subst b1;exact ⟨x,h1,by rw [<- a3,b3]⟩
theorem zQ {l:List ag}{tr:MM Dt Cr}{md:MM Dt ag}{c:Cm}{o:ag}:zP l tr md c o=true↔ng l tr md c.line o=true/\(c.jD=c.line\/vh l tr md c.jD=some c.line/\ow l c.jD o=true):=by
 unfold zP;simp only [Bool.and_eq_true,Bool.or_eq_true,decide_eq_true_eq];constructor
 .rintro ⟨h1,h2 | ⟨h2,h3,h4⟩⟩
  .exact ⟨h1,.inl h2⟩
  .obtain ⟨e,he⟩:=Option.isSome_iff_exists.1 h2
   rw [he] at h3;have h3:e=c.line:=h3;exact ⟨h1,.inr ⟨by rw [he,h3],h4⟩⟩
 .rintro ⟨h1,h2 | ⟨h2,h3⟩⟩
  .exact ⟨h1,.inl h2⟩
  .exact ⟨h1,.inr ⟨by rw [h2];rfl,by rw [h2];rfl,h3⟩⟩
section
variable {t l:List ag} {A:ag->Prop} (h:jY t l A)
include h
theorem jY.sW (c:Cm){o:ag}(ho:A o):zP t (bh t).at_ (bh t).made c o=zP l (bh l).at_ (bh l).made c o:=by
 rw [Bool.eq_iff_iff,zQ,zQ,h.line _ ho];constructor
 .rintro ⟨h1,h2 | ⟨h2,h3⟩⟩
  .exact ⟨h1,.inl h2⟩
  .obtain ⟨x,hx,e⟩:=xz h2 (by rw [h.line _ ho];exact h1)
   have hl:=h.up hx;unfold ow at h3;rw [bG hx,hx] at h3;have ha:=h.down ho hl (by simpa using h3) e;refine ⟨h1,.inr ⟨by rw [<- h.set hl ha];exact h2,?_⟩⟩;unfold ow;rw [bG hl,hl];exact h3
 .rintro ⟨h1,h2 | ⟨h2,h3⟩⟩
  .exact ⟨h1,.inl h2⟩
  .obtain ⟨x,hl,e⟩:=xz h2 h1
   unfold ow at h3;rw [bG hl,hl] at h3;have ha:=h.down ho hl (by simpa using h3) e;have hx:=h.at_ hl ha;refine ⟨h1,.inr ⟨by rw [h.set hl ha];exact h2,?_⟩⟩;unfold ow;rw [bG hx,hx];exact h3
theorem jY.why {o:ag}(ho:A o):kf t o=kf l o:=by
 unfold kf yB;refine h.nU ho _ _ λ hc=> ?_
 unfold Dc;rw [h.yx _ ho,h.line _ ho];simp only [h.sW _ ho]
 by_cases k2:o.kind=2
 .rw [if_pos k2,if_pos k2]
  cases hd:rH l (bh l).at_ o.at_ o with
  | false=>rfl
  | true=>
   unfold lG;rw [(h.A4 ho hd).2]
 .rw [if_neg k2,if_neg k2]
end
end
section
theorem vi {l :List ag}{tr:MM Dt Cr}{md:MM Dt ag}{o:ag}{x:Bool}:Go.Proofs.YtaelhkkjgfobhaaGreat.nU l tr md o x=0↔ ¬ (o.kind:Int)>8/\tE l o=true/\(o.kind≠0->rH l tr o.aM o=true/\((((MM.get tr o.aM).getD Cr.zero).hold:Int)=(o.who:Int))/\oq ((MM.get tr o.aM).getD Cr.zero) o.kind=false)/\(o.kind=1->vg tr md o=0)/\x=true:=by
 unfold Go.Proofs.YtaelhkkjgfobhaaGreat.nU
 by_cases h8:(o.kind:Int)>8
 .rw [decide_eq_true h8];simp [h8]
 rw [decide_eq_false h8];cases hc:tE l o with
 | false=>simp
 | true=>
  by_cases hk:o.kind=0
  .have hk':((o.kind:Int) == 0)=true:=by rw [hk];rfl
   rw [hk',hk,qG];cases x <;> simp
  .have hk':((o.kind:Int) == 0)=false:=by simp;exact hk
   rw [hk'];cases h1:rH l tr o.aM o with
   | false=>simp [hk]
   | true=>
    by_cases h2:(((MM.get tr o.aM).getD Cr.zero).hold:Int)=(o.who:Int)
    .have h2':((((MM.get tr o.aM).getD Cr.zero).hold:Int) != (o.who:Int))=false:=by simpa using h2
     rw [h2'];cases h3:oq ((MM.get tr o.aM).getD Cr.zero) o.kind with
     | true=>simp [hk]
     | false=>
      by_cases h4:o.kind=1
      .by_cases h5:vg tr md o=0
       .rw [h5];cases x <;> simp [h2];omega
       .cases x <;> simp [h4,h5]
      .cases x <;> simp [h4,h2];omega
    .have h2':((((MM.get tr o.aM).getD Cr.zero).hold:Int) != (o.who:Int))=true:=by simpa using h2
     rw [h2'];simp [hk,h2]
section
variable {t l:List ag} {A:ag->Prop} (h:jY t l A) (hA:∀ o,o∈t->A o)
include h hA
end
theorem Part.Nc {t l:List ag}(h:Part t l):jY t l (· ∈t):=⟨h.uniq,h.AZ,h.sub,λ _ h=>h,λ o a ho ha hb _=>h.Fg o a ho ha hb⟩
theorem A5 {t l:List ag}(h:Part t l){o:ag}(ho:o∈t):kf t o=kf l o:=h.Nc.why ho
theorem bS.good {l:List ag}{S:Sh}(h:bS l S)(d:Dt):S.good d=match aW l d with
  | some o=>decide (kf l o=0)
  | none=>false:=by
 unfold Sh.good;rw [h.base.has,h.base.op,h.fI];cases hf:aW l d with
 | none=>rfl
 | some o=>rw [bG hf];rfl
end
end Go.Proofs.YtaelhkkjgfobhaaGreat
namespace Go.Proofs.YtaelhkkjgfobhaaGreat
open Go.Sl Go.Proofs
section
attribute [local irreducible] SW RW aJ SC ai an
def Oj (n kind who aM:Nat):ag:=⟨⟨0,n⟩,iD (n - 1),n,who,⟨0,1⟩,kind,⟨0,aM⟩,0,0,0,0,⟨0,0⟩,⟨0,0⟩,0,0,0,.aN⟩
def De (n kind who aM:Nat):ag:=(Oj n kind who aM).nz
theorem SC.Nd {P:Program}{f:FuncId}{args:List SV}{F F':Hp}{k nk:Nat}{r r':SV}(h:aJ P f args F k nk r F')(hr:∀ (p:Nat->Prop) μ M u,Rp p μ M r u->Rp p μ M r' u):aJ P f args F k nk r' F':=by
 unfold aJ SC at h ⊢;refine ⟨h.1,λ p μ M w vals h1 h2 h3=>(h.2 p μ M w vals h1 h2 h3).mono ?_⟩;rintro e w' ⟨r0,F0,bn,M',u,a,⟨rfl,rfl⟩,b,c⟩;exact ⟨r',F0,bn,M',u,a,⟨rfl,rfl⟩,hr _ _ _ _ b,c⟩
end
section
abbrev nK (k:Nat):Sn:=⟨10+k,7+k,8+k,9+k,2+k,0+k,1+k⟩
theorem Sh.Ca (S:Sh)(k:Nat):Hp.aA (· +k) S.j5=S.hp (nK k):=by
 simp only [Hp.aA,List.map_cons,List.map_nil,Ob.aA,SV.aQ,SV.aA,dV,bA,fG,cM,Sh.hp]
theorem Cb (l:List ag)(hl:l.length<1000000000)(hd:∀ o,o∈l->o.kind<256/\o.mW)(k:Nat):SC Tryz.prog shape_New.f [ops l] [] k 11 λ r F=>∃ S,bS l S/\r= .ptr (10+k) 0/\F=S.hp (nK k):=by
 have:=SB.at (IF l hl hd) (· +k) k (λ n m h=>absurd h (Nat.not_lt_zero n)) (λ n h=>absurd h (Nat.not_lt_zero n)) (λ i _=>by show 0+i+k=k+i;omega);refine SC.mono (show SC Tryz.prog shape_New.f [ops l] [] k 11 _ from this) ?_;rintro r F ⟨r0,F0,⟨S,hS,rfl,rfl⟩,rfl,rfl⟩;exact ⟨S,hS,rfl,S.Ca k⟩
theorem K8 (l:List ag)(hl:l.length<1000000000)(hd:∀ o,o∈l->o.kind<256/\o.mW):SC Tryz.prog shape_New.f [ops l] [] 0 11 λ r F=>∃ S,bS l S/\r= .ptr 10 0/\F=S.j5:=Cb l hl hd 0
section
variable {l:List ag} {S:Sh} (h:bS l S)
include h
theorem bS.short (hd:∀ o,o∈l->o.kind<256/\o.mW/\o.cl.length<=1048576):lZ S:=λ d o ho=>by
 rw [h.base.ops.get] at ho;exact hd o (gP ho).1
end
def o1:ag:=De 1 0 1 0
def o2:ag:={ De 2 1 1 1 with to:=2,bp:=2,cap:=9}
def o3:ag:={ De 3 3 2 2 with ua:=1}
def o4:ag:={ De 4 4 2 2 with at_:=⟨0,3⟩,ua:=2}
def hrow:List ag:=[o1,o2,o3,o4]
theorem d3:cG (Dt.mk 0 0).cells 1 [.d (.int .u32 3)]=(Dt.mk 0 3).cells:=rfl
theorem d4:cG (Dt.mk 0 0).cells 1 [.d (.int .u32 4)]=(Dt.mk 0 4).cells:=rfl
attribute [local irreducible] SW RW aJ SC ai an
end
section
def hc1:Cr:=⟨⟨0,1⟩,⟨0,1⟩,⟨0,0⟩,1,7,8,1099511627776,0⟩
def Hz:Cr:=⟨⟨0,2⟩,⟨0,1⟩,⟨0,1⟩,2,2,0,9,1⟩
theorem IG {l:List ag}{o:ag}{L:List Cr}{n:Nat}(hL:oI (bh l).at_ (MM.get (bh l).at_ o.at_) L)(h:yB l (bh l).at_ (bh l).made o (lG (bh l).at_ o.aM o.at_ L)=n):kf l o=n:=by
 unfold kf;rw [ig hL];exact h
def Et:List Cm:=[⟨⟨0,3⟩,⟨0,4⟩⟩]
def Ol:ag:={ De 5 8 2 2 with lines:= .sl 1 (Et.flatMap Cm.ds)}
theorem Om {o:ag}(h:o.lines= .sl 0 []):o.mW:=(ag.mW.of (l:=[]) h (by simp)).1
section
variable {S:Sh} (h:bS hrow S)
include h
end
theorem O1:cG (De 5 8 2 2).cells 28 [.d (.sl 1 (Et.flatMap Cm.ds))]=Ol.cells:=rfl
attribute [local irreducible] SW RW aJ SC ai an
end
end Go.Proofs.YtaelhkkjgfobhaaGreat
