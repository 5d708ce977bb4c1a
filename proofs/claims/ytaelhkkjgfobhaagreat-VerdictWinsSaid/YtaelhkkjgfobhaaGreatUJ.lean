/-
 Shapes: what a new shape holds (plain).
-/
import Derived.Test.YtaelhkkjgfobhaaGreatUI
set_option linter.unusedSectionVars false
set_option linter.unusedVariables false
set_option linter.unusedSimpArgs false
namespace Go.Proofs.YtaelhkkjgfobhaaGreat
open Go.Sl Go.Proofs
section
theorem lT.uniq {a:MM Dt Cr}{oc:Option Cr}{L M:List Cr}(h:lT a oc L):lT a oc M->L=M:=by
 induction h generalizing M with
 | none=>intro g;cases g;rfl
 | root c hc=>intro g;cases g with
  | root _ _=>rfl
  | more _ L h1 _=>exact absurd h1 hc
 | more c L h1 _ ih=>intro g;cases g with
  | root _ h2=>exact absurd h1 h2
  | more _ L' _ h2=>rw [ih h2]
open Classical in
noncomputable def kZ (a:MM Dt Cr)(d:Dt):List Cr:=if h:∃ L,lT a (MM.get a d) L then Classical.choose h else []
theorem fm {a:MM Dt Cr}{d:Dt}{L:List Cr}(h:lT a (MM.get a d) L):kZ a d=L:=by
 have hx:∃ L,lT a (MM.get a d) L:=⟨L,h⟩;unfold kZ;rw [dif_pos hx];exact (Classical.choose_spec hx).uniq h
noncomputable def Sh.GQ (S:Sh)(e d:Dt):Bool:=eU S.tr e d (kZ S.tr d)
noncomputable def Sh.fC (S:Sh)(o:ag):Nat:=S.why o (S.GQ o.aK o.at_)
def Sh.r8 (S:Sh):Prop:=∀ d,∃ L,lT S.tr (MM.get S.tr d) L/\L.length<=9
theorem Sh.NR (S:Sh)(h:S.r8)(e d:Dt):∃ m,∀ k,aG Tryz.prog tree_Tree_Above.f [.ptr 4 0,.agg e.cells,.agg d.cells] S.h4 k m (bl (S.GQ e d)) S.h4:=by
 obtain ⟨L,hL,hlen⟩:=h d;refine ⟨6+L.length*(1+1),λ k=> ?_⟩;have:=EI S.KQ e d L hL (by omega) k;unfold Sh.GQ;rw [fm hL];exact this
theorem Sh.MQ (S:Sh)(h:S.r8)(o:ag)(hk:o.kind<256)(hl:o.nT)(n:Sn)(hn:n.ok)(k:Nat):aG Tryz.prog shape_Shape_Why.f [.ptr n.b 0,.agg o.cells] (S.hp n) k 0 (i64 (S.fC o)) (S.hp n):=by
 obtain ⟨m,hm⟩:=S.NR h o.aK o.at_;exact Ia S o hk _ (λ k=>KT S o hk hl _ m hm k) n hn k
theorem Sh.sk (S:Sh)(A:MM Dt Int)(c:Nat)(B:MM Dt Dt)(e:Nat){o:ag}(hk:o.kind=3):({ S with iu:=A,ca:=c,n_:=B,cl:=e}:Sh).fC o=S.fC o:=by
 have ht:∀ (T:Sh) (b:Bool),T.tgt o b=true:=λ T b=>by unfold Sh.tgt;rw [if_neg (by omega),if_neg (by omega),if_neg (by omega),if_neg (by omega)]
 have hr:∀ (b:Bool) i,Sh.qW { S with iu:=A,ca:=c,n_:=B,cl:=e} o b i=S.qW o b i:=λ b i=>by
  match i with
  | 0 | 1 | 2 | 3 | 4 | 5=>rfl
  | i+6=>show (!Sh.tgt _ o b)=(!Sh.tgt _ o b);rw [ht,ht]
 show Sh.why _ o (S.GQ o.aK o.at_)=S.why o (S.GQ o.aK o.at_);unfold Sh.why;simp only [hr]
theorem Sh.yY (S:Sh)(B:MM Dt Dt)(e:Nat){o:ag}(hk:o.kind=4):({ S with n_:=B,cl:=e}:Sh).fC o=S.fC o:=by
 have ht:∀ (b:Bool),Sh.tgt { S with n_:=B,cl:=e} o b=S.tgt o b:=λ b=>by
  unfold Sh.tgt;rw [if_neg (by omega),if_pos (.inl hk),if_neg (by omega),if_pos (.inl hk)];rfl
 have hr:∀ (b:Bool) i,Sh.qW { S with n_:=B,cl:=e} o b i=S.qW o b i:=λ b i=>by
  match i with
  | 0 | 1 | 2 | 3 | 4 | 5=>rfl
  | i+6=>show (!Sh.tgt _ o b)=(!Sh.tgt _ o b);rw [ht]
 show Sh.why _ o (S.GQ o.aK o.at_)=S.why o (S.GQ o.aK o.at_);unfold Sh.why;simp only [hr]
def Bx (s:MM Dt ag×Nat)(o:ag):MM Dt ag×Nat:=if MM.has s.1 o.dot then s else (MM.put s.1 s.2 o.dot o,MM.jk s.1 s.2 o.dot)
def firstM (l:List ag):MM Dt ag×Nat:=l.foldl Bx ([],0)
theorem sO (l:List ag)(x:ag):firstM (l++[x])=Bx (firstM l) x:=by unfold firstM;rw [List.foldl_append];rfl
theorem uO (l:List ag)(x:ag)(d:Dt):aF (l++[x]) d=(aF l d).or (if x.dot=d then some x else none):=by
 unfold aF;rw [List.find?_append]
 congr 1
 simp only [List.find?_cons,List.find?_nil]
 by_cases h:x.dot=d <;> simp [h]
structure xA (l:List ag)(m:MM Dt ag)(c:Nat):Prop where
 wf:MM.wf m c
 get:∀ d,MM.get m d=aF l d
theorem Fo (l:List ag):xA l (firstM l).1 (firstM l).2:=by
 have key:∀ n,∀ l:List ag,l.length=n->xA l (firstM l).1 (firstM l).2:=λ n=>by
  induction n with
  | zero=>
   intro l hl;rw [List.eq_nil_of_length_eq_zero hl];exact ⟨MM.kL,λ d=>by simp [firstM,MM.get,aF]⟩
  | succ n ih=>
   intro l hl;have hne:l≠[]:=λ e=>by rw [e] at hl;cases hl
   have hd:=List.dropLast_concat_getLast hne;obtain ⟨x,hx⟩:∃ x,l.getLast hne=x:=⟨_,rfl⟩;obtain ⟨p,hp⟩:∃ p,l.dropLast=p:=⟨_,rfl⟩;rw [hx,hp] at hd;have hpl:p.length=n:=by rw [<- hp,List.length_dropLast,hl];omega
   have h:=ih p hpl;rw [<- hd,sO];unfold Bx
   by_cases hh:MM.has (firstM p).1 x.dot=true
   .rw [if_pos hh]
    refine ⟨h.wf,λ d=> ?_⟩;rw [h.get,uO];have hs:(aF p x.dot).isSome=true:=by rw [<- h.get];exact hh
    by_cases e:x.dot=d
    .subst e
     obtain ⟨y,hy⟩:=Option.isSome_iff_exists.1 hs;rw [hy];rfl
    .rw [if_neg e];simp
   .rw [if_neg hh]
    refine ⟨MM.gd h.wf _ _,λ d=> ?_⟩;rw [MM.dJ,h.get,uO];have hs:aF p x.dot=none:=by
     rw [<- h.get];have:(MM.get (firstM p).1 x.dot).isSome=false:=by simpa [MM.has] using hh
     simpa using this
    by_cases e:d=x.dot
    .subst e
     rw [if_pos rfl,hs,if_pos rfl];rfl
    .rw [if_neg e,if_neg (Ne.symm e)];simp
 exact key _ l rfl
end
section
attribute [local irreducible] SW RW aG SC ai ak
abbrev OW (a:MM Dt Cr)(ca:Nat)(m:MM Dt ag)(cm:Nat):Tr:=⟨2,0,1,a,ca,m,cm⟩
abbrev H2 (a:MM Dt Cr)(ca:Nat)(m:MM Dt ag)(cm:Nat):Hp:=[(2,.box 166 [.mp 0,.mp 1]),(0,.map (aq Dt.cells cv a) ca),(1,.map (aq Dt.cells ov m) cm)]
structure Tn (l:List ag)(a:MM Dt Cr)(ca:Nat)(m:MM Dt ag)(cm:Nat):Prop where
 new:jB l 0=OW a ca m cm
theorem MR (l:List ag):∃ a ca m cm,Tn l a ca m cm:=by
 refine ⟨(jB l 0).at_,(jB l 0).ca,(jB l 0).made,(jB l 0).cm,⟨?_⟩⟩;have e1:(jB l 0).bx=2:=by show 0+_=2;rw [Nat.zero_add];exact lZ.e1 _
 have e2:(jB l 0).ma=0:=by show 0+_=0;rw [Nat.zero_add];exact lZ.e2 _
 have e3:(jB l 0).mm=1:=by show 0+_=1;rw [Nat.zero_add];exact lZ.e3 _
 revert e1 e2 e3
 generalize jB l 0=T;obtain ⟨b,x,y,a,ca,m,cm⟩:=T;rintro rfl rfl rfl;rfl
section
variable {l:List ag} {a:MM Dt Cr} {ca:Nat} {m:MM Dt ag} {cm:Nat} (h:Tn l a ca m cm)
include h
theorem Tn.NS (hl:l.length<1000000000):aG Tryz.prog tree_New.f [ops l] [] 0 7 (.ptr 2 0) (H2 a ca m cm):=by
 have:=KO l hl 0;rw [h.new] at this;exact this
end
end
section
abbrev n10:Sn:=⟨10,7,8,9,2,0,1⟩
theorem xB:n10.ok:=by decide
abbrev Sh.lg (S:Sh):Hp:=[(10,.box 117 [.ptr 2 0,.mp 7,.mp 8,.mp 9]),(7,.map (aq Dt.cells ov S.ops) S.co),(8,.map (aq Dt.cells iv S.iu) S.ca),(9,.map (aq Dt.cells dv S.n_) S.cl),
 (2,.box 166 [.mp 0,.mp 1]),(0,.map (aq Dt.cells cv S.tr) S.ct),(1,.map (aq Dt.cells ov S.md) S.cm)]
theorem Sh.nX (S:Sh){k:Nat}(h:11<=k):S.lg.ok (λ n=>decide (n<k))=true:=by
 have a:=bB (λ n=>decide (n<k)) S.ops;have b:=bJ (λ n=>decide (n<k)) S.iu;have c:=oD (λ n=>decide (n<k)) S.n_;have d:=j0 (λ n=>decide (n<k)) S.tr;have e:=bB (λ n=>decide (n<k)) S.md;simp only [Hp.ok,List.all_cons,List.all_nil,Ob.ok,SV.av,SV.ok,a,b,c,d,e,Bool.and_true,Bool.true_and,Bool.and_eq_true,decide_eq_true_eq];omega
theorem Sh.MS (S:Sh):(S.lg.map (·.1)).Nodup:=by simp
theorem Sh.JO (S:Sh)(h:S.r8)(o:ag)(hk:o.kind<256)(hl:o.nT)(k:Nat):aG Tryz.prog shape_Shape_Why.f [.ptr 10 0,.agg o.cells] S.lg k 0 (i64 (S.fC o)) S.lg:=S.MQ h o hk hl n10 xB k
structure jC (l:List ag)(S:Sh):Prop where
 ops:xA l S.ops S.co
 tok:j4 l S.T
 r8:S.r8
 tr:S.tr=(au l).at_
 md:S.md=(au l).made
def jS (S:Sh)(xs:MM Dt ag)(A:MM Dt Int)(c:Nat):Prop:=MM.wf A c/\∀ d v,MM.get A d=some v↔v=1/\∃ x,x∈xs/\x.2.1=d/\x.2.2.kind=3/\S.fC x.2.2=0
def oE (S:Sh)(xs:MM Dt ag)(B:MM Dt Dt)(c:Nat):Prop:=MM.wf B c/\∀ d v,MM.get B d=some v↔∃ x,x∈xs/\x.2.1=d/\x.2.2.kind=4/\S.fC x.2.2=0/\v=x.2.2.at_
structure dh (l:List ag)(S:Sh):Prop where
 base:jC l S
 iu:jS S S.ops S.iu S.ca
 n_:oE S S.ops S.n_ S.cl
theorem get_mem {V:Type}{m:MM Dt V}{d:Dt}{v:V}(h:MM.get m d=some v):∃ x,x∈m/\x.2.1=d/\x.2.2=v:=by
 unfold MM.get at h;obtain ⟨x,hx,rfl⟩:=Option.map_eq_some_iff.1 h;exact ⟨x,List.mem_of_find?_eq_some hx,by have:=List.find?_some hx;simp at this;exact this.symm,rfl⟩
theorem qX {V:Type}{m:MM Dt V}(hk:(MM.keys m).Nodup){x:Nat×Dt×V}(hx:x∈m):MM.get m x.2.1=some x.2.2:=by
 have:(MM.get m x.2.1).isSome=true:=by
  unfold MM.get;rw [Option.isSome_map,List.find?_isSome];exact ⟨x,hx,by simp⟩
 obtain ⟨v,hv⟩:=Option.isSome_iff_exists.1 this;obtain ⟨y,hy,e1,e2⟩:=get_mem hv;have:y=x:=by
  have hp:=List.nodup_iff_pairwise_ne.1 hk;unfold MM.keys at hp;rw [List.pairwise_map] at hp;exact Classical.byContradiction λ hne=>by
   rcases List.pairwise_iff_getElem.1 hp with hpp;obtain ⟨i,hi,rfl⟩:=List.getElem_of_mem hy;obtain ⟨j,hj,rfl⟩:=List.getElem_of_mem hx;rcases Nat.lt_trichotomy i j with h | h | h
   .exact hpp i j hi hj h e1
   .subst h;exact hne rfl
   .exact hpp j i hj hi h e1.symm
 rw [hv,<- e2,this]
theorem jS.skip {S:Sh}{xs:MM Dt ag}{A:MM Dt Int}{c:Nat}(h:jS S xs A c){x:Nat×Dt×ag}(hx: ¬ (x.2.2.kind=3/\S.fC x.2.2=0)):jS S (xs++[x]) A c:=by
 refine ⟨h.1,λ d v=> ?_⟩;rw [h.2];constructor
 .rintro ⟨h1,y,h2,h3⟩
  exact ⟨h1,y,List.mem_append_left _ h2,h3⟩
 .rintro ⟨h1,y,h2,h3,h4⟩
  rcases List.mem_append.1 h2 with h2 | h2
  .exact ⟨h1,y,h2,h3,h4⟩
  .rw [List.mem_singleton] at h2
   subst h2;exact absurd h4 hx
theorem jS.put {S:Sh}{xs:MM Dt ag}{A:MM Dt Int}{c:Nat}(h:jS S xs A c){x:Nat×Dt×ag}(hx:x.2.2.kind=3/\S.fC x.2.2=0):jS S (xs++[x]) (MM.put A c x.2.1 1) (MM.jk A c x.2.1):=by
 refine ⟨MM.gd h.1 _ _,λ d v=> ?_⟩;rw [MM.dJ]
 by_cases e:d=x.2.1
 .rw [if_pos e]
  constructor
  .intro h1
   injection h1 with h1;exact ⟨h1.symm,x,List.mem_append_right _ (List.mem_singleton.2 rfl),e.symm,hx⟩
  .rintro ⟨rfl,_⟩;rfl
 .rw [if_neg e,h.2]
  constructor
  .rintro ⟨h1,y,h2,h3⟩
   exact ⟨h1,y,List.mem_append_left _ h2,h3⟩
  .rintro ⟨h1,y,h2,h3,h4⟩
   rcases List.mem_append.1 h2 with h2 | h2
   .exact ⟨h1,y,h2,h3,h4⟩
   .rw [List.mem_singleton] at h2
    subst h2;exact absurd h3.symm e
theorem jS.to {S S':Sh}{xs ys:MM Dt ag}{A:MM Dt Int}{c:Nat}(h:jS S xs A c)(hm:∀ x,x∈xs↔x∈ys)(hw:∀ o:ag,o.kind=3->S'.fC o=S.fC o):jS S' ys A c:=by
 refine ⟨h.1,λ d v=> ?_⟩;rw [h.2];constructor
 .rintro ⟨h1,y,h2,h3,h4,h5⟩
  exact ⟨h1,y,(hm y).1 h2,h3,h4,by rw [hw _ h4];exact h5⟩
 .rintro ⟨h1,y,h2,h3,h4,h5⟩
  exact ⟨h1,y,(hm y).2 h2,h3,h4,by rw [<- hw _ h4];exact h5⟩
theorem oE.skip {S:Sh}{xs:MM Dt ag}{A:MM Dt Dt}{c:Nat}(h:oE S xs A c){x:Nat×Dt×ag}(hx: ¬ (x.2.2.kind=4/\S.fC x.2.2=0)):oE S (xs++[x]) A c:=by
 refine ⟨h.1,λ d v=> ?_⟩;rw [h.2];constructor
 .rintro ⟨y,h2,h3⟩
  exact ⟨y,List.mem_append_left _ h2,h3⟩
 .rintro ⟨y,h2,h3,h4,h5,h6⟩
  rcases List.mem_append.1 h2 with h2 | h2
  .exact ⟨y,h2,h3,h4,h5,h6⟩
  .rw [List.mem_singleton] at h2
   subst h2;exact absurd ⟨h4,h5⟩ hx
theorem oE.put {S:Sh}{xs:MM Dt ag}{A:MM Dt Dt}{c:Nat}(h:oE S xs A c){x:Nat×Dt×ag}(hx:x.2.2.kind=4/\S.fC x.2.2=0)(hu:∀ y,y∈xs->y.2.1≠x.2.1):oE S (xs++[x]) (MM.put A c x.2.1 x.2.2.at_) (MM.jk A c x.2.1):=by
 refine ⟨MM.gd h.1 _ _,λ d v=> ?_⟩;rw [MM.dJ]
 by_cases e:d=x.2.1
 .rw [if_pos e]
  constructor
  .intro h1
   injection h1 with h1;exact ⟨x,List.mem_append_right _ (List.mem_singleton.2 rfl),e.symm,hx.1,hx.2,h1.symm⟩
  .rintro ⟨y,h2,h3,_,_,h6⟩
   rcases List.mem_append.1 h2 with h2 | h2
   .exact absurd (h3.trans e) (hu y h2)
   .rw [List.mem_singleton] at h2
    subst h2;rw [h6]
 .rw [if_neg e,h.2]
  constructor
  .rintro ⟨y,h2,h3⟩
   exact ⟨y,List.mem_append_left _ h2,h3⟩
  .rintro ⟨y,h2,h3,h4⟩
   rcases List.mem_append.1 h2 with h2 | h2
   .exact ⟨y,h2,h3,h4⟩
   .rw [List.mem_singleton] at h2
    subst h2;exact absurd h3.symm e
theorem oE.to {S S':Sh}{xs ys:MM Dt ag}{A:MM Dt Dt}{c:Nat}(h:oE S xs A c)(hm:∀ x,x∈xs↔x∈ys)(hw:∀ o:ag,o.kind=4->S'.fC o=S.fC o):oE S' ys A c:=by
 refine ⟨h.1,λ d v=> ?_⟩;rw [h.2];constructor
 .rintro ⟨y,h2,h3,h4,h5,h6⟩
  exact ⟨y,(hm y).1 h2,h3,h4,by rw [hw _ h4];exact h5,h6⟩
 .rintro ⟨y,h2,h3,h4,h5,h6⟩
  exact ⟨y,(hm y).2 h2,h3,h4,by rw [<- hw _ h4];exact h5,h6⟩
theorem uP {M xs:MM Dt ag}{c:Nat}(hwf:MM.wf M c)(p1:∀ x,x∈xs->x∈M)(hall:∀ e,e∈aq Dt.cells ov M->(xs.map (·.1)).contains e.1=true):∀ x,x∈xs↔x∈M:=λ x=>⟨p1 x,λ hx=>by
 have:=hall _ (List.mem_map.2 ⟨x,hx,rfl⟩);simp only [List.contains_iff_mem] at this;obtain ⟨z,hz,e⟩:=List.mem_map.1 this;rw [<- MM.qM hwf.times (p1 z hz) hx e];exact hz⟩
theorem sq {M xs:MM Dt ag}(p1:∀ x,x∈xs->x∈M)(p2:(xs.map (·.1)).Nodup){x:Nat×Dt×ag}(hx:x∈M)(hs:(xs.map (·.1)).contains x.1=false):(∀ z,z∈xs++[x]->z∈M)/\((xs++[x]).map (·.1)).Nodup/\x.1∉xs.map (·.1):=by
 have hxt:x.1∉xs.map (·.1):=λ h=>by
  have:(xs.map (·.1)).contains x.1=true:=by simpa only [List.contains_iff_mem] using h
  rw [this] at hs;cases hs
 refine ⟨λ z hz=> ?_,?_,hxt⟩
 .rcases List.mem_append.1 hz with hz | hz
  .exact p1 z hz
  .rw [List.mem_singleton.1 hz];exact hx
 .rw [List.map_append,List.nodup_append]
  refine ⟨p2,by simp,λ a ha b' hb'=> ?_⟩;simp only [List.map_cons,List.map_nil,List.mem_singleton] at hb';intro e;exact hxt (by rw [<- hb',<- e];exact ha)
section
attribute [local irreducible] SW RW aG SC ai ak
set_option maxHeartbeats 16000000 in
theorem Ib (l:List ag)(hl:l.length<1000000000)(hd:∀ o,o∈l->o.kind<256/\o.nT):SB Tryz.prog shape_New.f [ops l] [] 0 11 λ r F=>∃ S,dh l S/\r= .ptr 10 0/\F=S.lg:=by
 obtain ⟨a,ca,m,cm,hT⟩:=MR l;refine shape_New.enter (by first | rfl | simp [SV.ok,SV.av]) (by first | rfl | simp [Hp.ok,Ob.ok,SV.ok,SV.av,aB.aj]) (by simp) ?_;dsimp only [shape_New.s,Co.M,Co.G,Co.J,Co.H,Co.N,Co.F,Co.C,Co.Z,Co.b8,Co.ay,Co.bD,Co.T,Co.K,Co.E,Co.L,Co.P,Co.x,Co.W,Co.Y,Co.V,Co.U,Co.O,Co.D,Co.A,Co.I,Co.S];have hN:=hT.NS hl;refine SW.seq (SW.g0 [0,2,3,5,7,8,9,10,11,19,20,21,22,36,49,51,63,73,75,87] Zm af ?_);refine SW.seq ?_;have sp4:bX (bX (bX (bX [SV.d .nW,.d .iz,.d .iz,.d .iz] 0 [.ptr 2 0]) 1 [.mp 7]) 2 [.mp 8]) 3 [.mp 9]=[.ptr 2 0,.mp 7,.mp 8,.mp 9]:=rfl;refine SW.g1 [0,2,3,5,7,8,9,10,11,19,20,21,22,36,49,51,63,73,75,87] Zm sp4 hN ?_;have w0:∀ y,y∈(⟨[],0,[],0,[],0,a,ca,m,cm⟩:Sh).lg->lk [(10,.box 117 [.ptr 2 0,.mp 7,.mp 8,.mp 9]),(9,Ob.map [] 0),(8,.map [] 0),(7,.map [] 0),(2,.box 166 [.mp 0,.mp 1]),(0,.map (aq Dt.cells cv a) ca),(1,.map (aq Dt.cells ov m) cm)] y.1=some y.2:=λ y hy=>by
  simp only [List.mem_cons,List.not_mem_nil,or_false] at hy;rcases hy with rfl | rfl | rfl | rfl | rfl | rfl | rfl <;> rfl
 refine SW.weak id (st1:=⟨[(0,ops l),(3,.ptr 10 0)],(⟨[],0,[],0,[],0,a,ca,m,cm⟩:Sh).lg,11⟩) (aQ.same (by simp) (by simp [aL,List.lookup,SV.aC,SV.ok,SV.av]) (Sh.nX _ (Nat.le_refl 11)) w0) ?_;refine SW.seq (SW.seq (SW.g0 [0,2,3,5,7,8,9,10,11,19,20,21,22,36,49,51,63,73,75,87] Zm af ?_));refine SW.block (SW.loop (α:={i:Nat // i<=l.length}) (λ i=>⟨[(21,i64 i.1),(20,i64 l.length),(19,ops l),(3,.ptr 10 0)],(⟨(firstM (l.take i.1)).1,(firstM (l.take i.1)).2,[],0,[],0,a,ca,m,cm⟩:Sh).lg,11⟩) (λ i=>l.length - i.1) ⟨0,by omega⟩ id (aQ.same (by simp) (by simp [aL,List.lookup,SV.aC,SV.ok,SV.av]) (Sh.nX _ (Nat.le_refl 11)) (aI (Sh.MS _))) ?_);rintro ⟨i,hi⟩;dsimp only
 by_cases h:i<l.length
 .have h1:decide ((i:Int)<l.length)=true:=by simp only [decide_eq_true_eq];omega
  obtain ⟨x,hx⟩:=br h;have e2:IntKind.i64.wrap ((i:Int)+1)=((i+1:Nat):Int):=wrap_i64 _ (by omega);have hsn:=sO (l.take i) x;rw [<- dG hx] at hsn;unfold Bx at hsn;obtain ⟨M,hM⟩:∃ M,(firstM (l.take i)).1=M:=⟨_,rfl⟩;obtain ⟨c,hc⟩:∃ c,(firstM (l.take i)).2=c:=⟨_,rfl⟩;rw [hM,hc] at hsn ⊢;obtain ⟨g,hg⟩:∃ g,(MM.get M x.dot).getD ag.zero=g:=⟨_,rfl⟩;have hms:=Bu M c x.dot x;refine SW.seq (SW.g0 [0,2,3,5,7,8,9,10,11,19,20,21,22,36,49,51,63,73,75,87] Zm h1 ?_);refine SW.seq (SW.an rfl (SW.skip ?_));refine SW.seq (SW.block (SW.seq (SW.g0 [0,2,3,5,7,8,9,10,11,19,20,21,22,36,49,51,63,73,75,87] Zm (Zq (qS hx) (Zq (oA hx) (Zq (sL hx) (kS hx)))) ?_)));refine SW.seq ?_;rcases hh:MM.has M x.dot with _ | _
  .rw [hh] at hsn
   simp only [Bool.false_eq_true,if_false] at hsn;refine SW.g0 [0,2,3,5,7,8,9,10,11,19,20,21,22,36,49,51,63,73,75,87] Zm (Zq hh hg) ?_;refine SW.seq (SW.g0 [0,2,3,5,7,8,9,10,11,19,20,21,22,36,49,51,63,73,75,87] Zm af ?_);refine SW.an rfl ?_;refine SW.g0 [0,2,3,5,7,8,9,10,11,19,20,21,22,36,49,51,63,73,75,87] Zm hms ?_;refine SW.g0 [0,2,3,5,7,8,9,10,11,19,20,21,22,36,49,51,63,73,75,87] Zm e2 ?_;refine ⟨⟨i+1,by omega⟩,id,by show l.length - (i+1)<l.length - i;omega,?_⟩;dsimp only;rw [hsn];refine aQ.same (by simp) (by simp [aL,List.lookup,SV.aC,SV.ok,SV.av]) (Sh.nX _ (Nat.le_refl 11)) (λ y hy=> ?_);simp only [List.mem_cons,List.not_mem_nil,or_false] at hy;rcases hy with rfl | rfl | rfl | rfl | rfl | rfl | rfl <;> rfl
  .rw [hh] at hsn
   simp only [if_true] at hsn;refine SW.g0 [0,2,3,5,7,8,9,10,11,19,20,21,22,36,49,51,63,73,75,87] Zm (Zq hh hg) ?_;refine SW.seq (SW.g0 [0,2,3,5,7,8,9,10,11,19,20,21,22,36,49,51,63,73,75,87] Zm af ?_);refine SW.ah rfl (SW.skip ?_);refine SW.g0 [0,2,3,5,7,8,9,10,11,19,20,21,22,36,49,51,63,73,75,87] Zm e2 ?_;refine ⟨⟨i+1,by omega⟩,id,by show l.length - (i+1)<l.length - i;omega,?_⟩;dsimp only;rw [hsn,hM,hc];refine aQ.same (by simp) (by simp [aL,List.lookup,SV.aC,SV.ok,SV.av]) (Sh.nX _ (Nat.le_refl 11)) (λ y hy=> ?_);simp only [List.mem_cons,List.not_mem_nil,or_false] at hy;rcases hy with rfl | rfl | rfl | rfl | rfl | rfl | rfl <;> rfl
 have h1:decide ((i:Int)<l.length)=false:=by simp only [decide_eq_false_iff_not];omega
 have hi2:i=l.length:=by omega
 subst hi2;rw [List.take_length];have hF:=Fo l;obtain ⟨M,hM⟩:∃ M,(firstM l).1=M:=⟨_,rfl⟩;obtain ⟨c,hc⟩:∃ c,(firstM l).2=c:=⟨_,rfl⟩;rw [hM,hc] at hF ⊢;refine SW.seq (SW.g0 [0,2,3,5,7,8,9,10,11,19,20,21,22,36,49,51,63,73,75,87] Zm h1 ?_);refine SW.seq (SW.ah rfl (SW.exit ?_));refine (?_:Sl.SW _ _ _ _ _ _);refine SW.weak id (st1:=⟨[(3,.ptr 10 0)],(⟨M,c,[],0,[],0,a,ca,m,cm⟩:Sh).lg,11⟩) (aQ.same (by simp) (by simp [aL,List.lookup,SV.aC,SV.ok,SV.av]) (Sh.nX _ (Nat.le_refl 11)) (aI (Sh.MS _))) ?_;obtain ⟨S,hS⟩:∃ S:Sh,(⟨M,c,[],0,[],0,a,ca,m,cm⟩:Sh)=S:=⟨_,rfl⟩;have hB:jC l S:=by
  rw [<- hS];have hnew:=hT.new;have ht:=Au l 0;rw [hnew] at ht;refine ⟨hF,⟨ht.cr,ht.no⟩,λ d=> ?_,(congrArg Tr.at_ hnew).symm,(congrArg Tr.made hnew).symm⟩;obtain ⟨L,h2,h3,_⟩:=ht.r8 d;exact ⟨L,h2,h3⟩
 rw [hS];have hwf:=hB.ops.wf;have hkd:∀ x,x∈S.ops->x.2.2.kind<256/\x.2.2.nT:=λ x hx=>by
  have h1:=qX hwf.keys hx;rw [hB.ops.get] at h1;exact hd _ (r6 h1)
 have hSa:({ S with iu:=[],ca:=0}:Sh)=S/\S.n_=[]/\S.cl=0:=by rw [<- hS];exact ⟨rfl,rfl,rfl⟩
 clear hS hN hT w0 hF hM hc;refine SW.seq (SW.seq (SW.g0 [0,2,3,5,7,8,9,10,11,19,20,21,22,36,49,51,63,73,75,87] Zm af ?_));refine SW.block ?_
 refine SW.o7 (es:=λ _=>aq Dt.cells ov S.ops) (c:=λ _=>S.co) (tv:=λ _=>11) (nm:=λ _=>7) (since:=λ _=>S.co) (Ah:=λ _=>S.co)
  (α:={p:MM Dt ag×MM Dt Int×Nat // (∀ x,x∈p.1->x∈S.ops)/\(p.1.map (·.1)).Nodup/\jS S p.1 p.2.1 p.2.2})
  (λ p=>⟨[(49,.it 11),(3,.ptr 10 0)],(11,.iter (some 7) S.co (p.1.1.map (·.1)) S.co)::({ S with iu:=p.1.2.1,ca:=p.1.2.2}:Sh).lg,12⟩)
  (λ p=>gf (aq Dt.cells ov S.ops) (p.1.1.map (·.1))) ⟨([],[],0),by simp,by simp,MM.kL,λ d v=>by simp [MM.get]⟩ id (seen:=λ p=>p.1.1.map (·.1)) ?_ (λ p=>by simp [List.lookup]) (λ p=>by simp [aa]) (λ p=>by simp [aa]) (λ p=>by decide) (λ p e he=> ?_) (λ p=>Nat.le_refl _) (λ p hall=> ?_) (λ p e he hs=> ?_)
 .show aQ 0 _ ⟨[(49,.it 11),(3,.ptr 10 0)],(11,.iter (some 7) S.co [] S.co)::({ S with iu:=[],ca:=0}:Sh).lg,12⟩ id
  rw [hSa.1];exact aQ.same (by simp) (by simp [aL,List.lookup,SV.aC,SV.ok,SV.av]) (ax (by simp) (by simp [Ob.ok]) (Sh.nX _ (show 11<=12 by omega))) (aI (by simp))
 .obtain ⟨x,hx,rfl⟩:=ej he
  exact hwf.old x hx
 .obtain ⟨⟨xs,A,ac⟩,p1,p2,p3⟩:=p
  dsimp only at*;have hxs:=uP hwf p1 hall;refine ⟨⟨[(3,.ptr 10 0)],({ S with iu:=A,ca:=ac}:Sh).lg,11⟩,id,aQ.same (by simp) (by simp [aL,List.lookup,SV.aC,SV.ok,SV.av]) (Sh.nX _ (Nat.le_refl 11)) (λ y hy=>by
   simp only [List.mem_cons,List.not_mem_nil,or_false] at hy;rcases hy with rfl | rfl | rfl | rfl | rfl | rfl | rfl <;> rfl),?_⟩
  rw [if_pos rfl];obtain ⟨S1,vg⟩:∃ S1:Sh,({ S with iu:=A,ca:=ac}:Sh)=S1:=⟨_,rfl⟩;have hB1:jC l S1:=by rw [<- vg];exact ⟨hB.ops,⟨hB.tok.cr,hB.tok.no⟩,hB.r8,hB.tr,hB.md⟩
  have hA1:jS S1 S1.ops S1.iu S1.ca:=by
   rw [<- vg];exact p3.to hxs λ o ho=>S.sk A ac S.n_ S.cl ho
  have hops:S1.ops=S.ops/\S1.co=S.co:=by rw [<- vg];exact ⟨rfl,rfl⟩
  have hSb:({ S1 with n_:=[],cl:=0}:Sh)=S1:=by
   rw [<- vg];have h2:=hSa.2.1;have h3:=hSa.2.2;cases S;dsimp only at h2 h3 ⊢;rw [h2,h3]
  rw [vg];have hwf1:=hB1.ops.wf;have hkd1:∀ x,x∈S1.ops->x.2.2.kind<256/\x.2.2.nT:=λ x hx=>hkd x (by rw [<- hops.1];exact hx)
  refine SW.seq (SW.seq (SW.g0 [0,2,3,5,7,8,9,10,11,19,20,21,22,36,49,51,63,73,75,87] Zm af ?_));refine SW.block ?_
  refine SW.o7 (es:=λ _=>aq Dt.cells ov S1.ops) (c:=λ _=>S1.co) (tv:=λ _=>11) (nm:=λ _=>7) (since:=λ _=>S1.co) (Ah:=λ _=>S1.co)
   (α:={p:MM Dt ag×MM Dt Dt×Nat // (∀ x,x∈p.1->x∈S1.ops)/\(p.1.map (·.1)).Nodup/\oE S1 p.1 p.2.1 p.2.2})
   (λ p=>⟨[(73,.it 11),(3,.ptr 10 0)],(11,.iter (some 7) S1.co (p.1.1.map (·.1)) S1.co)::({ S1 with n_:=p.1.2.1,cl:=p.1.2.2}:Sh).lg,12⟩)
   (λ p=>gf (aq Dt.cells ov S1.ops) (p.1.1.map (·.1))) ⟨([],[],0),by simp,by simp,MM.kL,λ d v=>by simp [MM.get]⟩ id (seen:=λ p=>p.1.1.map (·.1)) ?_ (λ p=>by simp [List.lookup]) (λ p=>by simp [aa]) (λ p=>by simp [aa]) (λ p=>by decide) (λ p e he=> ?_) (λ p=>Nat.le_refl _) (λ p hall=> ?_) (λ p e he hs=> ?_)
  .show aQ 0 _ ⟨[(73,.it 11),(3,.ptr 10 0)],(11,.iter (some 7) S1.co [] S1.co)::({ S1 with n_:=[],cl:=0}:Sh).lg,12⟩ id
   rw [hSb];exact aQ.same (by simp) (by simp [aL,List.lookup,SV.aC,SV.ok,SV.av]) (ax (by simp) (by simp [Ob.ok]) (Sh.nX _ (show 11<=12 by omega))) (aI (by simp))
  .obtain ⟨x,hx,rfl⟩:=ej he
   exact hwf1.old x hx
  .obtain ⟨⟨xs2,B,bc⟩,r1,r2,r3⟩:=p
   dsimp only at*;have hxs2:=uP hwf1 r1 hall;refine ⟨⟨[(3,.ptr 10 0)],({ S1 with n_:=B,cl:=bc}:Sh).lg,11⟩,id,aQ.same (by simp) (by simp [aL,List.lookup,SV.aC,SV.ok,SV.av]) (Sh.nX _ (Nat.le_refl 11)) (λ y hy=>by
    simp only [List.mem_cons,List.not_mem_nil,or_false] at hy;rcases hy with rfl | rfl | rfl | rfl | rfl | rfl | rfl <;> rfl),?_⟩
   rw [if_pos rfl];refine SW.seq (SW.g0 [0,2,3,5,7,8,9,10,11,19,20,21,22,36,49,51,63,73,75,87] Zm af ?_);refine SW.ret ?_;refine End.mk ({ S1 with n_:=B,cl:=bc}:Sh).lg (h4:=⟨{ S1 with n_:=B,cl:=bc},⟨⟨hB1.ops,⟨hB1.tok.cr,hB1.tok.no⟩,hB1.r8,hB1.tr,hB1.md⟩,hA1.to (λ _=>Iff.rfl) λ o ho=> ?_,r3.to hxs2 λ o ho=>S1.yY B bc ho⟩,rfl,rfl⟩) (h6:=Sh.nX _ (Nat.le_refl 11));exact S1.sk S1.iu S1.ca B bc ho
  .obtain ⟨⟨xs,B,bc⟩,p1,p2,p3⟩:=p
   dsimp only at*;obtain ⟨x,hx,rfl⟩:=ej he;dsimp only at hs;have g5:(xs.map (·.1)++[x.1]).getLast? =some x.1:=by simp
   have g6:=j9 (kc:=Dt.cells) (vs:=ov) hwf1.times hx;have eov:∀ o,ov o= .agg o.cells:=λ _=>rfl
   obtain ⟨q1,q2,hxt⟩:=sq p1 p2 hx hs;have hu:∀ y,y∈xs->y.2.1≠x.2.1:=λ y hy e=>by
    have h1:=qX hwf1.keys (p1 y hy);have h2:=qX hwf1.keys hx;have hp:=List.nodup_iff_pairwise_ne.1 hwf1.keys;unfold MM.keys at hp;rw [List.pairwise_map] at hp;obtain ⟨i,hi,e1⟩:=List.getElem_of_mem (p1 y hy);obtain ⟨j,hj,e2⟩:=List.getElem_of_mem hx;rcases Nat.lt_trichotomy i j with h | h | h
    .exact List.pairwise_iff_getElem.1 hp i j hi hj h (by rw [e1,e2];exact e)
    .subst h
     exact hxt (List.mem_map.2 ⟨y,hy,by rw [<- e1,<- e2]⟩)
    .exact List.pairwise_iff_getElem.1 hp j i hj hi h (by rw [e1,e2];exact e.symm)
   have em:(xs++[x]).map (·.1)=xs.map (·.1)++[x.1]:=by simp
   have hm:=j_ he hs;obtain ⟨k1,k2⟩:=hkd1 x hx;rw [iS];refine SW.block (SW.seq (SW.g0 [0,2,3,5,7,8,9,10,11,19,20,21,22,36,49,51,63,73,75,87] Zm (Zq g5 (Zq g6 eov)) ?_));refine SW.seq ?_
   by_cases h3:x.2.2.kind=4
   .have z3:(((x.2.2.kind:Nat):Int) == 4)=true:=by rw [h3];rfl
    have hw:∀ k,aG Tryz.prog shape_Shape_Why.f [.ptr 10 0,.agg x.2.2.cells] ({ S1 with n_:=B,cl:=bc}:Sh).lg k 0 (i64 (S1.fC x.2.2)) ({ S1 with n_:=B,cl:=bc}:Sh).lg:=λ k=>by
     have:=Sh.JO { S1 with n_:=B,cl:=bc} hB1.r8 x.2.2 k1 k2 k;rw [show Sh.fC { S1 with n_:=B,cl:=bc} x.2.2=S1.fC x.2.2 from S1.yY B bc h3] at this;exact this
    by_cases h0:S1.fC x.2.2=0
    .have z0:(((S1.fC x.2.2:Nat):Int) == 0)=true:=by rw [h0];rfl
     refine SW.g1 [0,2,3,5,7,8,9,10,11,19,20,21,22,36,49,51,63,73,75,87] Zm (Zq z3 z0) hw ?_;refine SW.an rfl ?_;refine SW.g0 [0,2,3,5,7,8,9,10,11,19,20,21,22,36,49,51,63,73,75,87] Zm (HU B bc x.2.1 x.2.2.at_) ?_;refine ⟨⟨(xs++[x],MM.put B bc x.2.1 x.2.2.at_,MM.jk B bc x.2.1),q1,q2,p3.put ⟨h3,h0⟩ hu⟩,id,by rw [em];exact hm,?_⟩;dsimp only;rw [em];refine aQ.same (by simp) (by simp [aL,List.lookup,SV.aC,SV.ok,SV.av]) (ax (by simp) (by simp [Ob.ok]) (Sh.nX _ (show 11<=12 by omega))) (λ y hy=> ?_);simp only [List.mem_cons,List.not_mem_nil,or_false] at hy;rcases hy with rfl | rfl | rfl | rfl | rfl | rfl | rfl | rfl <;> rfl
    ·
     have z0:(((S1.fC x.2.2:Nat):Int) == 0)=false:=by simpa using h0
     refine SW.g1 [0,2,3,5,7,8,9,10,11,19,20,21,22,36,49,51,63,73,75,87] Zm (Zq z3 z0) hw ?_;refine SW.ah rfl (SW.skip ?_);refine ⟨⟨(xs++[x],B,bc),q1,q2,p3.skip λ h=>h0 h.2⟩,id,by rw [em];exact hm,?_⟩;dsimp only;rw [em];refine aQ.same (by simp) (by simp [aL,List.lookup,SV.aC,SV.ok,SV.av]) (ax (by simp) (by simp [Ob.ok]) (Sh.nX _ (show 11<=12 by omega))) (λ y hy=> ?_);simp only [List.mem_cons,List.not_mem_nil,or_false] at hy;rcases hy with rfl | rfl | rfl | rfl | rfl | rfl | rfl | rfl <;> rfl
   .have z3:(((x.2.2.kind:Nat):Int) == 4)=false:=by simp;omega
    refine SW.g0 [0,2,3,5,7,8,9,10,11,19,20,21,22,36,49,51,63,73,75,87] Zm z3 ?_;refine SW.ah rfl (SW.skip ?_);refine ⟨⟨(xs++[x],B,bc),q1,q2,p3.skip λ h=>h3 h.1⟩,id,by rw [em];exact hm,?_⟩;dsimp only;rw [em];refine aQ.same (by simp) (by simp [aL,List.lookup,SV.aC,SV.ok,SV.av]) (ax (by simp) (by simp [Ob.ok]) (Sh.nX _ (show 11<=12 by omega))) (λ y hy=> ?_);simp only [List.mem_cons,List.not_mem_nil,or_false] at hy;rcases hy with rfl | rfl | rfl | rfl | rfl | rfl | rfl | rfl <;> rfl
 .obtain ⟨⟨xs,A,ac⟩,p1,p2,p3⟩:=p
  dsimp only at*;obtain ⟨x,hx,rfl⟩:=ej he;dsimp only at hs;have g5:(xs.map (·.1)++[x.1]).getLast? =some x.1:=by simp
  have g6:=j9 (kc:=Dt.cells) (vs:=ov) hwf.times hx;have eov:∀ o,ov o= .agg o.cells:=λ _=>rfl
  obtain ⟨q1,q2,_⟩:=sq p1 p2 hx hs;have em:(xs++[x]).map (·.1)=xs.map (·.1)++[x.1]:=by simp
  have hm:=j_ he hs;obtain ⟨k1,k2⟩:=hkd x hx;rw [iS];refine SW.block (SW.seq (SW.g0 [0,2,3,5,7,8,9,10,11,19,20,21,22,36,49,51,63,73,75,87] Zm (Zq g5 (Zq g6 eov)) ?_));refine SW.seq ?_
  by_cases h3:x.2.2.kind=3
  .have z3:(((x.2.2.kind:Nat):Int) == 3)=true:=by rw [h3];rfl
   have hw:∀ k,aG Tryz.prog shape_Shape_Why.f [.ptr 10 0,.agg x.2.2.cells] ({ S with iu:=A,ca:=ac}:Sh).lg k 0 (i64 (S.fC x.2.2)) ({ S with iu:=A,ca:=ac}:Sh).lg:=λ k=>by
    have:=Sh.JO { S with iu:=A,ca:=ac} hB.r8 x.2.2 k1 k2 k;rw [show Sh.fC { S with iu:=A,ca:=ac} x.2.2=S.fC x.2.2 from S.sk A ac S.n_ S.cl h3] at this;exact this
   by_cases h0:S.fC x.2.2=0
   .have z0:(((S.fC x.2.2:Nat):Int) == 0)=true:=by rw [h0];rfl
    refine SW.g1 [0,2,3,5,7,8,9,10,11,19,20,21,22,36,49,51,63,73,75,87] Zm (Zq z3 z0) hw ?_;refine SW.an rfl ?_;refine SW.g0 [0,2,3,5,7,8,9,10,11,19,20,21,22,36,49,51,63,73,75,87] Zm af ?_;refine ⟨⟨(xs++[x],MM.put A ac x.2.1 1,MM.jk A ac x.2.1),q1,q2,p3.put ⟨h3,h0⟩⟩,id,by rw [em];exact hm,?_⟩;dsimp only;rw [em];refine aQ.same (by simp) (by simp [aL,List.lookup,SV.aC,SV.ok,SV.av]) (ax (by simp) (by simp [Ob.ok]) (Sh.nX _ (show 11<=12 by omega))) (λ y hy=> ?_);simp only [List.mem_cons,List.not_mem_nil,or_false] at hy;rcases hy with rfl | rfl | rfl | rfl | rfl | rfl | rfl | rfl <;> rfl
   ·
    have z0:(((S.fC x.2.2:Nat):Int) == 0)=false:=by simpa using h0
    refine SW.g1 [0,2,3,5,7,8,9,10,11,19,20,21,22,36,49,51,63,73,75,87] Zm (Zq z3 z0) hw ?_;refine SW.ah rfl (SW.skip ?_);refine ⟨⟨(xs++[x],A,ac),q1,q2,p3.skip λ h=>h0 h.2⟩,id,by rw [em];exact hm,?_⟩;dsimp only;rw [em];refine aQ.same (by simp) (by simp [aL,List.lookup,SV.aC,SV.ok,SV.av]) (ax (by simp) (by simp [Ob.ok]) (Sh.nX _ (show 11<=12 by omega))) (λ y hy=> ?_);simp only [List.mem_cons,List.not_mem_nil,or_false] at hy;rcases hy with rfl | rfl | rfl | rfl | rfl | rfl | rfl | rfl <;> rfl
  .have z3:(((x.2.2.kind:Nat):Int) == 3)=false:=by simp;omega
   refine SW.g0 [0,2,3,5,7,8,9,10,11,19,20,21,22,36,49,51,63,73,75,87] Zm z3 ?_;refine SW.ah rfl (SW.skip ?_);refine ⟨⟨(xs++[x],A,ac),q1,q2,p3.skip λ h=>h3 h.1⟩,id,by rw [em];exact hm,?_⟩;dsimp only;rw [em];refine aQ.same (by simp) (by simp [aL,List.lookup,SV.aC,SV.ok,SV.av]) (ax (by simp) (by simp [Ob.ok]) (Sh.nX _ (show 11<=12 by omega))) (λ y hy=> ?_);simp only [List.mem_cons,List.not_mem_nil,or_false] at hy;rcases hy with rfl | rfl | rfl | rfl | rfl | rfl | rfl | rfl <;> rfl
end
end
section
def oF (S:Sh):Prop:=∀ d o,MM.get S.ops d=some o->o.kind<256/\o.nT/\o.cl.length<=1048576
noncomputable def Sh.good (S:Sh)(d:Dt):Bool:=MM.has S.ops d && decide (S.fC (S.op d)=0)
theorem JP (o:ag):bX o.cells 28 [.d o.lines]=o.cells:=rfl
section
attribute [local irreducible] SW RW aG SC ai ak
theorem wz (cl:List Cm)(hl:cl.length<=1048576):Go.Sl.Pure Tryz.prog slices_Clone_Lapi_Claim_api_Claim.f [.d (.sl cl.length (cl.flatMap Cm.ds))] (.d (.sl cl.length (cl.flatMap Cm.ds))):=by
 refine slices_Clone_Lapi_Claim_api_Claim.enter (by first | rfl | simp [SV.ok,SV.av]) (by first | rfl | simp [Hp.ok,Ob.ok,SV.ok,SV.av,aB.aj]) (by simp) ?_;dsimp only [slices_Clone_Lapi_Claim_api_Claim.s,Co.M,Co.J,Co.F,Co.S];refine SW.seq (SW.g0 [0,2,4] Zm af ?_);refine SW.seq (SW.seq (SW.Mu (n:=cl.length) (cs:=cl.flatMap Cm.ds) rfl ?_ λ h0=> ?_))
 .refine SW.ah rfl (SW.skip ?_)
  refine (?_:Sl.SW _ _ _ _ _ _);refine SW.seq ?_;have hlen:cl.length*4=cl.length*4:=rfl;refine SW.g0 [0,2,4] Zm af ?_;refine SW.freeze 1 (cl.flatMap Cm.ds) rfl (by simp) ?_;simp only [lR,SV.iw,List.map_cons,List.map_nil,if_true,if_false,reduceIte,dm,Nat.reduceEqDiff];refine SW.ret ?_;exact End.mk [] (h4:=⟨by simp [eA],rfl⟩)
 .have hl0:cl=[]:=List.eq_nil_of_length_eq_zero h0
  subst hl0;refine SW.an rfl (SW.seq ?_);refine SW.g0 [0,2,4] Zm af ?_;refine SW.aN 2 rfl ?_;refine SW.ret ?_;exact End.mk [] (h4:=⟨rfl,rfl⟩)
theorem Cp:Go.Sl.Pure Tryz.prog slices_Clone_Lapi_Claim_api_Claim.f [.d .aN] (.d .aN):=by
 refine slices_Clone_Lapi_Claim_api_Claim.enter (by first | rfl | simp [SV.ok,SV.av]) (by first | rfl | simp [Hp.ok,Ob.ok,SV.ok,SV.av,aB.aj]) (by simp) ?_;dsimp only [slices_Clone_Lapi_Claim_api_Claim.s,Co.M,Co.J,Co.F,Co.S];(repeat (first | refine SW.seq ?_ | refine SW.block ?_ | refine SW.g0 [0,2,4] Zm af ?_ | refine SW.skip ?_ | refine SW.exit ?_ | refine SW.ret ?_ | refine SW.an rfl ?_ | refine SW.ah rfl ?_));exact End.mk [] (h4:=⟨rfl,rfl⟩)
theorem KX (S:Sh)(hs:oF S)(d:Dt)(k:Nat):aG Tryz.prog slices_Clone_Lapi_Claim_api_Claim.f [.d (S.op d).lines] [] k 0 (.d (S.op d).lines) []:=by
 unfold Sh.op;cases h:MM.get S.ops d with
 | none=>exact Cp.sc rfl k
 | some o=>
  obtain ⟨_,h1,h2⟩:=hs d o h;have:=(wz o.cl h2).sc rfl k
  rwa [<- h1.eq] at this
set_option maxHeartbeats 4000000 in
theorem Fp (S:Sh)(hs:oF S)(d:Dt):SB Tryz.prog shape_Shape_Op.f [.ptr 0 0,.agg d.cells] S.h0 7 0 λ r F=>r= .cZ [.agg (S.op d).cells,bl (MM.has S.ops d)]/\F=S.h0:=by
 refine shape_Shape_Op.enter (by simp [SV.av,SV.ok]) (S.ok (Nat.le_refl 7)) (by simp) ?_;dsimp only [shape_Shape_Op.s,Co.M,Co.J,Co.F,Co.B,Co.bD,Co.T,Co.K,Co.E,Co.P,Co.x,Co.W,Co.D,Co.A,Co.S];have hn:=tD S;have hc:=KX S hs d;obtain ⟨o,ho⟩:∃ o,S.op d=o:=⟨_,rfl⟩;have hg:(MM.get S.ops d).getD ag.zero=o:=ho;rw [ho] at hc ⊢;have Nt:=JP o;refine SW.seq (SW.g0 [0,1,3,4,5,6,7,9] Zm af ?_);refine SW.seq (SW.seq (SW.g1 [0,1,3,4,5,6,7,9] Zm af hn ?_));refine SW.ah rfl (SW.skip ?_);refine SW.seq (SW.g0 [0,1,3,4,5,6,7,9] Zm hg ?_);refine SW.seq (SW.g1 [0,1,3,4,5,6,7,9] Zm Nt hc ?_);refine SW.seq (SW.g0 [0,1,3,4,5,6,7,9] Zm af ?_);refine SW.ret ?_;exact End.mk S.h0 (h4:=⟨rfl,rfl⟩) (h6:=S.ok (Nat.le_refl 7))
theorem MT (S:Sh)(hs:oF S)(d:Dt)(k:Nat):aG Tryz.prog shape_Shape_Op.f [.ptr 0 0,.agg d.cells] S.h0 k 0 (.cZ [.agg (S.op d).cells,bl (MM.has S.ops d)]) S.h0:=
 S.at_ (Fp S hs d) (λ ρ=>by simp [SV.aR,SV.aC,Dt.aA]) (λ ρ=>by simp [SV.aR,SV.aC,ag.aA]) n0 qV k
set_option maxHeartbeats 4000000 in
theorem Fq (S:Sh)(hu:S.r8)(hs:oF S)(d:Dt):SB Tryz.prog shape_Shape_Good.f [.ptr 0 0,.agg d.cells] S.h0 7 0 λ r F=>r=bl (S.good d)/\F=S.h0:=by
 refine shape_Shape_Good.enter (by simp [SV.av,SV.ok]) (S.ok (Nat.le_refl 7)) (by simp) ?_;dsimp only [shape_Shape_Good.s,Co.M,Co.G,Co.J,Co.H,Co.F,Co.C,Co.Z,Co.B,Co.bD,Co.K,Co.E,Co.Q,Co.x,Co.W,Co.U,Co.S];have hc:=MT S hs d;obtain ⟨o,ho⟩:∃ o,S.op d=o:=⟨_,rfl⟩;have hG:S.good d=(MM.has S.ops d && decide (S.fC o=0)):=by unfold Sh.good;rw [ho]
 rw [ho] at hc;refine SW.seq (SW.g0 [0,1,3,4,5,6] Zm af ?_);refine SW.seq (SW.g1 [0,1,3,4,5,6] Zm af hc ?_);refine SW.seq ?_;rcases h:MM.has S.ops d with _ | _
 .refine SW.g0 [0,1,3,4,5,6] Zm af ?_
  refine SW.ret ?_;exact End.mk S.h0 (h4:=⟨by rw [hG,h];rfl,rfl⟩) (h6:=S.ok (Nat.le_refl 7))
 obtain ⟨o',ho'⟩:=Option.isSome_iff_exists.1 (show (MM.get S.ops d).isSome=true from h);have e:o'=o:=by rw [<- ho];unfold Sh.op;rw [ho'];rfl
 subst e;obtain ⟨k1,k2,_⟩:=hs d o' ho';have hw:∀ k,aG Tryz.prog shape_Shape_Why.f [.ptr 0 0,.agg o'.cells] S.h0 k 0 (i64 (S.fC o')) S.h0:=λ k=>S.MQ hu o' k1 k2 n0 qV k
 have hz:(((S.fC o':Nat):Int) == 0)=decide (S.fC o'=0):=by rw [Bool.eq_iff_iff];simp
 refine SW.g1 [0,1,3,4,5,6] Zm hz hw ?_;refine SW.ret ?_;exact End.mk S.h0 (h4:=⟨by rw [hG,h];simp [eA],rfl⟩) (h6:=S.ok (Nat.le_refl 7))
theorem Fs (S:Sh)(hu:S.r8)(hs:oF S)(d:Dt)(n:Sn)(hn:n.ok)(k:Nat):aG Tryz.prog shape_Shape_Good.f [.ptr n.b 0,.agg d.cells] (S.hp n) k 0 (bl (S.good d)) (S.hp n):=
 S.at_ (Fq S hu hs d) (λ ρ=>by simp [SV.aR,SV.aC,Dt.aA]) (λ _=>rfl) n hn k
end
end
section
def l5 (l:List ag)(d:Dt):ag:=(aF l d).getD ag.zero
def iV (l:List ag)(d:Dt)(o:ag):Bool:=(aF l d).isSome && (l5 l d).before o
def k9 (l:List ag)(o:ag):Bool:=if o.kind=0 then decide (o.aH=o.dot) else (aF l o.aH).isSome && (decide ((l5 l o.aH).kind=0) && (decide ((l5 l o.aH).aH=(l5 l o.aH).dot) && (l5 l o.aH).before o))
def k_ (l:List ag)(tr:MM Dt Cr)(d:Dt)(o:ag):Bool:=MM.has tr d && (decide (((MM.get tr d).getD Cr.zero).aH=o.aH) && iV l d o)
def sP (tr:MM Dt Cr)(md:MM Dt ag)(o:ag):Nat:=Tr.why ⟨0,1,2,tr,0,md,0⟩ o
def fD (l:List ag)(tr:MM Dt Cr)(md:MM Dt ag)(o:ag)(t:Bool):Nat:=
 if decide ((o.kind:Int)>8) then 2 else if !k9 l o then 271 else if !((o.kind:Int) == 0) && !k_ l tr o.aK o then 272 else if !((o.kind:Int) == 0) && ((((MM.get tr o.aK).getD Cr.zero).hold:Int) != (o.who:Int)) then 273
 else if jV ((MM.get tr o.aK).getD Cr.zero) o.kind then 274 else if decide (o.kind=1) && decide (sP tr md o≠0) then 275 else if !t then 276 else 0
def yZ (l:List ag)(tr:MM Dt Cr)(md:MM Dt ag)(d:Dt):Bool:=match aF l d with
 | some o=>decide (o.kind=3) && decide (fD l tr md o true=0)
 | none=>false
def iU (l:List ag)(tr:MM Dt Cr)(md:MM Dt ag)(d:Dt)(o:ag):Bool:=yZ l tr md d && (decide ((l5 l d).aH=o.aH) && iV l d o)
def s9 (l:List ag)(tr:MM Dt Cr)(md:MM Dt ag)(d:Dt):Option Dt:=match aF l d with
 | some o=>if o.kind=4/\fD l tr md o (iU l tr md o.at_ o)=0 then some o.at_ else none
 | none=>none
def lU (l:List ag)(tr:MM Dt Cr)(md:MM Dt ag)(c:Cm)(o:ag):Bool:=iU l tr md c.line o && (decide (c.jR=c.line) || ((s9 l tr md c.jR).isSome && (decide ((s9 l tr md c.jR).getD ⟨0,0⟩=c.line) && iV l c.jR o)))
def mA (l:List ag)(tr:MM Dt Cr)(md:MM Dt ag)(o:ag)(ab:Bool):Bool:=
 if o.kind=2 then k_ l tr o.at_ o && ab else if o.kind=4\/o.kind=5 then iU l tr md o.at_ o else if o.kind=6\/o.kind=7 then lU l tr md ⟨o.at_,o.jR⟩ o else if o.kind=8 then !(o.cl.any λ c=> !lU l tr md c o) else true
def qn (l:List ag)(tr:MM Dt Cr)(md:MM Dt ag)(o:ag)(ab:Bool):Nat:=fD l tr md o (mA l tr md o ab)
section
variable {l:List ag} {S:Sh} (hB:jC l S)
include hB
theorem jC.op (d:Dt):S.op d=l5 l d:=by unfold Sh.op l5;rw [hB.ops.get]
theorem jC.has (d:Dt):MM.has S.ops d=(aF l d).isSome:=by unfold MM.has;rw [hB.ops.get]
theorem jC.wv (d:Dt)(o:ag):S.wv d o=iV l d o:=by unfold Sh.wv iV;rw [hB.op,hB.has]
theorem jC.aH (o:ag):S.aH o=k9 l o:=by unfold Sh.aH k9;rw [hB.op,hB.has]
theorem jC.xx (d:Dt)(o:ag):S.xx d o=k_ l S.tr d o:=by unfold Sh.xx k_ Sh.cr;rw [hB.wv]
theorem jC.KY (o:ag):S.T.why o=sP S.tr S.md o:=rfl
theorem jC.why (o:ag)(ab:Bool):S.why o ab=fD l S.tr S.md o (S.tgt o ab):=by
 unfold Sh.why fD;rw [<- hB.aH,<- hB.xx,<- hB.KY];rfl
end
theorem jC.MU {l:List ag}{S:Sh}(hB:jC l S){o:ag}(hk:o.kind=3):S.fC o=fD l S.tr S.md o true:=by
 unfold Sh.fC;rw [hB.why];have:S.tgt o (S.GQ o.aK o.at_)=true:=by unfold Sh.tgt;rw [if_neg (by omega),if_neg (by omega),if_neg (by omega),if_neg (by omega)]
 rw [this]
section
variable {l:List ag} {S:Sh} (h:dh l S)
include h
theorem dh.add (d:Dt):decide (0<(MM.get S.iu d).getD 0)=yZ l S.tr S.md d:=by
 rw [Bool.eq_iff_iff,decide_eq_true_eq];unfold yZ;constructor
 .intro h1
  cases hg:MM.get S.iu d with
  | none=>rw [hg] at h1;exact absurd h1 (by decide)
  | some v=>
   obtain ⟨_,x,hx,e,h3,h4⟩:=(h.iu.2 d v).1 hg;have h5:=qX h.base.ops.wf.keys hx;rw [e,h.base.ops.get] at h5;rw [h5];rw [h.base.MU h3] at h4;simp [h3,h4]
 .intro h1
  cases ho:aF l d with
  | none=>rw [ho] at h1;cases h1
  | some o=>
   rw [ho] at h1;simp only [Bool.and_eq_true,decide_eq_true_eq] at h1;obtain ⟨x,hx,e1,e2⟩:=get_mem (show MM.get S.ops d=some o by rw [h.base.ops.get];exact ho);have h2:=(h.iu.2 d 1).2 ⟨rfl,x,hx,e1,by rw [e2];exact h1.1,by rw [e2,h.base.MU h1.1];exact h1.2⟩;rw [h2];decide
theorem dh.line (d:Dt)(o:ag):S.line d o=iU l S.tr S.md d o:=by unfold Sh.line iU;rw [h.add,h.base.op,h.base.wv]
theorem dh.set (d:Dt):MM.get S.n_ d=s9 l S.tr S.md d:=by
 have hw:∀ o:ag,o.kind=4->S.fC o=fD l S.tr S.md o (iU l S.tr S.md o.at_ o):=λ o hk=>by
  unfold Sh.fC;rw [h.base.why,<- h.line];have:S.tgt o (S.GQ o.aK o.at_)=S.line o.at_ o:=by unfold Sh.tgt;rw [if_neg (by omega),if_pos (.inl hk)]
  rw [this]
 refine Option.ext λ v=> ?_
 rw [h.n_.2];unfold s9;constructor
 .rintro ⟨x,hx,e,h3,h4,rfl⟩
  have h5:=qX h.base.ops.wf.keys hx;rw [e,h.base.ops.get] at h5;rw [h5];rw [hw _ h3] at h4;exact if_pos ⟨h3,h4⟩
 .intro h1
  cases ho:aF l d with
  | none=>rw [ho] at h1;cases h1
  | some o=>
   rw [ho] at h1;dsimp only at h1
   split at h1
   .rename_i h2
    injection h1 with h1;obtain ⟨x,hx,e1,e2⟩:=get_mem (show MM.get S.ops d=some o by rw [h.base.ops.get];exact ho);exact ⟨x,hx,e1,by rw [e2];exact h2.1,by rw [e2,hw _ h2.1];exact h2.2,by rw [e2];exact h1.symm⟩
   .cases h1
theorem dh.r_ (c:Cm)(o:ag):S.r_ c o=lU l S.tr S.md c o:=by
 unfold Sh.r_ lU MM.has;rw [h.line,h.set,h.base.wv]
theorem dh.tgt (o:ag)(ab:Bool):S.tgt o ab=mA l S.tr S.md o ab:=by
 unfold Sh.tgt mA;simp only [h.line,h.r_,h.base.xx]
theorem dh.why (o:ag)(ab:Bool):S.why o ab=qn l (au l).at_ (au l).made o ab:=by
 unfold qn;rw [h.base.why,h.tgt,h.base.tr,h.base.md]
theorem dh.fC (o:ag):S.fC o=qn l (au l).at_ (au l).made o (eU (au l).at_ o.aK o.at_ (kZ (au l).at_ o.at_)):=by
 unfold Sh.fC;rw [h.why];unfold Sh.GQ;rw [h.base.tr]
end
end
section
theorem nN (c:Cr):jV c 0=false:=by
 unfold jV;have h:(fB 0:Int)=((0:Nat):Int):=rfl;rw [h,and_eq];simp
structure jP (t l:List ag)(A:ag->Prop):Prop where
 uniq:qj l
 HS:qj t
 sub:∀ o,o∈t->o∈l
 uz:∀ o,A o->o∈t
 NQ:∀ o a,A o->a∈l->a.before o=true->a.aH=o.aH->A a
theorem Cq {l:List ag}:∀ (m:Nat) (d:Dt) (a:ag),(bC l m d).2=true->aF l d=some a->(bC l m d).1.aH=a.aH
 | 0,d,a,h,hf=>by cases h
 | m +1,d,a,h,hf=>by
  simp only [bC,hf] at h ⊢
  by_cases hk:a.kind=0
  .rw [if_pos hk] at h ⊢
   exact (of_decide_eq_true h).symm
  .rw [if_neg hk] at h ⊢
   by_cases hw:(dx l (bC l m a.aK) a).2≠0
   .rw [if_pos hw] at h;cases h
   .rw [if_neg hw]
theorem qY {l:List ag}{g:Cr×Bool}{o:ag}(h:fM l g o=true):(dx l g o).2≠0:=by
 unfold dx
 by_cases hk:o.kind≠1
 .rw [if_pos hk];show (2:Nat)≠0;decide
 .rw [if_neg hk,if_pos h];show (272:Nat)≠0;decide
theorem sr {l:List ag}(m:Nat){d:Dt}(h:aF l d=none):(bC l m d).2=false:=by
 cases m with
 | zero=>simp only [bC]
 | succ m=>simp only [bC,h]
theorem Bz {l:List ag}{m:Nat}{o a:ag}(hf:aF l o.aK=some a)(h: ¬ (a.before o=true/\a.aH=o.aH)):fM l (bC l m o.aK) o=true:=by
 unfold fM;cases hg:(bC l m o.aK).2 with
 | false=>rfl
 | true=>
  rw [Cq m o.aK a hg hf,hf]
  by_cases hc:a.aH=o.aH
  .have:a.before o=false:=by
    rw [Bool.eq_false_iff];exact λ hb=>h ⟨hb,hc⟩
   simp [this]
  .simp [hc]
theorem j4.aH {l:List ag}{U:Tr}(hU:j4 l U){d:Dt}{c:Cr}(hc:MM.get U.at_ d=some c):∃ a,aF l d=some a/\c.aH=a.aH:=by
 obtain ⟨a,_,ha⟩:=hU.cr d c hc;refine ⟨a,ha.fd,?_⟩;rcases ha.how with ⟨_,h2,h3⟩ | ⟨p,q,_,_,hb⟩
 .rw [h3];show a.dot=a.aH;rw [h2,dN ha.fd]
 .rw [hb.is]
section
variable {t l:List ag} {A:ag->Prop} (h:jP t l A)
include h
theorem jP.up {d:Dt}{o:ag}(hf:aF t d=some o):aF l d=some o:=by
 obtain ⟨h1,rfl⟩:=eS hf;exact h.uniq.find (h.sub o h1)
theorem jP.at_ {d:Dt}{o:ag}(hf:aF l d=some o)(ha:A o):aF t d=some o:=by
 rw [<- dN hf];exact h.HS.find (h.uz o ha)
theorem jP.down {d:Dt}{o a:ag}(ho:A o)(hf:aF l d=some a)(hb:a.before o=true)(hc:a.aH=o.aH):A a:=h.NQ o a ho (eS hf).1 hb hc
theorem jP.dx (m:Nat){o:ag}(ho:A o)(ih:∀ a,aF l o.aK=some a->A a->bC t m o.aK=bC l m o.aK):
  Go.Proofs.YtaelhkkjgfobhaaGreat.dx t (bC t m o.aK) o=Go.Proofs.YtaelhkkjgfobhaaGreat.dx l (bC l m o.aK) o\/(Go.Proofs.YtaelhkkjgfobhaaGreat.dx t (bC t m o.aK) o).2≠0/\(Go.Proofs.YtaelhkkjgfobhaaGreat.dx l (bC l m o.aK) o).2≠0:=by
 cases hf:aF l o.aK with
 | none=>
  have hn:aF t o.aK=none:=by
   cases ht:aF t o.aK with
   | none=>rfl
   | some a=>rw [h.up ht] at hf;cases hf
  refine .inr ⟨qY ?_,qY ?_⟩
  .unfold fM;rw [sr m hn];rfl
  .unfold fM;rw [sr m hf];rfl
 | some a=>
  by_cases hb:a.before o=true/\a.aH=o.aH
  .have haa:=h.down ho hf hb.1 hb.2
   refine .inl ?_;rw [ih a hf haa];unfold Go.Proofs.YtaelhkkjgfobhaaGreat.dx fM;rw [h.at_ hf haa,hf]
  .refine .inr ⟨qY ?_,qY (Bz hf hb)⟩
   cases ht:aF t o.aK with
   | none=>unfold fM;rw [sr m ht];rfl
   | some b=>
    have:=h.up ht;rw [hf] at this;injection this with this;subst this;exact Bz ht hb
theorem jP.bC:∀ (m:Nat) (d:Dt) (o:ag),aF l d=some o->A o->Go.Proofs.YtaelhkkjgfobhaaGreat.bC t m d=Go.Proofs.YtaelhkkjgfobhaaGreat.bC l m d
 | 0,d,o,_,_=>by simp only [Go.Proofs.YtaelhkkjgfobhaaGreat.bC]
 | m +1,d,o,hf,ho=>by
  simp only [Go.Proofs.YtaelhkkjgfobhaaGreat.bC,hf,h.at_ hf ho]
  by_cases hk:o.kind=0
  .rw [if_pos hk,if_pos hk]
  .rw [if_neg hk,if_neg hk]
   rcases h.dx m ho (λ a h1 h2=>jP.bC m _ a h1 h2) with hw | ⟨n1,n2⟩
   .rw [hw]
   .rw [if_pos n1,if_pos n2]
variable {T U:Tr} (hT:j4 t T) (hU:j4 l U)
include hT hU
theorem jP.get {d:Dt}{o:ag}(hf:aF l d=some o)(ho:A o):MM.get T.at_ d=MM.get U.at_ d:=by
 obtain ⟨a1,a2⟩:=hT.get d;obtain ⟨b1,b2⟩:=hU.get d;have e:=h.bC 10 d o hf ho;cases g1:MM.get T.at_ d with
 | some c=>
  have:=a2 c g1;rw [e] at this;cases g2:MM.get U.at_ d with
  | some c'=>rw [b2 c' g2] at this;cases this;rfl
  | none=>
   have b1:(Go.Proofs.YtaelhkkjgfobhaaGreat.bC l 10 d).2=(MM.get U.at_ d).isSome:=b1;rw [g2,this] at b1;cases b1
 | none=>
  have a1:(Go.Proofs.YtaelhkkjgfobhaaGreat.bC t 10 d).2=(MM.get T.at_ d).isSome:=a1;rw [g1,e] at a1;cases g2:MM.get U.at_ d with
  | some c'=>rw [b2 c' g2] at a1;cases a1
  | none=>rfl
theorem jP.r8 {oc:Option Cr}{L:List Cr}(hL:lT T.at_ oc L):(∀ c,oc=some c->∃ d o,MM.get T.at_ d=some c/\aF l d=some o/\A o)->lT U.at_ oc L:=by
 induction hL with
 | none=>intro _;exact .none
 | root c hc=>intro _;exact .root c hc
 | more c L hc h2 ih=>
  intro hx;obtain ⟨d,x,hd,hx,hax⟩:=hx c rfl;obtain ⟨o,p,q,ho,hq,hp,hb⟩:=hT.above hd hc;have e1:o=x:=by have:=h.up ho;rw [hx] at this;injection this with this;exact this.symm
  subst e1;obtain ⟨q',hq',hc'⟩:=hT.aH hp;rw [hq] at hq';injection hq' with hq';subst hq';have haq:A q:=h.down hax (h.up hq) hb.wv (by rw [<- hc',hb.aH]);have e:=h.get hT hU (h.up hq) haq;refine .more c L hc ?_;rw [<- e];exact ih λ c' hc''=>⟨c.par,q,hc'',h.up hq,haq⟩
theorem jP.MV {d:Dt}{o:ag}(hf:aF l d=some o)(ho:A o):kZ T.at_ d=kZ U.at_ d:=by
 obtain ⟨L,hL,_⟩:=hT.r8 d;have e:=h.get hT hU hf ho;have:=h.r8 hT hU hL λ c hc=>⟨d,o,hc,hf,ho⟩
 rw [e] at this;rw [fm hL,fm this]
end
end
section
noncomputable def eW (l:List ag)(o:ag):Nat:=qn l (au l).at_ (au l).made o (eU (au l).at_ o.aK o.at_ (kZ (au l).at_ o.at_))
theorem xC (l:List ag)(o:ag):sP (au l).at_ (au l).made o=(dx l (bC l 10 o.aK) o).2:=((dg l).why o).symm
theorem bz {l:List ag}{d:Dt}{a:ag}(h:aF l d=some a):l5 l d=a:=by unfold l5;rw [h];rfl
theorem oG {l:List ag}{d:Dt}{o:ag}:k_ l (au l).at_ d o=true↔∃ c a,MM.get (au l).at_ d=some c/\aF l d=some a/\a.before o=true/\a.aH=o.aH/\c.aH=o.aH:=by
 unfold k_ MM.has iV;constructor
 .intro h
  simp only [Bool.and_eq_true,decide_eq_true_eq] at h;obtain ⟨h1,h2,h3,h4⟩:=h;obtain ⟨c,hc⟩:=Option.isSome_iff_exists.1 h1;obtain ⟨a,ha,e⟩:=(dg l).aH hc;rw [bz ha] at h4;rw [hc] at h2;have h2:c.aH=o.aH:=h2;exact ⟨c,a,hc,ha,h4,by rw [<- e,h2],h2⟩
 .rintro ⟨c,a,h1,h2,h3,h4,h5⟩
  rw [h1,bz h2,h2];simp [h3,h5]
theorem nO {l:List ag}{tr:MM Dt Cr}{md:MM Dt ag}{d:Dt}{o:ag}:iU l tr md d o=(yZ l tr md d && (iV l d o && decide ((l5 l d).aH=o.aH))):=by
 unfold iU;rw [Bool.and_comm (decide _)]
theorem su {l:List ag}{d:Dt}{o:ag}(hl:(iV l d o && decide ((l5 l d).aH=o.aH))=true):∃ a,aF l d=some a/\a.before o=true/\a.aH=o.aH:=by
 unfold iV at hl;simp only [Bool.and_eq_true,decide_eq_true_eq] at hl;obtain ⟨⟨h1,h2⟩,h3⟩:=hl;obtain ⟨a,ha⟩:=Option.isSome_iff_exists.1 h1;rw [bz ha] at h2 h3;exact ⟨a,ha,h2,h3⟩
section
variable {t l:List ag} {A:ag->Prop} (h:jP t l A)
include h
theorem jP.wT {d:Dt}{o:ag}(hf:aF l d=some o)(ho:A o):MM.get (au t).at_ d=MM.get (au l).at_ d:=h.get (dg t) (dg l) hf ho
theorem jP.xx (d:Dt){o:ag}(ho:A o):k_ t (au t).at_ d o=k_ l (au l).at_ d o:=by
 rw [Bool.eq_iff_iff,oG,oG];constructor
 .rintro ⟨c,a,h1,h2,h3,h4,h5⟩
  have hl:=h.up h2;exact ⟨c,a,by rw [<- h.wT hl (h.down ho hl h3 h4)];exact h1,hl,h3,h4,h5⟩
 .rintro ⟨c,a,h1,h2,h3,h4,h5⟩
  have ha:=h.down ho h2 h3 h4;exact ⟨c,a,by rw [h.wT h2 ha];exact h1,h.at_ h2 ha,h3,h4,h5⟩
theorem jP.Ft {d:Dt}{o:ag}(ho:A o)(hc:k_ l (au l).at_ d o=true):MM.get (au t).at_ d=MM.get (au l).at_ d/\kZ (au t).at_ d=kZ (au l).at_ d:=by
 obtain ⟨c,a,h1,h2,h3,h4,h5⟩:=oG.1 hc;have ha:=h.down ho h2 h3 h4;exact ⟨h.wT h2 ha,h.MV (dg t) (dg l) h2 ha⟩
theorem jP.look (d:Dt){o:ag}(ho:A o):(iV t d o && decide ((l5 t d).aH=o.aH))=(iV l d o && decide ((l5 l d).aH=o.aH)):=by
 rw [Bool.eq_iff_iff];unfold iV;simp only [Bool.and_eq_true,decide_eq_true_eq];constructor
 .rintro ⟨⟨h1,h2⟩,h3⟩
  obtain ⟨a,ha⟩:=Option.isSome_iff_exists.1 h1;have hl:=h.up ha;rw [bz ha] at h2 h3;rw [bz hl,hl];exact ⟨⟨rfl,h2⟩,h3⟩
 .rintro ⟨⟨h1,h2⟩,h3⟩
  obtain ⟨a,ha⟩:=Option.isSome_iff_exists.1 h1;rw [bz ha] at h2 h3;have ht:=h.at_ ha (h.down ho ha h2 h3);rw [bz ht,ht];exact ⟨⟨rfl,h2⟩,h3⟩
theorem jP.aH {o:ag}(ho:A o):k9 t o=k9 l o:=by
 unfold k9
 by_cases hk:o.kind=0
 .rw [if_pos hk,if_pos hk]
 .rw [if_neg hk,if_neg hk,Bool.eq_iff_iff]
  simp only [Bool.and_eq_true,decide_eq_true_eq];constructor
  .rintro ⟨h1,h2,h3,h4⟩
   obtain ⟨a,ha⟩:=Option.isSome_iff_exists.1 h1;have hl:=h.up ha;rw [bz ha] at h2 h3 h4;rw [bz hl,hl];exact ⟨rfl,h2,h3,h4⟩
  .rintro ⟨h1,h2,h3,h4⟩
   obtain ⟨a,ha⟩:=Option.isSome_iff_exists.1 h1;rw [bz ha] at h2 h3 h4;have ht:=h.at_ ha (h.down ho ha h4 (by rw [h3,dN ha]));rw [bz ht,ht];exact ⟨rfl,h2,h3,h4⟩
theorem jP.KY {o:ag}(ho:A o):decide (sP (au t).at_ (au t).made o≠0)=decide (sP (au l).at_ (au l).made o≠0):=by
 rw [xC,xC];rcases h.dx 10 ho (λ a h1 h2=>h.bC 10 _ a h1 h2) with e | ⟨e1,e2⟩
 .rw [e]
 .rw [decide_eq_true e1,decide_eq_true e2]
theorem jP.fD {o:ag}(ho:A o)(x y:Bool)(hxy:(o.kind≠0->k_ l (au l).at_ o.aK o=true)->x=y):Go.Proofs.YtaelhkkjgfobhaaGreat.fD t (au t).at_ (au t).made o x=Go.Proofs.YtaelhkkjgfobhaaGreat.fD l (au l).at_ (au l).made o y:=by
 unfold Go.Proofs.YtaelhkkjgfobhaaGreat.fD;rw [h.aH ho,h.xx _ ho,h.KY ho]
 by_cases hk:o.kind=0
 .have hk':((o.kind:Int) == 0)=true:=by rw [hk];rfl
  rw [hk',hxy (λ hn=>absurd hk hn),hk,nN,nN];simp
 .have hk':((o.kind:Int) == 0)=false:=by simp;exact hk
  cases hc:k_ l (au l).at_ o.aK o with
  | false=>rw [hk'];simp
  | true=>
   rw [(h.Ft ho hc).1,hxy (λ _=>hc)]
theorem jP.add {d:Dt}{o:ag}(hf:aF l d=some o)(ho:A o):yZ t (au t).at_ (au t).made d=yZ l (au l).at_ (au l).made d:=by
 unfold yZ;rw [hf,h.at_ hf ho];dsimp only;rw [h.fD ho true true (λ _=>rfl)]
theorem jP.line (d:Dt){o:ag}(ho:A o):iU t (au t).at_ (au t).made d o=iU l (au l).at_ (au l).made d o:=by
 rw [nO,nO,h.look d ho];cases hl:(iV l d o && decide ((l5 l d).aH=o.aH)) with
 | false=>simp
 | true=>
  obtain ⟨a,h1,h2,h3⟩:=su hl;rw [h.add h1 (h.down ho h1 h2 h3)]
theorem jP.set {d:Dt}{o:ag}(hf:aF l d=some o)(ho:A o):s9 t (au t).at_ (au t).made d=s9 l (au l).at_ (au l).made d:=by
 unfold s9;rw [hf,h.at_ hf ho];dsimp only;rw [h.line _ ho,h.fD ho _ _ (λ _=>rfl)]
end
theorem Fu {l:List ag}{tr:MM Dt Cr}{md:MM Dt ag}{d e:Dt}:s9 l tr md d=some e↔∃ x,aF l d=some x/\x.kind=4/\Go.Proofs.YtaelhkkjgfobhaaGreat.fD l tr md x (iU l tr md x.at_ x)=0/\x.at_=e:=by
 unfold s9;constructor
 .intro h
  split at h
  .rename_i x hx
   split at h
   .rename_i hc
    injection h with h;exact ⟨x,hx,hc.1,hc.2,h⟩
   .cases h
  .cases h
 .rintro ⟨x,h1,h2,h3,h4⟩
  rw [h1];dsimp only;rw [if_pos ⟨h2,h3⟩,h4]
theorem KZ {l:List ag}{tr:MM Dt Cr}{md:MM Dt ag}{o:ag}{x:Bool}(h:Go.Proofs.YtaelhkkjgfobhaaGreat.fD l tr md o x=0):x=true:=by
 cases x with
 | true=>rfl
 | false=>
  exfalso
  unfold Go.Proofs.YtaelhkkjgfobhaaGreat.fD at h
  revert h
  simp only [Bool.not_false,if_true]
  repeat' split
  all_goals simp
theorem wC {l:List ag}{tr:MM Dt Cr}{md:MM Dt ag}{d e:Dt}{o:ag}(h:s9 l tr md d=some e)(hl:iU l tr md e o=true):∃ x,aF l d=some x/\x.aH=o.aH:=by
 obtain ⟨x,h1,h2,h3,h4⟩:=Fu.1 h;have h5:=KZ h3;rw [h4,nO,Bool.and_eq_true] at h5;rw [nO,Bool.and_eq_true] at hl;obtain ⟨a,a1,a2,a3⟩:=su h5.2;obtain ⟨b,b1,b2,b3⟩:=su hl.2;rw [a1] at b1;injection b1 with b1;subst b1;exact ⟨x,h1,by rw [<- a3,b3]⟩
theorem y6 {l:List ag}{tr:MM Dt Cr}{md:MM Dt ag}{c:Cm}{o:ag}:lU l tr md c o=true↔iU l tr md c.line o=true/\(c.jR=c.line\/s9 l tr md c.jR=some c.line/\iV l c.jR o=true):=by
 unfold lU;simp only [Bool.and_eq_true,Bool.or_eq_true,decide_eq_true_eq];constructor
 .rintro ⟨h1,h2 | ⟨h2,h3,h4⟩⟩
  .exact ⟨h1,.inl h2⟩
  .obtain ⟨e,he⟩:=Option.isSome_iff_exists.1 h2
   rw [he] at h3;have h3:e=c.line:=h3;exact ⟨h1,.inr ⟨by rw [he,h3],h4⟩⟩
 .rintro ⟨h1,h2 | ⟨h2,h3⟩⟩
  .exact ⟨h1,.inl h2⟩
  .exact ⟨h1,.inr ⟨by rw [h2];rfl,by rw [h2];rfl,h3⟩⟩
section
variable {t l:List ag} {A:ag->Prop} (h:jP t l A)
include h
theorem jP.r_ (c:Cm){o:ag}(ho:A o):lU t (au t).at_ (au t).made c o=lU l (au l).at_ (au l).made c o:=by
 rw [Bool.eq_iff_iff,y6,y6,h.line _ ho];constructor
 .rintro ⟨h1,h2 | ⟨h2,h3⟩⟩
  .exact ⟨h1,.inl h2⟩
  .obtain ⟨x,hx,e⟩:=wC h2 (by rw [h.line _ ho];exact h1)
   have hl:=h.up hx;unfold iV at h3;rw [bz hx,hx] at h3;have ha:=h.down ho hl (by simpa using h3) e;refine ⟨h1,.inr ⟨by rw [<- h.set hl ha];exact h2,?_⟩⟩;unfold iV;rw [bz hl,hl];exact h3
 .rintro ⟨h1,h2 | ⟨h2,h3⟩⟩
  .exact ⟨h1,.inl h2⟩
  .obtain ⟨x,hl,e⟩:=wC h2 h1
   unfold iV at h3;rw [bz hl,hl] at h3;have ha:=h.down ho hl (by simpa using h3) e;have hx:=h.at_ hl ha;refine ⟨h1,.inr ⟨by rw [h.set hl ha];exact h2,?_⟩⟩;unfold iV;rw [bz hx,hx];exact h3
theorem jP.why {o:ag}(ho:A o):eW t o=eW l o:=by
 unfold eW qn;refine h.fD ho _ _ λ hc=> ?_
 unfold mA;rw [h.xx _ ho,h.line _ ho];simp only [h.r_ _ ho]
 by_cases k2:o.kind=2
 .rw [if_pos k2,if_pos k2]
  cases hd:k_ l (au l).at_ o.at_ o with
  | false=>rfl
  | true=>
   unfold eU;rw [(h.Ft ho hd).2]
 .rw [if_neg k2,if_neg k2]
end
end
section
theorem y7 {l :List ag}{tr:MM Dt Cr}{md:MM Dt ag}{o:ag}{x:Bool}:Go.Proofs.YtaelhkkjgfobhaaGreat.fD l tr md o x=0↔ ¬ (o.kind:Int)>8/\k9 l o=true/\(o.kind≠0->k_ l tr o.aK o=true/\((((MM.get tr o.aK).getD Cr.zero).hold:Int)=(o.who:Int))/\jV ((MM.get tr o.aK).getD Cr.zero) o.kind=false)/\(o.kind=1->sP tr md o=0)/\x=true:=by
 unfold Go.Proofs.YtaelhkkjgfobhaaGreat.fD
 by_cases h8:(o.kind:Int)>8
 .rw [decide_eq_true h8];simp [h8]
 rw [decide_eq_false h8];cases hc:k9 l o with
 | false=>simp
 | true=>
  by_cases hk:o.kind=0
  .have hk':((o.kind:Int) == 0)=true:=by rw [hk];rfl
   rw [hk',hk,nN];cases x <;> simp
  .have hk':((o.kind:Int) == 0)=false:=by simp;exact hk
   rw [hk'];cases h1:k_ l tr o.aK o with
   | false=>simp [hk]
   | true=>
    by_cases h2:(((MM.get tr o.aK).getD Cr.zero).hold:Int)=(o.who:Int)
    .have h2':((((MM.get tr o.aK).getD Cr.zero).hold:Int) != (o.who:Int))=false:=by simpa using h2
     rw [h2'];cases h3:jV ((MM.get tr o.aK).getD Cr.zero) o.kind with
     | true=>simp [hk]
     | false=>
      by_cases h4:o.kind=1
      .by_cases h5:sP tr md o=0
       .rw [h5];cases x <;> simp [h2];omega
       .cases x <;> simp [h4,h5]
      .cases x <;> simp [h4,h2];omega
    .have h2':((((MM.get tr o.aK).getD Cr.zero).hold:Int) != (o.who:Int))=true:=by simpa using h2
     rw [h2'];simp [hk,h2]
section
variable {t l:List ag} {A:ag->Prop} (h:jP t l A) (hA:∀ o,o∈t->A o)
include h hA
end
theorem Part.NT {t l:List ag}(h:Part t l):jP t l (· ∈t):=⟨h.uniq,h.HS,h.sub,λ _ h=>h,λ o a ho ha hb _=>h.NQ o a ho ha hb⟩
theorem Aw {t l:List ag}(h:Part t l){o:ag}(ho:o∈t):eW t o=eW l o:=h.NT.why ho
theorem dh.good {l:List ag}{S:Sh}(h:dh l S)(d:Dt):S.good d=match aF l d with
  | some o=>decide (eW l o=0)
  | none=>false:=by
 unfold Sh.good;rw [h.base.has,h.base.op,h.fC];cases hf:aF l d with
 | none=>rfl
 | some o=>rw [bz hf];rfl
end
end Go.Proofs.YtaelhkkjgfobhaaGreat
namespace Go.Proofs.YtaelhkkjgfobhaaGreat
open Go.Sl Go.Proofs
section
attribute [local irreducible] SW RW aG SC ai ak
def NU (n kind who aK:Nat):ag:=⟨⟨0,n⟩,vt (n - 1),n,who,⟨0,1⟩,kind,⟨0,aK⟩,0,0,0,0,⟨0,0⟩,⟨0,0⟩,0,0,0,.aN⟩
def y8 (n kind who aK:Nat):ag:=(NU n kind who aK).nz
theorem SC.MW {P:Program}{f:FuncId}{args:List SV}{F F':Hp}{k nk:Nat}{r r':SV}(h:aG P f args F k nk r F')(hr:∀ (p:Nat->Prop) μ M u,Rp p μ M r u->Rp p μ M r' u):aG P f args F k nk r' F':=by
 unfold aG SC at h ⊢;refine ⟨h.1,λ p μ M w vals h1 h2 h3=>(h.2 p μ M w vals h1 h2 h3).mono ?_⟩;rintro e w' ⟨r0,F0,aY,M',u,a,⟨rfl,rfl⟩,b,c⟩;exact ⟨r',F0,aY,M',u,a,⟨rfl,rfl⟩,hr _ _ _ _ b,c⟩
end
section
abbrev nK (k:Nat):Sn:=⟨10+k,7+k,8+k,9+k,2+k,0+k,1+k⟩
theorem Sh.Ic (S:Sh)(k:Nat):Hp.aC (· +k) S.lg=S.hp (nK k):=by
 simp only [Hp.aC,List.map_cons,List.map_nil,Ob.aC,SV.aR,SV.aC,jN,cg,r9,eM,Sh.hp]
theorem Ie (l:List ag)(hl:l.length<1000000000)(hd:∀ o,o∈l->o.kind<256/\o.nT)(k:Nat):SC Tryz.prog shape_New.f [ops l] [] k 11 λ r F=>∃ S,dh l S/\r= .ptr (10+k) 0/\F=S.hp (nK k):=by
 have:=SB.at (Ib l hl hd) (· +k) k (λ n m h=>absurd h (Nat.not_lt_zero n)) (λ n h=>absurd h (Nat.not_lt_zero n)) (λ i _=>by show 0+i+k=k+i;omega);refine SC.mono (show SC Tryz.prog shape_New.f [ops l] [] k 11 _ from this) ?_;rintro r F ⟨r0,F0,⟨S,hS,rfl,rfl⟩,rfl,rfl⟩;exact ⟨S,hS,rfl,S.Ic k⟩
theorem K4 (l:List ag)(hl:l.length<1000000000)(hd:∀ o,o∈l->o.kind<256/\o.nT):SC Tryz.prog shape_New.f [ops l] [] 0 11 λ r F=>∃ S,dh l S/\r= .ptr 10 0/\F=S.lg:=Ie l hl hd 0
section
variable {l:List ag} {S:Sh} (h:dh l S)
include h
theorem dh.short (hd:∀ o,o∈l->o.kind<256/\o.nT/\o.cl.length<=1048576):oF S:=λ d o ho=>by
 rw [h.base.ops.get] at ho;exact hd o (eS ho).1
end
def o1:ag:=y8 1 0 1 0
def o2:ag:={ y8 2 1 1 1 with to:=2,aT:=2,cap:=9}
def o3:ag:={ y8 3 3 2 2 with Kw:=1}
def o4:ag:={ y8 4 4 2 2 with at_:=⟨0,3⟩,Kw:=2}
def hrow:List ag:=[o1,o2,o3,o4]
theorem NV:bX (y8 4 4 2 2).cells 21 (Dt.mk 0 3).cells=({ y8 4 4 2 2 with at_:=⟨0,3⟩}:ag).cells:=rfl
theorem d3:bX (Dt.mk 0 0).cells 1 [.d (.int .u32 3)]=(Dt.mk 0 3).cells:=rfl
theorem d4:bX (Dt.mk 0 0).cells 1 [.d (.int .u32 4)]=(Dt.mk 0 4).cells:=rfl
attribute [local irreducible] SW RW aG SC ai ak
end
section
def hc1:Cr:=⟨⟨0,1⟩,⟨0,1⟩,⟨0,0⟩,1,7,8,1099511627776,0⟩
def GP:Cr:=⟨⟨0,2⟩,⟨0,1⟩,⟨0,1⟩,2,2,0,9,1⟩
theorem Ig {l:List ag}{o:ag}{L:List Cr}{n:Nat}(hL:lT (au l).at_ (MM.get (au l).at_ o.at_) L)(h:qn l (au l).at_ (au l).made o (eU (au l).at_ o.aK o.at_ L)=n):eW l o=n:=by
 unfold eW;rw [fm hL];exact h
def xW:List Cm:=[⟨⟨0,3⟩,⟨0,4⟩⟩]
def NW:ag:={ y8 5 8 2 2 with lines:= .sl 1 (xW.flatMap Cm.ds)}
theorem NX {o:ag}(h:o.lines= .sl 0 []):o.nT:=(ag.nT.of (l:=[]) h (by simp)).1
section
variable {S:Sh} (h:dh hrow S)
include h
end
theorem Nt:bX (y8 5 8 2 2).cells 28 [.d (.sl 1 (xW.flatMap Cm.ds))]=NW.cells:=rfl
attribute [local irreducible] SW RW aG SC ai ak
end
end Go.Proofs.YtaelhkkjgfobhaaGreat
