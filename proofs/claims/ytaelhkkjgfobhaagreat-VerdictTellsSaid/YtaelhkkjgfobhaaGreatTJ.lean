/-
 Shapes: what a new shape holds (plain).
-/
import Derived.Test.YtaelhkkjgfobhaaGreatTI
set_option linter.unusedSectionVars false
set_option linter.unusedVariables false
set_option linter.unusedSimpArgs false
namespace Go.Proofs.YtaelhkkjgfobhaaGreat
open Go.Sl Go.Proofs
section
theorem mC.uniq {a:MM Dt Cr}{oc:Option Cr}{L M:List Cr}(h:mC a oc L):mC a oc M->L=M:=by
 induction h generalizing M with
 | none=>intro g;cases g;rfl
 | root c hc=>intro g;cases g with
  | root _ _=>rfl
  | more _ L h1 _=>exact absurd h1 hc
 | more c L h1 _ ih=>intro g;cases g with
  | root _ h2=>exact absurd h1 h2
  | more _ L' _ h2=>rw[ih h2]
open Classical in
noncomputable def lM (a:MM Dt Cr)(d:Dt):List Cr:=if h:∃ L,mC a (MM.get a d) L then Classical.choose h else []
theorem fI {a:MM Dt Cr}{d:Dt}{L:List Cr}(h:mC a (MM.get a d) L):lM a d=L:=by
 have hx:∃ L,mC a (MM.get a d) L:=⟨L,h⟩;unfold lM;rw[dif_pos hx];exact(Classical.choose_spec hx).uniq h
noncomputable def Sh.HS (S:Sh)(e d:Dt):Bool:=fA S.tr e d (lM S.tr d)
noncomputable def Sh.fP (S:Sh)(o:ag):Nat:=S.why o (S.HS o.aN o.at_)
def Sh.sP (S:Sh):Prop:=∀ d,∃ L,mC S.tr (MM.get S.tr d) L/\L.length<=9
theorem Sh.O5 (S:Sh)(h:S.sP)(e d:Dt):∃ m,∀ k,aF Tryz.prog tree_Tree_Above.f [.ptr 4 0,.agg e.cells,.agg d.cells] S.h4 k m (bl (S.HS e d)) S.h4:=by
 obtain⟨L,hL,hlen⟩:=h d;refine⟨6+L.length*(1+1),λ k=> ?_⟩;have:=Fz S.LW e d L hL (by omega) k;unfold Sh.HS;rw[fI hL];exact this
theorem Sh.NY (S:Sh)(h:S.sP)(o:ag)(hk:o.kind<256)(hl:o.mZ)(n:Sn)(hn:n.ok)(k:Nat):aF Tryz.prog shape_Shape_Why.f [.ptr n.b 0,.agg o.cells] (S.hp n) k 0 (i64 (S.fP o)) (S.hp n):=by
 obtain⟨m,hm⟩:=S.O5 h o.aN o.at_;exact I_ S o hk _ (λ k=>L1 S o hk hl _ m hm k) n hn k
theorem Sh.sU (S:Sh)(A:MM Dt Int)(c:Nat)(B:MM Dt Dt)(e:Nat){o:ag}(hk:o.kind=3):({ S with iH:=A,ca:=c,oC:=B,cl:=e}:Sh).fP o=S.fP o:=by
 have ht:∀ (T:Sh) (b:Bool),T.tgt o b=true:=λ T b=>by unfold Sh.tgt;rw[if_neg (by omega),if_neg (by omega),if_neg (by omega),if_neg (by omega)]
 have hr:∀ (b:Bool) i,Sh.rH { S with iH:=A,ca:=c,oC:=B,cl:=e} o b i=S.rH o b i:=λ b i=>by
  match i with
  | 0|1|2|3|4|5=>rfl
  | i+6=>show(!Sh.tgt _ o b)=(!Sh.tgt _ o b);rw[ht,ht]
 show Sh.why _ o (S.HS o.aN o.at_)=S.why o (S.HS o.aN o.at_);unfold Sh.why;simp only[hr]
theorem Sh.zR (S:Sh)(B:MM Dt Dt)(e:Nat){o:ag}(hk:o.kind=4):({ S with oC:=B,cl:=e}:Sh).fP o=S.fP o:=by
 have ht:∀ (b:Bool),Sh.tgt { S with oC:=B,cl:=e} o b=S.tgt o b:=λ b=>by
  unfold Sh.tgt;rw[if_neg (by omega),if_pos (.inl hk),if_neg (by omega),if_pos (.inl hk)];rfl
 have hr:∀ (b:Bool) i,Sh.rH { S with oC:=B,cl:=e} o b i=S.rH o b i:=λ b i=>by
  match i with
  | 0|1|2|3|4|5=>rfl
  | i+6=>show(!Sh.tgt _ o b)=(!Sh.tgt _ o b);rw[ht]
 show Sh.why _ o (S.HS o.aN o.at_)=S.why o (S.HS o.aN o.at_);unfold Sh.why;simp only[hr]
def Ca (s:MM Dt ag×Nat)(o:ag):MM Dt ag×Nat:=if MM.has s.1 o.dot then s else (MM.put s.1 s.2 o.dot o,MM.jA s.1 s.2 o.dot)
def firstM (l:List ag):MM Dt ag×Nat:=l.foldl Ca ([],0)
theorem tD (l:List ag)(x:ag):firstM (l++[x])=Ca (firstM l) x:=by unfold firstM;rw[List.foldl_append];rfl
theorem vl (l:List ag)(x:ag)(d:Dt):aJ (l++[x]) d=(aJ l d).or (if x.dot=d then some x else none):=by
 unfold aJ;rw[List.find?_append]
 congr 1
 simp only[List.find?_cons,List.find?_nil]
 by_cases h:x.dot=d<;>simp[h]
structure yx (l:List ag)(m:MM Dt ag)(c:Nat):Prop where
 wf:MM.wf m c
 get:∀ d,MM.get m d=aJ l d
theorem Gc (l:List ag):yx l (firstM l).1 (firstM l).2:=by
 have key:∀ n,∀ l:List ag,l.length=n->yx l (firstM l).1 (firstM l).2:=λ n=>by
  induction n with
  | zero=>
   intro l hl;rw[List.eq_nil_of_length_eq_zero hl];exact⟨MM.k_,λ d=>by simp[firstM,MM.get,aJ]⟩
  | succ n ih=>
   intro l hl;have hne:l≠[]:=λ e=>by rw[e] at hl;cases hl
   have hd:=List.dropLast_concat_getLast hne;obtain⟨x,hx⟩:∃ x,l.getLast hne=x:=⟨_,rfl⟩;obtain⟨p,hp⟩:∃ p,l.dropLast=p:=⟨_,rfl⟩;rw[hx,hp] at hd;have hpl:p.length=n:=by rw[<- hp,List.length_dropLast,hl];omega
   have h:=ih p hpl;rw[<- hd,tD];unfold Ca
   by_cases hh:MM.has (firstM p).1 x.dot=true
   .rw[if_pos hh]
    refine⟨h.wf,λ d=> ?_⟩;rw[h.get,vl];have hs:(aJ p x.dot).isSome=true:=by rw[<- h.get];exact hh
    by_cases e:x.dot=d
    .subst e
     obtain⟨y,hy⟩:=Option.isSome_iff_exists.1 hs;rw[hy];rfl
    .rw[if_neg e];simp
   .rw[if_neg hh]
    refine⟨MM.gB h.wf _ _,λ d=> ?_⟩;rw[MM.c_,h.get,vl];have hs:aJ p x.dot=none:=by
     rw[<- h.get];have:(MM.get (firstM p).1 x.dot).isSome=false:=by simpa[MM.has] using hh
     simpa using this
    by_cases e:d=x.dot
    .subst e
     rw[if_pos rfl,hs,if_pos rfl];rfl
    .rw[if_neg e,if_neg (Ne.symm e)];simp
 exact key _ l rfl
end
section
attribute [local irreducible] SW RW aF SC ai ak
abbrev Qa (a:MM Dt Cr)(ca:Nat)(m:MM Dt ag)(cm:Nat):Tr:=⟨2,0,1,a,ca,m,cm⟩
abbrev H2 (a:MM Dt Cr)(ca:Nat)(m:MM Dt ag)(cm:Nat):Hp:=[(2,.box 166 [.mp 0,.mp 1]),(0,.map (aq Dt.cells cv a) ca),(1,.map (aq Dt.cells ov m) cm)]
structure Tn (l:List ag)(a:MM Dt Cr)(ca:Nat)(m:MM Dt ag)(cm:Nat):Prop where
 new:jL l 0=Qa a ca m cm
theorem NZ (l:List ag):∃ a ca m cm,Tn l a ca m cm:=by
 refine⟨(jL l 0).at_,(jL l 0).ca,(jL l 0).made,(jL l 0).cm,⟨?_⟩⟩;have e1:(jL l 0).bx=2:=by show 0+_=2;rw[Nat.zero_add];exact mG.e1 _
 have e2:(jL l 0).ma=0:=by show 0+_=0;rw[Nat.zero_add];exact mG.e2 _
 have e3:(jL l 0).mm=1:=by show 0+_=1;rw[Nat.zero_add];exact mG.e3 _
 revert e1 e2 e3
 generalize jL l 0=T;obtain⟨b,x,y,a,ca,m,cm⟩:=T;rintro rfl rfl rfl;rfl
section
variable {l:List ag} {a:MM Dt Cr} {ca:Nat} {m:MM Dt ag} {cm:Nat} (h:Tn l a ca m cm)
include h
theorem Tn.O6 (hl:l.length<1000000000):aF Tryz.prog tree_New.f [ops l] [] 0 7 (.ptr 2 0) (H2 a ca m cm):=by
 have:=LU l hl 0;rw[h.new] at this;exact this
end
end
section
abbrev n10:Sn:=⟨10,7,8,9,2,0,1⟩
theorem yy:n10.ok:=by decide
abbrev Sh.lU (S:Sh):Hp:=[(10,.box 117 [.ptr 2 0,.mp 7,.mp 8,.mp 9]),(7,.map (aq Dt.cells ov S.ops) S.co),(8,.map (aq Dt.cells iv S.iH) S.ca),(9,.map (aq Dt.cells dv S.oC) S.cl),
 (2,.box 166 [.mp 0,.mp 1]),(0,.map (aq Dt.cells cv S.tr) S.ct),(1,.map (aq Dt.cells ov S.md) S.cm)]
theorem Sh.oz (S:Sh){k:Nat}(h:11<=k):S.lU.ok (λ n=>decide (n<k))=true:=by
 have a:=bF (λ n=>decide (n<k)) S.ops;have b:=bP (λ n=>decide (n<k)) S.iH;have c:=oP (λ n=>decide (n<k)) S.oC;have d:=kB (λ n=>decide (n<k)) S.tr;have e:=bF (λ n=>decide (n<k)) S.md;simp only[Hp.ok,List.all_cons,List.all_nil,Ob.ok,SV.au,SV.ok,a,b,c,d,e,Bool.and_true,Bool.true_and,Bool.and_eq_true,decide_eq_true_eq];omega
theorem Sh.N0 (S:Sh):(S.lU.map (·.1)).Nodup:=by simp
theorem Sh.KL (S:Sh)(h:S.sP)(o:ag)(hk:o.kind<256)(hl:o.mZ)(k:Nat):aF Tryz.prog shape_Shape_Why.f [.ptr 10 0,.agg o.cells] S.lU k 0 (i64 (S.fP o)) S.lU:=S.NY h o hk hl n10 yy k
structure jM (l:List ag)(S:Sh):Prop where
 ops:yx l S.ops S.co
 tok:kD l S.T
 sP:S.sP
 tr:S.tr=(av l).at_
 md:S.md=(av l).made
def j6 (S:Sh)(xs:MM Dt ag)(A:MM Dt Int)(c:Nat):Prop:=MM.wf A c/\∀ d v,MM.get A d=some v↔v=1/\∃ x,x∈xs/\x.2.1=d/\x.2.2.kind=3/\S.fP x.2.2=0
def oQ (S:Sh)(xs:MM Dt ag)(B:MM Dt Dt)(c:Nat):Prop:=MM.wf B c/\∀ d v,MM.get B d=some v↔∃ x,x∈xs/\x.2.1=d/\x.2.2.kind=4/\S.fP x.2.2=0/\v=x.2.2.at_
structure dG (l:List ag)(S:Sh):Prop where
 base:jM l S
 iH:j6 S S.ops S.iH S.ca
 oC:oQ S S.ops S.oC S.cl
theorem get_mem {V:Type}{m:MM Dt V}{d:Dt}{v:V}(h:MM.get m d=some v):∃ x,x∈m/\x.2.1=d/\x.2.2=v:=by
 unfold MM.get at h;obtain⟨x,hx,rfl⟩:=Option.map_eq_some_iff.1 h;exact⟨x,List.mem_of_find?_eq_some hx,by have:=List.find?_some hx;simp at this;exact this.symm,rfl⟩
theorem rI {V:Type}{m:MM Dt V}(hk:(MM.keys m).Nodup){x:Nat×Dt×V}(hx:x∈m):MM.get m x.2.1=some x.2.2:=by
 have:(MM.get m x.2.1).isSome=true:=by
  unfold MM.get;rw[Option.isSome_map,List.find?_isSome];exact⟨x,hx,by simp⟩
 obtain⟨v,hv⟩:=Option.isSome_iff_exists.1 this;obtain⟨y,hy,e1,e2⟩:=get_mem hv;have:y=x:=by
  have hp:=List.nodup_iff_pairwise_ne.1 hk;unfold MM.keys at hp;rw[List.pairwise_map] at hp;exact Classical.byContradiction λ hne=>by
   rcases List.pairwise_iff_getElem.1 hp with hpp;obtain⟨i,hi,rfl⟩:=List.getElem_of_mem hy;obtain⟨j,hj,rfl⟩:=List.getElem_of_mem hx;rcases Nat.lt_trichotomy i j with h|h|h
   .exact hpp i j hi hj h e1
   .subst h;exact hne rfl
   .exact hpp j i hj hi h e1.symm
 rw[hv,<- e2,this]
theorem j6.skip {S:Sh}{xs:MM Dt ag}{A:MM Dt Int}{c:Nat}(h:j6 S xs A c){x:Nat×Dt×ag}(hx: ¬ (x.2.2.kind=3/\S.fP x.2.2=0)):j6 S (xs++[x]) A c:=by
 refine⟨h.1,λ d v=> ?_⟩;rw[h.2];constructor
 .rintro⟨h1,y,h2,h3⟩
  exact⟨h1,y,List.mem_append_left _ h2,h3⟩
 .rintro⟨h1,y,h2,h3,h4⟩
  rcases List.mem_append.1 h2 with h2|h2
  .exact⟨h1,y,h2,h3,h4⟩
  .rw[List.mem_singleton] at h2
   subst h2;exact absurd h4 hx
theorem j6.put {S:Sh}{xs:MM Dt ag}{A:MM Dt Int}{c:Nat}(h:j6 S xs A c){x:Nat×Dt×ag}(hx:x.2.2.kind=3/\S.fP x.2.2=0):j6 S (xs++[x]) (MM.put A c x.2.1 1) (MM.jA A c x.2.1):=by
 refine⟨MM.gB h.1 _ _,λ d v=> ?_⟩;rw[MM.c_]
 by_cases e:d=x.2.1
 .rw[if_pos e]
  constructor
  .intro h1
   injection h1 with h1;exact⟨h1.symm,x,List.mem_append_right _ (List.mem_singleton.2 rfl),e.symm,hx⟩
  .rintro⟨rfl,_⟩;rfl
 .rw[if_neg e,h.2]
  constructor
  .rintro⟨h1,y,h2,h3⟩
   exact⟨h1,y,List.mem_append_left _ h2,h3⟩
  .rintro⟨h1,y,h2,h3,h4⟩
   rcases List.mem_append.1 h2 with h2|h2
   .exact⟨h1,y,h2,h3,h4⟩
   .rw[List.mem_singleton] at h2
    subst h2;exact absurd h3.symm e
theorem j6.to {S S':Sh}{xs ys:MM Dt ag}{A:MM Dt Int}{c:Nat}(h:j6 S xs A c)(hm:∀ x,x∈xs↔x∈ys)(hw:∀ o:ag,o.kind=3->S'.fP o=S.fP o):j6 S' ys A c:=by
 refine⟨h.1,λ d v=> ?_⟩;rw[h.2];constructor
 .rintro⟨h1,y,h2,h3,h4,h5⟩
  exact⟨h1,y,(hm y).1 h2,h3,h4,by rw[hw _ h4];exact h5⟩
 .rintro⟨h1,y,h2,h3,h4,h5⟩
  exact⟨h1,y,(hm y).2 h2,h3,h4,by rw[<- hw _ h4];exact h5⟩
theorem oQ.skip {S:Sh}{xs:MM Dt ag}{A:MM Dt Dt}{c:Nat}(h:oQ S xs A c){x:Nat×Dt×ag}(hx: ¬ (x.2.2.kind=4/\S.fP x.2.2=0)):oQ S (xs++[x]) A c:=by
 refine⟨h.1,λ d v=> ?_⟩;rw[h.2];constructor
 .rintro⟨y,h2,h3⟩
  exact⟨y,List.mem_append_left _ h2,h3⟩
 .rintro⟨y,h2,h3,h4,h5,h6⟩
  rcases List.mem_append.1 h2 with h2|h2
  .exact⟨y,h2,h3,h4,h5,h6⟩
  .rw[List.mem_singleton] at h2
   subst h2;exact absurd ⟨h4,h5⟩ hx
theorem oQ.put {S:Sh}{xs:MM Dt ag}{A:MM Dt Dt}{c:Nat}(h:oQ S xs A c){x:Nat×Dt×ag}(hx:x.2.2.kind=4/\S.fP x.2.2=0)(hu:∀ y,y∈xs->y.2.1≠x.2.1):oQ S (xs++[x]) (MM.put A c x.2.1 x.2.2.at_) (MM.jA A c x.2.1):=by
 refine⟨MM.gB h.1 _ _,λ d v=> ?_⟩;rw[MM.c_]
 by_cases e:d=x.2.1
 .rw[if_pos e]
  constructor
  .intro h1
   injection h1 with h1;exact⟨x,List.mem_append_right _ (List.mem_singleton.2 rfl),e.symm,hx.1,hx.2,h1.symm⟩
  .rintro⟨y,h2,h3,_,_,h6⟩
   rcases List.mem_append.1 h2 with h2|h2
   .exact absurd (h3.trans e) (hu y h2)
   .rw[List.mem_singleton] at h2
    subst h2;rw[h6]
 .rw[if_neg e,h.2]
  constructor
  .rintro⟨y,h2,h3⟩
   exact⟨y,List.mem_append_left _ h2,h3⟩
  .rintro⟨y,h2,h3,h4⟩
   rcases List.mem_append.1 h2 with h2|h2
   .exact⟨y,h2,h3,h4⟩
   .rw[List.mem_singleton] at h2
    subst h2;exact absurd h3.symm e
theorem oQ.to {S S':Sh}{xs ys:MM Dt ag}{A:MM Dt Dt}{c:Nat}(h:oQ S xs A c)(hm:∀ x,x∈xs↔x∈ys)(hw:∀ o:ag,o.kind=4->S'.fP o=S.fP o):oQ S' ys A c:=by
 refine⟨h.1,λ d v=> ?_⟩;rw[h.2];constructor
 .rintro⟨y,h2,h3,h4,h5,h6⟩
  exact⟨y,(hm y).1 h2,h3,h4,by rw[hw _ h4];exact h5,h6⟩
 .rintro⟨y,h2,h3,h4,h5,h6⟩
  exact⟨y,(hm y).2 h2,h3,h4,by rw[<- hw _ h4];exact h5,h6⟩
theorem vm {M xs:MM Dt ag}{c:Nat}(hwf:MM.wf M c)(p1:∀ x,x∈xs->x∈M)(hall:∀ e,e∈aq Dt.cells ov M->(xs.map (·.1)).contains e.1=true):∀ x,x∈xs↔x∈M:=λ x=>⟨p1 x,λ hx=>by
 have:=hall _ (List.mem_map.2 ⟨x,hx,rfl⟩);simp only[List.contains_iff_mem] at this;obtain⟨z,hz,e⟩:=List.mem_map.1 this;rw[<- MM.rz hwf.times (p1 z hz) hx e];exact hz⟩
theorem sV {M xs:MM Dt ag}(p1:∀ x,x∈xs->x∈M)(p2:(xs.map (·.1)).Nodup){x:Nat×Dt×ag}(hx:x∈M)(hs:(xs.map (·.1)).contains x.1=false):(∀ z,z∈xs++[x]->z∈M)/\((xs++[x]).map (·.1)).Nodup/\x.1∉xs.map (·.1):=by
 have hxt:x.1∉xs.map (·.1):=λ h=>by
  have:(xs.map (·.1)).contains x.1=true:=by simpa only[List.contains_iff_mem] using h
  rw[this] at hs;cases hs
 refine⟨λ z hz=> ?_,?_,hxt⟩
 .rcases List.mem_append.1 hz with hz|hz
  .exact p1 z hz
  .rw[List.mem_singleton.1 hz];exact hx
 .rw[List.map_append,List.nodup_append]
  refine⟨p2,by simp,λ a ha b' hb'=> ?_⟩;simp only[List.map_cons,List.map_nil,List.mem_singleton] at hb';intro e;exact hxt (by rw[<- hb',<- e];exact ha)
section
attribute [local irreducible] SW RW aF SC ai ak
set_option maxHeartbeats 16000000 in
theorem Ja (l:List ag)(hl:l.length<1000000000)(hd:∀ o,o∈l->o.kind<256/\o.mZ):SB Tryz.prog shape_New.f [ops l] [] 0 11 λ r F=>∃ S,dG l S/\r= .ptr 10 0/\F=S.lU:=by
 obtain⟨a,ca,m,cm,hT⟩:=NZ l;refine shape_New.enter (by first|rfl|simp[SV.ok,SV.au]) (by first|rfl|simp[Hp.ok,Ob.ok,SV.ok,SV.au,aB.aj]) (by simp) ?_;dsimp only[shape_New.s,Co.M,Co.G,Co.J,Co.H,Co.N,Co.F,Co.C,Co.Z,Co.b8,Co.ay,Co.bC,Co.T,Co.K,Co.E,Co.L,Co.P,Co.x,Co.W,Co.Y,Co.V,Co.U,Co.O,Co.D,Co.A,Co.I,Co.S];have hN:=hT.O6 hl;refine SW.seq (SW.g0 ao Zm af ?_);refine SW.seq ?_;have sp4:cq (cq (cq (cq [SV.d .oy,.d .iJ,.d .iJ,.d .iJ] 0 [.ptr 2 0]) 1 [.mp 7]) 2 [.mp 8]) 3 [.mp 9]=[.ptr 2 0,.mp 7,.mp 8,.mp 9]:=rfl;refine SW.g1 ao Zm sp4 hN ?_;have w0:∀ y,y∈(⟨[],0,[],0,[],0,a,ca,m,cm⟩:Sh).lU->lk [(10,.box 117 [.ptr 2 0,.mp 7,.mp 8,.mp 9]),(9,Ob.map [] 0),(8,.map [] 0),(7,.map [] 0),(2,.box 166 [.mp 0,.mp 1]),(0,.map (aq Dt.cells cv a) ca),(1,.map (aq Dt.cells ov m) cm)] y.1=some y.2:=λ y hy=>by
  simp only[List.mem_cons,List.not_mem_nil,or_false] at hy;rcases hy with rfl|rfl|rfl|rfl|rfl|rfl|rfl<;>rfl
 refine SW.weak id (st1:=⟨[(0,ops l),(3,.ptr 10 0)],(⟨[],0,[],0,[],0,a,ca,m,cm⟩:Sh).lU,11⟩) (aH.same (by simp) (by simp[aL,List.lookup,SV.aC,SV.ok,SV.au]) (Sh.oz _ (Nat.le_refl 11)) w0) ?_;refine SW.seq (SW.seq (SW.g0 ao Zm af ?_));refine SW.block (SW.loop (α:={i:Nat // i<=l.length}) (λ i=>⟨[(21,i64 i.1),(20,i64 l.length),(19,ops l),(3,.ptr 10 0)],(⟨(firstM (l.take i.1)).1,(firstM (l.take i.1)).2,[],0,[],0,a,ca,m,cm⟩:Sh).lU,11⟩) (λ i=>l.length - i.1) ⟨0,by omega⟩ id (aH.same (by simp) (by simp[aL,List.lookup,SV.aC,SV.ok,SV.au]) (Sh.oz _ (Nat.le_refl 11)) (aK (Sh.N0 _))) ?_);rintro⟨i,hi⟩;dsimp only
 by_cases h:i<l.length
 .have h1:decide ((i:Int)<l.length)=true:=by simp only[decide_eq_true_eq];omega
  obtain⟨x,hx⟩:=aP h;have e2:IntKind.i64.wrap ((i:Int)+1)=((i+1:Nat):Int):=wrap_i64 _ (by omega);have hsn:=tD (l.take i) x;rw[<- bt hx] at hsn;unfold Ca at hsn;obtain⟨M,hM⟩:∃ M,(firstM (l.take i)).1=M:=⟨_,rfl⟩;obtain⟨c,hc⟩:∃ c,(firstM (l.take i)).2=c:=⟨_,rfl⟩;rw[hM,hc] at hsn ⊢;obtain⟨g,hg⟩:∃ g,(MM.get M x.dot).getD ag.zero=g:=⟨_,rfl⟩;have hms:=B8 M c x.dot x;refine SW.seq (SW.g0 ao Zm h1 ?_);refine SW.seq (SW.an rfl (SW.skip (SW.seq (SW.block (SW.seq (SW.g0 ao Zm (Zq (n_ hx) (Zq (lJ hx) (Zq (tB hx) (lD hx)))) ?_))))));refine SW.seq ?_;rcases hh:MM.has M x.dot with _|_
  .rw[hh] at hsn
   simp only[Bool.false_eq_true,if_false] at hsn;refine SW.g0 ao Zm (Zq hh hg) ?_;refine SW.seq (SW.g0 ao Zm af ?_);refine SW.an rfl (SW.g0 ao Zm hms ?_);refine SW.g0 ao Zm e2 ?_;refine⟨⟨i+1,by omega⟩,id,by show l.length - (i+1)<l.length - i;omega,?_⟩;dsimp only;rw[hsn];refine aH.same (by simp) (by simp[aL,List.lookup,SV.aC,SV.ok,SV.au]) (Sh.oz _ (Nat.le_refl 11)) (λ y hy=> ?_);simp only[List.mem_cons,List.not_mem_nil,or_false] at hy;rcases hy with rfl|rfl|rfl|rfl|rfl|rfl|rfl<;>rfl
  .rw[hh] at hsn
   simp only[if_true] at hsn;refine SW.g0 ao Zm (Zq hh hg) ?_;refine SW.seq (SW.g0 ao Zm af ?_);refine SW.ah rfl (SW.skip (SW.g0 ao Zm e2 ?_));refine⟨⟨i+1,by omega⟩,id,by show l.length - (i+1)<l.length - i;omega,?_⟩;dsimp only;rw[hsn,hM,hc];refine aH.same (by simp) (by simp[aL,List.lookup,SV.aC,SV.ok,SV.au]) (Sh.oz _ (Nat.le_refl 11)) (λ y hy=> ?_);simp only[List.mem_cons,List.not_mem_nil,or_false] at hy;rcases hy with rfl|rfl|rfl|rfl|rfl|rfl|rfl<;>rfl
 have h1:decide ((i:Int)<l.length)=false:=by simp only[decide_eq_false_iff_not];omega
 have hi2:i=l.length:=by omega
 subst hi2;rw[List.take_length];have hF:=Gc l;obtain⟨M,hM⟩:∃ M,(firstM l).1=M:=⟨_,rfl⟩;obtain⟨c,hc⟩:∃ c,(firstM l).2=c:=⟨_,rfl⟩;rw[hM,hc] at hF ⊢;refine SW.seq (SW.g0 ao Zm h1 ?_);refine SW.seq (SW.ah rfl (SW.exit ?_));refine(?_:Sl.SW _ _ _ _ _ _);refine SW.weak id (st1:=⟨[(3,.ptr 10 0)],(⟨M,c,[],0,[],0,a,ca,m,cm⟩:Sh).lU,11⟩) (aH.same (by simp) (by simp[aL,List.lookup,SV.aC,SV.ok,SV.au]) (Sh.oz _ (Nat.le_refl 11)) (aK (Sh.N0 _))) ?_;obtain⟨S,hS⟩:∃ S:Sh,(⟨M,c,[],0,[],0,a,ca,m,cm⟩:Sh)=S:=⟨_,rfl⟩;have hB:jM l S:=by
  rw[<- hS];have hnew:=hT.new;have ht:=Bc l 0;rw[hnew] at ht;refine⟨hF,⟨ht.cr,ht.no⟩,λ d=> ?_,(congrArg Tr.at_ hnew).symm,(congrArg Tr.made hnew).symm⟩;obtain⟨L,h2,h3,_⟩:=ht.sP d;exact⟨L,h2,h3⟩
 rw[hS];have hwf:=hB.ops.wf;have hkd:∀ x,x∈S.ops->x.2.2.kind<256/\x.2.2.mZ:=λ x hx=>by
  have h1:=rI hwf.keys hx;rw[hB.ops.get] at h1;exact hd _ (sN h1)
 have hSa:({ S with iH:=[],ca:=0}:Sh)=S/\S.oC=[]/\S.cl=0:=by rw[<- hS];exact⟨rfl,rfl,rfl⟩
 clear hS hN hT w0 hF hM hc;refine SW.seq (SW.seq (SW.g0 ao Zm af ?_));refine SW.block ?_
 refine SW.pK (es:=λ _=>aq Dt.cells ov S.ops) (c:=λ _=>S.co) (uc:=λ _=>11) (nm:=λ _=>7) (since:=λ _=>S.co) (A1:=λ _=>S.co)
  (α:={p:MM Dt ag×MM Dt Int×Nat // (∀ x,x∈p.1->x∈S.ops)/\(p.1.map (·.1)).Nodup/\j6 S p.1 p.2.1 p.2.2})
  (λ p=>⟨[(49,.it 11),(3,.ptr 10 0)],(11,.iter (some 7) S.co (p.1.1.map (·.1)) S.co)::({ S with iH:=p.1.2.1,ca:=p.1.2.2}:Sh).lU,12⟩)
  (λ p=>gC (aq Dt.cells ov S.ops) (p.1.1.map (·.1))) ⟨([],[],0),by simp,by simp,MM.k_,λ d v=>by simp[MM.get]⟩ id (seen:=λ p=>p.1.1.map (·.1)) ?_ (λ p=>by simp[List.lookup]) (λ p=>by simp[aa]) (λ p=>by simp[aa]) (λ p=>by decide) (λ p e he=> ?_) (λ p=>Nat.le_refl _) (λ p hall=> ?_) (λ p e he hs=> ?_)
 .show aH 0 _ ⟨[(49,.it 11),(3,.ptr 10 0)],(11,.iter (some 7) S.co [] S.co)::({ S with iH:=[],ca:=0}:Sh).lU,12⟩ id
  rw[hSa.1];exact aH.same (by simp) (by simp[aL,List.lookup,SV.aC,SV.ok,SV.au]) (ax (by simp) (by simp[Ob.ok]) (Sh.oz _ (show 11<=12 by omega))) (aK (by simp))
 .obtain⟨x,hx,rfl⟩:=eF he
  exact hwf.old x hx
 .obtain⟨⟨xs,A,ac⟩,p1,p2,p3⟩:=p
  dsimp only at*;have hxs:=vm hwf p1 hall;refine⟨⟨[(3,.ptr 10 0)],({ S with iH:=A,ca:=ac}:Sh).lU,11⟩,id,aH.same (by simp) (by simp[aL,List.lookup,SV.aC,SV.ok,SV.au]) (Sh.oz _ (Nat.le_refl 11)) (λ y hy=>by
   simp only[List.mem_cons,List.not_mem_nil,or_false] at hy;rcases hy with rfl|rfl|rfl|rfl|rfl|rfl|rfl<;>rfl),?_⟩
  rw[if_pos rfl];obtain⟨S1,vX⟩:∃ S1:Sh,({ S with iH:=A,ca:=ac}:Sh)=S1:=⟨_,rfl⟩;have hB1:jM l S1:=by rw[<- vX];exact⟨hB.ops,⟨hB.tok.cr,hB.tok.no⟩,hB.sP,hB.tr,hB.md⟩
  have hA1:j6 S1 S1.ops S1.iH S1.ca:=by
   rw[<- vX];exact p3.to hxs λ o ho=>S.sU A ac S.oC S.cl ho
  have hops:S1.ops=S.ops/\S1.co=S.co:=by rw[<- vX];exact⟨rfl,rfl⟩
  have hSb:({ S1 with oC:=[],cl:=0}:Sh)=S1:=by
   rw[<- vX];have h2:=hSa.2.1;have h3:=hSa.2.2;cases S;dsimp only at h2 h3 ⊢;rw[h2,h3]
  rw[vX];have hwf1:=hB1.ops.wf;have hkd1:∀ x,x∈S1.ops->x.2.2.kind<256/\x.2.2.mZ:=λ x hx=>hkd x (by rw[<- hops.1];exact hx)
  refine SW.seq (SW.seq (SW.g0 ao Zm af ?_));refine SW.block ?_
  refine SW.pK (es:=λ _=>aq Dt.cells ov S1.ops) (c:=λ _=>S1.co) (uc:=λ _=>11) (nm:=λ _=>7) (since:=λ _=>S1.co) (A1:=λ _=>S1.co)
   (α:={p:MM Dt ag×MM Dt Dt×Nat // (∀ x,x∈p.1->x∈S1.ops)/\(p.1.map (·.1)).Nodup/\oQ S1 p.1 p.2.1 p.2.2})
   (λ p=>⟨[(73,.it 11),(3,.ptr 10 0)],(11,.iter (some 7) S1.co (p.1.1.map (·.1)) S1.co)::({ S1 with oC:=p.1.2.1,cl:=p.1.2.2}:Sh).lU,12⟩)
   (λ p=>gC (aq Dt.cells ov S1.ops) (p.1.1.map (·.1))) ⟨([],[],0),by simp,by simp,MM.k_,λ d v=>by simp[MM.get]⟩ id (seen:=λ p=>p.1.1.map (·.1)) ?_ (λ p=>by simp[List.lookup]) (λ p=>by simp[aa]) (λ p=>by simp[aa]) (λ p=>by decide) (λ p e he=> ?_) (λ p=>Nat.le_refl _) (λ p hall=> ?_) (λ p e he hs=> ?_)
  .show aH 0 _ ⟨[(73,.it 11),(3,.ptr 10 0)],(11,.iter (some 7) S1.co [] S1.co)::({ S1 with oC:=[],cl:=0}:Sh).lU,12⟩ id
   rw[hSb];exact aH.same (by simp) (by simp[aL,List.lookup,SV.aC,SV.ok,SV.au]) (ax (by simp) (by simp[Ob.ok]) (Sh.oz _ (show 11<=12 by omega))) (aK (by simp))
  .obtain⟨x,hx,rfl⟩:=eF he
   exact hwf1.old x hx
  .obtain⟨⟨xs2,B,bc⟩,r1,r2,r3⟩:=p
   dsimp only at*;have hxs2:=vm hwf1 r1 hall;refine⟨⟨[(3,.ptr 10 0)],({ S1 with oC:=B,cl:=bc}:Sh).lU,11⟩,id,aH.same (by simp) (by simp[aL,List.lookup,SV.aC,SV.ok,SV.au]) (Sh.oz _ (Nat.le_refl 11)) (λ y hy=>by
    simp only[List.mem_cons,List.not_mem_nil,or_false] at hy;rcases hy with rfl|rfl|rfl|rfl|rfl|rfl|rfl<;>rfl),?_⟩
   rw[if_pos rfl];refine SW.seq (SW.g0 ao Zm af ?_);refine SW.ret ?_;refine End.mk ({ S1 with oC:=B,cl:=bc}:Sh).lU (h4:=⟨{ S1 with oC:=B,cl:=bc},⟨⟨hB1.ops,⟨hB1.tok.cr,hB1.tok.no⟩,hB1.sP,hB1.tr,hB1.md⟩,hA1.to (λ _=>Iff.rfl) λ o ho=> ?_,r3.to hxs2 λ o ho=>S1.zR B bc ho⟩,rfl,rfl⟩) (h6:=Sh.oz _ (Nat.le_refl 11));exact S1.sU S1.iH S1.ca B bc ho
  .obtain⟨⟨xs,B,bc⟩,p1,p2,p3⟩:=p
   dsimp only at*;obtain⟨x,hx,rfl⟩:=eF he;dsimp only at hs;have g5:(xs.map (·.1)++[x.1]).getLast? =some x.1:=by simp
   have g6:=kG (kc:=Dt.cells) (vs:=ov) hwf1.times hx;have eov:∀ o,ov o= .agg o.cells:=λ _=>rfl
   obtain⟨q1,q2,hxt⟩:=sV p1 p2 hx hs;have hu:∀ y,y∈xs->y.2.1≠x.2.1:=λ y hy e=>by
    have h1:=rI hwf1.keys (p1 y hy);have h2:=rI hwf1.keys hx;have hp:=List.nodup_iff_pairwise_ne.1 hwf1.keys;unfold MM.keys at hp;rw[List.pairwise_map] at hp;obtain⟨i,hi,e1⟩:=List.getElem_of_mem (p1 y hy);obtain⟨j,hj,e2⟩:=List.getElem_of_mem hx;rcases Nat.lt_trichotomy i j with h|h|h
    .exact List.pairwise_iff_getElem.1 hp i j hi hj h (by rw[e1,e2];exact e)
    .subst h
     exact hxt (List.mem_map.2 ⟨y,hy,by rw[<- e1,<- e2]⟩)
    .exact List.pairwise_iff_getElem.1 hp j i hj hi h (by rw[e1,e2];exact e.symm)
   have em:(xs++[x]).map (·.1)=xs.map (·.1)++[x.1]:=by simp
   have hm:=kH he hs;obtain⟨k1,k2⟩:=hkd1 x hx;rw[je];refine SW.block (SW.seq (SW.g0 ao Zm (Zq g5 (Zq g6 eov)) ?_));refine SW.seq ?_
   by_cases h3:x.2.2.kind=4
   .have z3:(((x.2.2.kind:Nat):Int) == 4)=true:=by rw[h3];rfl
    have hw:∀ k,aF Tryz.prog shape_Shape_Why.f [.ptr 10 0,.agg x.2.2.cells] ({ S1 with oC:=B,cl:=bc}:Sh).lU k 0 (i64 (S1.fP x.2.2)) ({ S1 with oC:=B,cl:=bc}:Sh).lU:=λ k=>by
     have:=Sh.KL { S1 with oC:=B,cl:=bc} hB1.sP x.2.2 k1 k2 k;rw[show Sh.fP { S1 with oC:=B,cl:=bc} x.2.2=S1.fP x.2.2 from S1.zR B bc h3] at this;exact this
    by_cases h0:S1.fP x.2.2=0
    .have z0:(((S1.fP x.2.2:Nat):Int) == 0)=true:=by rw[h0];rfl
     refine SW.g1 ao Zm (Zq z3 z0) hw ?_;refine SW.an rfl (SW.g0 ao Zm (IZ B bc x.2.1 x.2.2.at_) ?_);refine⟨⟨(xs++[x],MM.put B bc x.2.1 x.2.2.at_,MM.jA B bc x.2.1),q1,q2,p3.put ⟨h3,h0⟩ hu⟩,id,by rw[em];exact hm,?_⟩;dsimp only;rw[em];refine aH.same (by simp) (by simp[aL,List.lookup,SV.aC,SV.ok,SV.au]) (ax (by simp) (by simp[Ob.ok]) (Sh.oz _ (show 11<=12 by omega))) (λ y hy=> ?_);simp only[List.mem_cons,List.not_mem_nil,or_false] at hy;rcases hy with rfl|rfl|rfl|rfl|rfl|rfl|rfl|rfl<;>rfl
    ·
     have z0:(((S1.fP x.2.2:Nat):Int) == 0)=false:=by simpa using h0
     refine SW.g1 ao Zm (Zq z3 z0) hw ?_;refine SW.ah rfl (SW.skip ?_);refine⟨⟨(xs++[x],B,bc),q1,q2,p3.skip λ h=>h0 h.2⟩,id,by rw[em];exact hm,?_⟩;dsimp only;rw[em];refine aH.same (by simp) (by simp[aL,List.lookup,SV.aC,SV.ok,SV.au]) (ax (by simp) (by simp[Ob.ok]) (Sh.oz _ (show 11<=12 by omega))) (λ y hy=> ?_);simp only[List.mem_cons,List.not_mem_nil,or_false] at hy;rcases hy with rfl|rfl|rfl|rfl|rfl|rfl|rfl|rfl<;>rfl
   .have z3:(((x.2.2.kind:Nat):Int) == 4)=false:=by simp;omega
    refine SW.g0 ao Zm z3 ?_;refine SW.ah rfl (SW.skip ?_);refine⟨⟨(xs++[x],B,bc),q1,q2,p3.skip λ h=>h3 h.1⟩,id,by rw[em];exact hm,?_⟩;dsimp only;rw[em];refine aH.same (by simp) (by simp[aL,List.lookup,SV.aC,SV.ok,SV.au]) (ax (by simp) (by simp[Ob.ok]) (Sh.oz _ (show 11<=12 by omega))) (λ y hy=> ?_);simp only[List.mem_cons,List.not_mem_nil,or_false] at hy;rcases hy with rfl|rfl|rfl|rfl|rfl|rfl|rfl|rfl<;>rfl
 .obtain⟨⟨xs,A,ac⟩,p1,p2,p3⟩:=p
  dsimp only at*;obtain⟨x,hx,rfl⟩:=eF he;dsimp only at hs;have g5:(xs.map (·.1)++[x.1]).getLast? =some x.1:=by simp
  have g6:=kG (kc:=Dt.cells) (vs:=ov) hwf.times hx;have eov:∀ o,ov o= .agg o.cells:=λ _=>rfl
  obtain⟨q1,q2,_⟩:=sV p1 p2 hx hs;have em:(xs++[x]).map (·.1)=xs.map (·.1)++[x.1]:=by simp
  have hm:=kH he hs;obtain⟨k1,k2⟩:=hkd x hx;rw[je];refine SW.block (SW.seq (SW.g0 ao Zm (Zq g5 (Zq g6 eov)) ?_));refine SW.seq ?_
  by_cases h3:x.2.2.kind=3
  .have z3:(((x.2.2.kind:Nat):Int) == 3)=true:=by rw[h3];rfl
   have hw:∀ k,aF Tryz.prog shape_Shape_Why.f [.ptr 10 0,.agg x.2.2.cells] ({ S with iH:=A,ca:=ac}:Sh).lU k 0 (i64 (S.fP x.2.2)) ({ S with iH:=A,ca:=ac}:Sh).lU:=λ k=>by
    have:=Sh.KL { S with iH:=A,ca:=ac} hB.sP x.2.2 k1 k2 k;rw[show Sh.fP { S with iH:=A,ca:=ac} x.2.2=S.fP x.2.2 from S.sU A ac S.oC S.cl h3] at this;exact this
   by_cases h0:S.fP x.2.2=0
   .have z0:(((S.fP x.2.2:Nat):Int) == 0)=true:=by rw[h0];rfl
    refine SW.g1 ao Zm (Zq z3 z0) hw ?_;refine SW.an rfl (SW.g0 ao Zm af ?_);refine⟨⟨(xs++[x],MM.put A ac x.2.1 1,MM.jA A ac x.2.1),q1,q2,p3.put ⟨h3,h0⟩⟩,id,by rw[em];exact hm,?_⟩;dsimp only;rw[em];refine aH.same (by simp) (by simp[aL,List.lookup,SV.aC,SV.ok,SV.au]) (ax (by simp) (by simp[Ob.ok]) (Sh.oz _ (show 11<=12 by omega))) (λ y hy=> ?_);simp only[List.mem_cons,List.not_mem_nil,or_false] at hy;rcases hy with rfl|rfl|rfl|rfl|rfl|rfl|rfl|rfl<;>rfl
   ·
    have z0:(((S.fP x.2.2:Nat):Int) == 0)=false:=by simpa using h0
    refine SW.g1 ao Zm (Zq z3 z0) hw ?_;refine SW.ah rfl (SW.skip ?_);refine⟨⟨(xs++[x],A,ac),q1,q2,p3.skip λ h=>h0 h.2⟩,id,by rw[em];exact hm,?_⟩;dsimp only;rw[em];refine aH.same (by simp) (by simp[aL,List.lookup,SV.aC,SV.ok,SV.au]) (ax (by simp) (by simp[Ob.ok]) (Sh.oz _ (show 11<=12 by omega))) (λ y hy=> ?_);simp only[List.mem_cons,List.not_mem_nil,or_false] at hy;rcases hy with rfl|rfl|rfl|rfl|rfl|rfl|rfl|rfl<;>rfl
  .have z3:(((x.2.2.kind:Nat):Int) == 3)=false:=by simp;omega
   refine SW.g0 ao Zm z3 ?_;refine SW.ah rfl (SW.skip ?_);refine⟨⟨(xs++[x],A,ac),q1,q2,p3.skip λ h=>h3 h.1⟩,id,by rw[em];exact hm,?_⟩;dsimp only;rw[em];refine aH.same (by simp) (by simp[aL,List.lookup,SV.aC,SV.ok,SV.au]) (ax (by simp) (by simp[Ob.ok]) (Sh.oz _ (show 11<=12 by omega))) (λ y hy=> ?_);simp only[List.mem_cons,List.not_mem_nil,or_false] at hy;rcases hy with rfl|rfl|rfl|rfl|rfl|rfl|rfl|rfl<;>rfl
end
end
section
def oR (S:Sh):Prop:=∀ d o,MM.get S.ops d=some o->o.kind<256/\o.mZ/\o.cl.length<=1048576
noncomputable def Sh.good (S:Sh)(d:Dt):Bool:=MM.has S.ops d && decide (S.fP (S.op d)=0)
theorem KN (o:ag):cq o.cells 28 [.d o.lines]=o.cells:=rfl
section
attribute [local irreducible] SW RW aF SC ai ak
theorem xz (cl:List Cm)(hl:cl.length<=1048576):Go.Sl.Pure Tryz.prog slices_Clone_Lapi_Claim_api_Claim.f [.d (.sl cl.length (cl.flatMap Cm.ds))] (.d (.sl cl.length (cl.flatMap Cm.ds))):=by
 refine slices_Clone_Lapi_Claim_api_Claim.enter (by first|rfl|simp[SV.ok,SV.au]) (by first|rfl|simp[Hp.ok,Ob.ok,SV.ok,SV.au,aB.aj]) (by simp) ?_;dsimp only[slices_Clone_Lapi_Claim_api_Claim.s,Co.M,Co.J,Co.F,Co.S];refine SW.seq (SW.g0 ip Zm af ?_);refine SW.seq (SW.seq (SW.NC (n:=cl.length) (cs:=cl.flatMap Cm.ds) rfl ?_ λ h0=> ?_))
 .refine SW.ah rfl (SW.skip ?_)
  refine(?_:Sl.SW _ _ _ _ _ _);refine SW.seq ?_;have hlen:cl.length*4=cl.length*4:=rfl;refine SW.g0 ip Zm af ?_;refine SW.freeze 1 (cl.flatMap Cm.ds) rfl (by simp) ?_;simp only[iM,SV.gz,List.map_cons,List.map_nil,if_true,if_false,reduceIte,bY,Nat.reduceEqDiff];refine SW.ret ?_;exact End.mk [] (h4:=⟨by simp[ez],rfl⟩)
 .have hl0:cl=[]:=List.eq_nil_of_length_eq_zero h0
  subst hl0;refine SW.an rfl (SW.seq (SW.g0 ip Zm af ?_));refine SW.aG 2 rfl ?_;refine SW.ret ?_;exact End.mk [] (h4:=⟨rfl,rfl⟩)
theorem C7:Go.Sl.Pure Tryz.prog slices_Clone_Lapi_Claim_api_Claim.f [.d .aG] (.d .aG):=by
 refine slices_Clone_Lapi_Claim_api_Claim.enter (by first|rfl|simp[SV.ok,SV.au]) (by first|rfl|simp[Hp.ok,Ob.ok,SV.ok,SV.au,aB.aj]) (by simp) ?_;dsimp only[slices_Clone_Lapi_Claim_api_Claim.s,Co.M,Co.J,Co.F,Co.S];(repeat (first|refine SW.seq ?_|refine SW.block ?_|refine SW.g0 ip Zm af ?_|refine SW.skip ?_|refine SW.exit ?_|refine SW.ret ?_|refine SW.an rfl ?_|refine SW.ah rfl ?_));exact End.mk [] (h4:=⟨rfl,rfl⟩)
theorem L5 (S:Sh)(hs:oR S)(d:Dt)(k:Nat):aF Tryz.prog slices_Clone_Lapi_Claim_api_Claim.f [.d (S.op d).lines] [] k 0 (.d (S.op d).lines) []:=by
 unfold Sh.op;cases h:MM.get S.ops d with
 | none=>exact C7.sc rfl k
 | some o=>
  obtain⟨_,h1,h2⟩:=hs d o h;have:=(xz o.cl h2).sc rfl k
  rwa [<- h1.eq] at this
set_option maxHeartbeats 4000000 in
theorem Gd (S:Sh)(hs:oR S)(d:Dt):SB Tryz.prog shape_Shape_Op.f [.ptr 0 0,.agg d.cells] S.h0 7 0 λ r F=>r= .de [.agg (S.op d).cells,bl (MM.has S.ops d)]/\F=S.h0:=by
 refine shape_Shape_Op.enter (by simp[SV.au,SV.ok]) (S.ok (Nat.le_refl 7)) (by simp) ?_;dsimp only[shape_Shape_Op.s,Co.M,Co.J,Co.F,Co.B,Co.bC,Co.T,Co.K,Co.E,Co.P,Co.x,Co.W,Co.D,Co.A,Co.S];have hn:=uh S;have hc:=L5 S hs d;obtain⟨o,ho⟩:∃ o,S.op d=o:=⟨_,rfl⟩;have hg:(MM.get S.ops d).getD ag.zero=o:=ho;rw[ho] at hc ⊢;have OH:=KN o;refine SW.seq (SW.g0 il Zm af ?_);refine SW.seq (SW.seq (SW.g1 il Zm af hn ?_));refine SW.ah rfl (SW.skip (SW.seq (SW.g0 il Zm hg ?_)));refine SW.seq (SW.g1 il Zm OH hc ?_);refine SW.seq (SW.g0 il Zm af ?_);refine SW.ret ?_;exact End.mk S.h0 (h4:=⟨rfl,rfl⟩) (h6:=S.ok (Nat.le_refl 7))
theorem N1 (S:Sh)(hs:oR S)(d:Dt)(k:Nat):aF Tryz.prog shape_Shape_Op.f [.ptr 0 0,.agg d.cells] S.h0 k 0 (.de [.agg (S.op d).cells,bl (MM.has S.ops d)]) S.h0:=
 S.at_ (Gd S hs d) (λ ρ=>by simp[SV.aU,SV.aC,Dt.aA]) (λ ρ=>by simp[SV.aU,SV.aC,ag.aA]) n0 rG k
set_option maxHeartbeats 4000000 in
theorem Ge (S:Sh)(hu:S.sP)(hs:oR S)(d:Dt):SB Tryz.prog shape_Shape_Good.f [.ptr 0 0,.agg d.cells] S.h0 7 0 λ r F=>r=bl (S.good d)/\F=S.h0:=by
 refine shape_Shape_Good.enter (by simp[SV.au,SV.ok]) (S.ok (Nat.le_refl 7)) (by simp) ?_;dsimp only[shape_Shape_Good.s,Co.M,Co.G,Co.J,Co.H,Co.F,Co.C,Co.Z,Co.B,Co.bC,Co.K,Co.E,Co.Q,Co.x,Co.W,Co.U,Co.S];have hc:=N1 S hs d;obtain⟨o,ho⟩:∃ o,S.op d=o:=⟨_,rfl⟩;have hG:S.good d=(MM.has S.ops d && decide (S.fP o=0)):=by unfold Sh.good;rw[ho]
 rw[ho] at hc;refine SW.seq (SW.g0 io Zm af ?_);refine SW.seq (SW.g1 io Zm af hc ?_);refine SW.seq ?_;rcases h:MM.has S.ops d with _|_
 .refine SW.g0 io Zm af ?_
  refine SW.ret ?_;exact End.mk S.h0 (h4:=⟨by rw[hG,h];rfl,rfl⟩) (h6:=S.ok (Nat.le_refl 7))
 obtain⟨o',ho'⟩:=Option.isSome_iff_exists.1 (show(MM.get S.ops d).isSome=true from h);have e:o'=o:=by rw[<- ho];unfold Sh.op;rw[ho'];rfl
 subst e;obtain⟨k1,k2,_⟩:=hs d o' ho';have hw:∀ k,aF Tryz.prog shape_Shape_Why.f [.ptr 0 0,.agg o'.cells] S.h0 k 0 (i64 (S.fP o')) S.h0:=λ k=>S.NY hu o' k1 k2 n0 rG k
 have hz:(((S.fP o':Nat):Int) == 0)=decide (S.fP o'=0):=by rw[Bool.eq_iff_iff];simp
 refine SW.g1 io Zm hz hw ?_;refine SW.ret ?_;exact End.mk S.h0 (h4:=⟨by rw[hG,h];simp[ez],rfl⟩) (h6:=S.ok (Nat.le_refl 7))
theorem Gf (S:Sh)(hu:S.sP)(hs:oR S)(d:Dt)(n:Sn)(hn:n.ok)(k:Nat):aF Tryz.prog shape_Shape_Good.f [.ptr n.b 0,.agg d.cells] (S.hp n) k 0 (bl (S.good d)) (S.hp n):=
 S.at_ (Ge S hu hs d) (λ ρ=>by simp[SV.aU,SV.aC,Dt.aA]) (λ _=>rfl) n hn k
end
end
section
def j4 (l:List ag)(d:Dt):ag:=(aJ l d).getD ag.zero
def ji (l:List ag)(d:Dt)(o:ag):Bool:=(aJ l d).isSome && (j4 l d).before o
def lN (l:List ag)(o:ag):Bool:=if o.kind=0 then decide (o.aI=o.dot) else (aJ l o.aI).isSome && (decide ((j4 l o.aI).kind=0) && (decide ((j4 l o.aI).aI=(j4 l o.aI).dot) && (j4 l o.aI).before o))
def lP (l:List ag)(tr:MM Dt Cr)(d:Dt)(o:ag):Bool:=MM.has tr d && (decide (((MM.get tr d).getD Cr.zero).aI=o.aI) && ji l d o)
def tE (tr:MM Dt Cr)(md:MM Dt ag)(o:ag):Nat:=Tr.why ⟨0,1,2,tr,0,md,0⟩ o
def fQ (l:List ag)(tr:MM Dt Cr)(md:MM Dt ag)(o:ag)(t:Bool):Nat:=
 if decide ((o.kind:Int)>8) then 2 else if !lN l o then 271 else if !((o.kind:Int) == 0) && !lP l tr o.aN o then 272 else if !((o.kind:Int) == 0) && ((((MM.get tr o.aN).getD Cr.zero).hold:Int) != (o.who:Int)) then 273
 else if kg ((MM.get tr o.aN).getD Cr.zero) o.kind then 274 else if decide (o.kind=1) && decide (tE tr md o≠0) then 275 else if !t then 276 else 0
def zS (l:List ag)(tr:MM Dt Cr)(md:MM Dt ag)(d:Dt):Bool:=match aJ l d with
 | some o=>decide (o.kind=3) && decide (fQ l tr md o true=0)
 | none=>false
def jg (l:List ag)(tr:MM Dt Cr)(md:MM Dt ag)(d:Dt)(o:ag):Bool:=zS l tr md d && (decide ((j4 l d).aI=o.aI) && ji l d o)
def tU (l:List ag)(tr:MM Dt Cr)(md:MM Dt ag)(d:Dt):Option Dt:=match aJ l d with
 | some o=>if o.kind=4/\fQ l tr md o (jg l tr md o.at_ o)=0 then some o.at_ else none
 | none=>none
def mD (l:List ag)(tr:MM Dt Cr)(md:MM Dt ag)(c:Cm)(o:ag):Bool:=jg l tr md c.line o && (decide (c.j5=c.line) || ((tU l tr md c.j5).isSome && (decide ((tU l tr md c.j5).getD ⟨0,0⟩=c.line) && ji l c.j5 o)))
def mS (l:List ag)(tr:MM Dt Cr)(md:MM Dt ag)(o:ag)(ab:Bool):Bool:=
 if o.kind=2 then lP l tr o.at_ o && ab else if o.kind=4\/o.kind=5 then jg l tr md o.at_ o else if o.kind=6\/o.kind=7 then mD l tr md ⟨o.at_,o.j5⟩ o else if o.kind=8 then !(o.cl.any λ c=> !mD l tr md c o) else true
def qF (l:List ag)(tr:MM Dt Cr)(md:MM Dt ag)(o:ag)(ab:Bool):Nat:=fQ l tr md o (mS l tr md o ab)
section
variable {l:List ag} {S:Sh} (hB:jM l S)
include hB
theorem jM.op (d:Dt):S.op d=j4 l d:=by unfold Sh.op j4;rw[hB.ops.get]
theorem jM.has (d:Dt):MM.has S.ops d=(aJ l d).isSome:=by unfold MM.has;rw[hB.ops.get]
theorem jM.xy (d:Dt)(o:ag):S.xy d o=ji l d o:=by unfold Sh.xy ji;rw[hB.op,hB.has]
theorem jM.aI (o:ag):S.aI o=lN l o:=by unfold Sh.aI lN;rw[hB.op,hB.has]
theorem jM.yt (d:Dt)(o:ag):S.yt d o=lP l S.tr d o:=by unfold Sh.yt lP Sh.cr;rw[hB.xy]
theorem jM.L6 (o:ag):S.T.why o=tE S.tr S.md o:=rfl
theorem jM.why (o:ag)(ab:Bool):S.why o ab=fQ l S.tr S.md o (S.tgt o ab):=by
 unfold Sh.why fQ;rw[<- hB.aI,<- hB.yt,<- hB.L6];rfl
end
theorem jM.N2 {l:List ag}{S:Sh}(hB:jM l S){o:ag}(hk:o.kind=3):S.fP o=fQ l S.tr S.md o true:=by
 unfold Sh.fP;rw[hB.why];have:S.tgt o (S.HS o.aN o.at_)=true:=by unfold Sh.tgt;rw[if_neg (by omega),if_neg (by omega),if_neg (by omega),if_neg (by omega)]
 rw[this]
section
variable {l:List ag} {S:Sh} (h:dG l S)
include h
theorem dG.add (d:Dt):decide (0<(MM.get S.iH d).getD 0)=zS l S.tr S.md d:=by
 rw[Bool.eq_iff_iff,decide_eq_true_eq];unfold zS;constructor
 .intro h1
  cases hg:MM.get S.iH d with
  | none=>rw[hg] at h1;exact absurd h1 (by decide)
  | some v=>
   obtain⟨_,x,hx,e,h3,h4⟩:=(h.iH.2 d v).1 hg;have h5:=rI h.base.ops.wf.keys hx;rw[e,h.base.ops.get] at h5;rw[h5];rw[h.base.N2 h3] at h4;simp[h3,h4]
 .intro h1
  cases ho:aJ l d with
  | none=>rw[ho] at h1;cases h1
  | some o=>
   rw[ho] at h1;simp only[Bool.and_eq_true,decide_eq_true_eq] at h1;obtain⟨x,hx,e1,e2⟩:=get_mem (show MM.get S.ops d=some o by rw[h.base.ops.get];exact ho);have h2:=(h.iH.2 d 1).2 ⟨rfl,x,hx,e1,by rw[e2];exact h1.1,by rw[e2,h.base.N2 h1.1];exact h1.2⟩;rw[h2];decide
theorem dG.line (d:Dt)(o:ag):S.line d o=jg l S.tr S.md d o:=by unfold Sh.line jg;rw[h.add,h.base.op,h.base.xy]
theorem dG.set (d:Dt):MM.get S.oC d=tU l S.tr S.md d:=by
 have hw:∀ o:ag,o.kind=4->S.fP o=fQ l S.tr S.md o (jg l S.tr S.md o.at_ o):=λ o hk=>by
  unfold Sh.fP;rw[h.base.why,<- h.line];have:S.tgt o (S.HS o.aN o.at_)=S.line o.at_ o:=by unfold Sh.tgt;rw[if_neg (by omega),if_pos (.inl hk)]
  rw[this]
 refine Option.ext λ v=> ?_
 rw[h.oC.2];unfold tU;constructor
 .rintro⟨x,hx,e,h3,h4,rfl⟩
  have h5:=rI h.base.ops.wf.keys hx;rw[e,h.base.ops.get] at h5;rw[h5];rw[hw _ h3] at h4;exact if_pos ⟨h3,h4⟩
 .intro h1
  cases ho:aJ l d with
  | none=>rw[ho] at h1;cases h1
  | some o=>
   rw[ho] at h1;dsimp only at h1
   split at h1
   .rename_i h2
    injection h1 with h1;obtain⟨x,hx,e1,e2⟩:=get_mem (show MM.get S.ops d=some o by rw[h.base.ops.get];exact ho);exact⟨x,hx,e1,by rw[e2];exact h2.1,by rw[e2,hw _ h2.1];exact h2.2,by rw[e2];exact h1.symm⟩
   .cases h1
theorem dG.sR (c:Cm)(o:ag):S.sR c o=mD l S.tr S.md c o:=by
 unfold Sh.sR mD MM.has;rw[h.line,h.set,h.base.xy]
theorem dG.tgt (o:ag)(ab:Bool):S.tgt o ab=mS l S.tr S.md o ab:=by
 unfold Sh.tgt mS;simp only[h.line,h.sR,h.base.yt]
theorem dG.why (o:ag)(ab:Bool):S.why o ab=qF l (av l).at_ (av l).made o ab:=by
 unfold qF;rw[h.base.why,h.tgt,h.base.tr,h.base.md]
theorem dG.fP (o:ag):S.fP o=qF l (av l).at_ (av l).made o (fA (av l).at_ o.aN o.at_ (lM (av l).at_ o.at_)):=by
 unfold Sh.fP;rw[h.why];unfold Sh.HS;rw[h.base.tr]
end
end
section
theorem oe (c:Cr):kg c 0=false:=by
 unfold kg;have h:(fO 0:Int)=((0:Nat):Int):=rfl;rw[h,and_eq];simp
structure j0 (t l:List ag)(A:ag->Prop):Prop where
 uniq:qC l
 IX:qC t
 sub:∀ o,o∈t->o∈l
 u5:∀ o,A o->o∈t
 O4:∀ o a,A o->a∈l->a.before o=true->a.aI=o.aI->A a
theorem C8 {l:List ag}:∀ (m:Nat) (d:Dt) (a:ag),(bH l m d).2=true->aJ l d=some a->(bH l m d).1.aI=a.aI
 | 0,d,a,h,hf=>by cases h
 | m +1,d,a,h,hf=>by
  simp only[bH,hf] at h ⊢
  by_cases hk:a.kind=0
  .rw[if_pos hk] at h ⊢
   exact(of_decide_eq_true h).symm
  .rw[if_neg hk] at h ⊢
   by_cases hw:(dI l (bH l m a.aN) a).2≠0
   .rw[if_pos hw] at h;cases h
   .rw[if_neg hw]
theorem rJ {l:List ag}{g:Cr×Bool}{o:ag}(h:gh l g o=true):(dI l g o).2≠0:=by
 unfold dI
 by_cases hk:o.kind≠1
 .rw[if_pos hk];show(2:Nat)≠0;decide
 .rw[if_neg hk,if_pos h];show(272:Nat)≠0;decide
theorem sW {l:List ag}(m:Nat){d:Dt}(h:aJ l d=none):(bH l m d).2=false:=by
 cases m with
 | zero=>simp only[bH]
 | succ m=>simp only[bH,h]
theorem Cb {l:List ag}{m:Nat}{o a:ag}(hf:aJ l o.aN=some a)(h: ¬ (a.before o=true/\a.aI=o.aI)):gh l (bH l m o.aN) o=true:=by
 unfold gh;cases hg:(bH l m o.aN).2 with
 | false=>rfl
 | true=>
  rw[C8 m o.aN a hg hf,hf]
  by_cases hc:a.aI=o.aI
  .have:a.before o=false:=by
    rw[Bool.eq_false_iff];exact λ hb=>h ⟨hb,hc⟩
   simp[this]
  .simp[hc]
theorem kD.aI {l:List ag}{U:Tr}(hU:kD l U){d:Dt}{c:Cr}(hc:MM.get U.at_ d=some c):∃ a,aJ l d=some a/\c.aI=a.aI:=by
 obtain⟨a,_,ha⟩:=hU.cr d c hc;refine⟨a,ha.fd,?_⟩;rcases ha.how with⟨_,h2,h3⟩|⟨p,q,_,_,hb⟩
 .rw[h3];show a.dot=a.aI;rw[h2,eW ha.fd]
 .rw[hb.is]
section
variable {t l:List ag} {A:ag->Prop} (h:j0 t l A)
include h
theorem j0.up {d:Dt}{o:ag}(hf:aJ t d=some o):aJ l d=some o:=by
 obtain⟨h1,rfl⟩:=gd hf;exact h.uniq.find (h.sub o h1)
theorem j0.at_ {d:Dt}{o:ag}(hf:aJ l d=some o)(ha:A o):aJ t d=some o:=by
 rw[<- eW hf];exact h.IX.find (h.u5 o ha)
theorem j0.down {d:Dt}{o a:ag}(ho:A o)(hf:aJ l d=some a)(hb:a.before o=true)(hc:a.aI=o.aI):A a:=h.O4 o a ho (gd hf).1 hb hc
theorem j0.dI (m:Nat){o:ag}(ho:A o)(ih:∀ a,aJ l o.aN=some a->A a->bH t m o.aN=bH l m o.aN):
  Go.Proofs.YtaelhkkjgfobhaaGreat.dI t (bH t m o.aN) o=Go.Proofs.YtaelhkkjgfobhaaGreat.dI l (bH l m o.aN) o\/(Go.Proofs.YtaelhkkjgfobhaaGreat.dI t (bH t m o.aN) o).2≠0/\(Go.Proofs.YtaelhkkjgfobhaaGreat.dI l (bH l m o.aN) o).2≠0:=by
 cases hf:aJ l o.aN with
 | none=>
  have hn:aJ t o.aN=none:=by
   cases ht:aJ t o.aN with
   | none=>rfl
   | some a=>rw[h.up ht] at hf;cases hf
  refine .inr ⟨rJ ?_,rJ ?_⟩
  .unfold gh;rw[sW m hn];rfl
  .unfold gh;rw[sW m hf];rfl
 | some a=>
  by_cases hb:a.before o=true/\a.aI=o.aI
  .have haa:=h.down ho hf hb.1 hb.2
   refine .inl ?_;rw[ih a hf haa];unfold Go.Proofs.YtaelhkkjgfobhaaGreat.dI gh;rw[h.at_ hf haa,hf]
  .refine .inr ⟨rJ ?_,rJ (Cb hf hb)⟩
   cases ht:aJ t o.aN with
   | none=>unfold gh;rw[sW m ht];rfl
   | some b=>
    have:=h.up ht;rw[hf] at this;injection this with this;subst this;exact Cb ht hb
theorem j0.bH:∀ (m:Nat) (d:Dt) (o:ag),aJ l d=some o->A o->Go.Proofs.YtaelhkkjgfobhaaGreat.bH t m d=Go.Proofs.YtaelhkkjgfobhaaGreat.bH l m d
 | 0,d,o,_,_=>by simp only[Go.Proofs.YtaelhkkjgfobhaaGreat.bH]
 | m +1,d,o,hf,ho=>by
  simp only[Go.Proofs.YtaelhkkjgfobhaaGreat.bH,hf,h.at_ hf ho]
  by_cases hk:o.kind=0
  .rw[if_pos hk,if_pos hk]
  .rw[if_neg hk,if_neg hk]
   rcases h.dI m ho (λ a h1 h2=>j0.bH m _ a h1 h2) with hw|⟨n1,n2⟩
   .rw[hw]
   .rw[if_pos n1,if_pos n2]
variable {T U:Tr} (hT:kD t T) (hU:kD l U)
include hT hU
theorem j0.get {d:Dt}{o:ag}(hf:aJ l d=some o)(ho:A o):MM.get T.at_ d=MM.get U.at_ d:=by
 obtain⟨a1,a2⟩:=hT.get d;obtain⟨b1,b2⟩:=hU.get d;have e:=h.bH 10 d o hf ho;cases g1:MM.get T.at_ d with
 | some c=>
  have:=a2 c g1;rw[e] at this;cases g2:MM.get U.at_ d with
  | some c'=>rw[b2 c' g2] at this;cases this;rfl
  | none=>
   have b1:(Go.Proofs.YtaelhkkjgfobhaaGreat.bH l 10 d).2=(MM.get U.at_ d).isSome:=b1;rw[g2,this] at b1;cases b1
 | none=>
  have a1:(Go.Proofs.YtaelhkkjgfobhaaGreat.bH t 10 d).2=(MM.get T.at_ d).isSome:=a1;rw[g1,e] at a1;cases g2:MM.get U.at_ d with
  | some c'=>rw[b2 c' g2] at a1;cases a1
  | none=>rfl
theorem j0.sP {oc:Option Cr}{L:List Cr}(hL:mC T.at_ oc L):(∀ c,oc=some c->∃ d o,MM.get T.at_ d=some c/\aJ l d=some o/\A o)->mC U.at_ oc L:=by
 induction hL with
 | none=>intro _;exact .none
 | root c hc=>intro _;exact .root c hc
 | more c L hc h2 ih=>
  intro hx;obtain⟨d,x,hd,hx,hax⟩:=hx c rfl;obtain⟨o,p,q,ho,hq,hp,hb⟩:=hT.above hd hc;have e1:o=x:=by have:=h.up ho;rw[hx] at this;injection this with this;exact this.symm
  subst e1;obtain⟨q',hq',hc'⟩:=hT.aI hp;rw[hq] at hq';injection hq' with hq';subst hq';have haq:A q:=h.down hax (h.up hq) hb.xy (by rw[<- hc',hb.aI]);have e:=h.get hT hU (h.up hq) haq;refine .more c L hc ?_;rw[<- e];exact ih λ c' hc''=>⟨c.par,q,hc'',h.up hq,haq⟩
theorem j0.N3 {d:Dt}{o:ag}(hf:aJ l d=some o)(ho:A o):lM T.at_ d=lM U.at_ d:=by
 obtain⟨L,hL,_⟩:=hT.sP d;have e:=h.get hT hU hf ho;have:=h.sP hT hU hL λ c hc=>⟨d,o,hc,hf,ho⟩
 rw[e] at this;rw[fI hL,fI this]
end
end
section
noncomputable def fB (l:List ag)(o:ag):Nat:=qF l (av l).at_ (av l).made o (fA (av l).at_ o.aN o.at_ (lM (av l).at_ o.at_))
theorem yz (l:List ag)(o:ag):tE (av l).at_ (av l).made o=(dI l (bH l 10 o.aN) o).2:=((dF l).why o).symm
theorem bI {l:List ag}{d:Dt}{a:ag}(h:aJ l d=some a):j4 l d=a:=by unfold j4;rw[h];rfl
theorem oS {l:List ag}{d:Dt}{o:ag}:lP l (av l).at_ d o=true↔∃ c a,MM.get (av l).at_ d=some c/\aJ l d=some a/\a.before o=true/\a.aI=o.aI/\c.aI=o.aI:=by
 unfold lP MM.has ji;constructor
 .intro h
  simp only[Bool.and_eq_true,decide_eq_true_eq] at h;obtain⟨h1,h2,h3,h4⟩:=h;obtain⟨c,hc⟩:=Option.isSome_iff_exists.1 h1;obtain⟨a,ha,e⟩:=(dF l).aI hc;rw[bI ha] at h4;rw[hc] at h2;have h2:c.aI=o.aI:=h2;exact⟨c,a,hc,ha,h4,by rw[<- e,h2],h2⟩
 .rintro⟨c,a,h1,h2,h3,h4,h5⟩
  rw[h1,bI h2,h2];simp[h3,h5]
theorem og {l:List ag}{tr:MM Dt Cr}{md:MM Dt ag}{d:Dt}{o:ag}:jg l tr md d o=(zS l tr md d && (ji l d o && decide ((j4 l d).aI=o.aI))):=by
 unfold jg;rw[Bool.and_comm (decide _)]
theorem sX {l:List ag}{d:Dt}{o:ag}(hl:(ji l d o && decide ((j4 l d).aI=o.aI))=true):∃ a,aJ l d=some a/\a.before o=true/\a.aI=o.aI:=by
 unfold ji at hl;simp only[Bool.and_eq_true,decide_eq_true_eq] at hl;obtain⟨⟨h1,h2⟩,h3⟩:=hl;obtain⟨a,ha⟩:=Option.isSome_iff_exists.1 h1;rw[bI ha] at h2 h3;exact⟨a,ha,h2,h3⟩
section
variable {t l:List ag} {A:ag->Prop} (h:j0 t l A)
include h
theorem j0.xS {d:Dt}{o:ag}(hf:aJ l d=some o)(ho:A o):MM.get (av t).at_ d=MM.get (av l).at_ d:=h.get (dF t) (dF l) hf ho
theorem j0.yt (d:Dt){o:ag}(ho:A o):lP t (av t).at_ d o=lP l (av l).at_ d o:=by
 rw[Bool.eq_iff_iff,oS,oS];constructor
 .rintro⟨c,a,h1,h2,h3,h4,h5⟩
  have hl:=h.up h2;exact⟨c,a,by rw[<- h.xS hl (h.down ho hl h3 h4)];exact h1,hl,h3,h4,h5⟩
 .rintro⟨c,a,h1,h2,h3,h4,h5⟩
  have ha:=h.down ho h2 h3 h4;exact⟨c,a,by rw[h.xS h2 ha];exact h1,h.at_ h2 ha,h3,h4,h5⟩
theorem j0.Gg {d:Dt}{o:ag}(ho:A o)(hc:lP l (av l).at_ d o=true):MM.get (av t).at_ d=MM.get (av l).at_ d/\lM (av t).at_ d=lM (av l).at_ d:=by
 obtain⟨c,a,h1,h2,h3,h4,h5⟩:=oS.1 hc;have ha:=h.down ho h2 h3 h4;exact⟨h.xS h2 ha,h.N3 (dF t) (dF l) h2 ha⟩
theorem j0.look (d:Dt){o:ag}(ho:A o):(ji t d o && decide ((j4 t d).aI=o.aI))=(ji l d o && decide ((j4 l d).aI=o.aI)):=by
 rw[Bool.eq_iff_iff];unfold ji;simp only[Bool.and_eq_true,decide_eq_true_eq];constructor
 .rintro⟨⟨h1,h2⟩,h3⟩
  obtain⟨a,ha⟩:=Option.isSome_iff_exists.1 h1;have hl:=h.up ha;rw[bI ha] at h2 h3;rw[bI hl,hl];exact⟨⟨rfl,h2⟩,h3⟩
 .rintro⟨⟨h1,h2⟩,h3⟩
  obtain⟨a,ha⟩:=Option.isSome_iff_exists.1 h1;rw[bI ha] at h2 h3;have ht:=h.at_ ha (h.down ho ha h2 h3);rw[bI ht,ht];exact⟨⟨rfl,h2⟩,h3⟩
theorem j0.aI {o:ag}(ho:A o):lN t o=lN l o:=by
 unfold lN
 by_cases hk:o.kind=0
 .rw[if_pos hk,if_pos hk]
 .rw[if_neg hk,if_neg hk,Bool.eq_iff_iff]
  simp only[Bool.and_eq_true,decide_eq_true_eq];constructor
  .rintro⟨h1,h2,h3,h4⟩
   obtain⟨a,ha⟩:=Option.isSome_iff_exists.1 h1;have hl:=h.up ha;rw[bI ha] at h2 h3 h4;rw[bI hl,hl];exact⟨rfl,h2,h3,h4⟩
  .rintro⟨h1,h2,h3,h4⟩
   obtain⟨a,ha⟩:=Option.isSome_iff_exists.1 h1;rw[bI ha] at h2 h3 h4;have ht:=h.at_ ha (h.down ho ha h4 (by rw[h3,eW ha]));rw[bI ht,ht];exact⟨rfl,h2,h3,h4⟩
theorem j0.L6 {o:ag}(ho:A o):decide (tE (av t).at_ (av t).made o≠0)=decide (tE (av l).at_ (av l).made o≠0):=by
 rw[yz,yz];rcases h.dI 10 ho (λ a h1 h2=>h.bH 10 _ a h1 h2) with e|⟨e1,e2⟩
 .rw[e]
 .rw[decide_eq_true e1,decide_eq_true e2]
theorem j0.fQ {o:ag}(ho:A o)(x y:Bool)(hxy:(o.kind≠0->lP l (av l).at_ o.aN o=true)->x=y):Go.Proofs.YtaelhkkjgfobhaaGreat.fQ t (av t).at_ (av t).made o x=Go.Proofs.YtaelhkkjgfobhaaGreat.fQ l (av l).at_ (av l).made o y:=by
 unfold Go.Proofs.YtaelhkkjgfobhaaGreat.fQ;rw[h.aI ho,h.yt _ ho,h.L6 ho]
 by_cases hk:o.kind=0
 .have hk':((o.kind:Int) == 0)=true:=by rw[hk];rfl
  rw[hk',hxy (λ hn=>absurd hk hn),hk,oe,oe];simp
 .have hk':((o.kind:Int) == 0)=false:=by simp;exact hk
  cases hc:lP l (av l).at_ o.aN o with
  | false=>rw[hk'];simp
  | true=>
   rw[(h.Gg ho hc).1,hxy (λ _=>hc)]
theorem j0.add {d:Dt}{o:ag}(hf:aJ l d=some o)(ho:A o):zS t (av t).at_ (av t).made d=zS l (av l).at_ (av l).made d:=by
 unfold zS;rw[hf,h.at_ hf ho];dsimp only;rw[h.fQ ho true true (λ _=>rfl)]
theorem j0.line (d:Dt){o:ag}(ho:A o):jg t (av t).at_ (av t).made d o=jg l (av l).at_ (av l).made d o:=by
 rw[og,og,h.look d ho];cases hl:(ji l d o && decide ((j4 l d).aI=o.aI)) with
 | false=>simp
 | true=>
  obtain⟨a,h1,h2,h3⟩:=sX hl;rw[h.add h1 (h.down ho h1 h2 h3)]
theorem j0.set {d:Dt}{o:ag}(hf:aJ l d=some o)(ho:A o):tU t (av t).at_ (av t).made d=tU l (av l).at_ (av l).made d:=by
 unfold tU;rw[hf,h.at_ hf ho];dsimp only;rw[h.line _ ho,h.fQ ho _ _ (λ _=>rfl)]
end
theorem Gh {l:List ag}{tr:MM Dt Cr}{md:MM Dt ag}{d e:Dt}:tU l tr md d=some e↔∃ x,aJ l d=some x/\x.kind=4/\Go.Proofs.YtaelhkkjgfobhaaGreat.fQ l tr md x (jg l tr md x.at_ x)=0/\x.at_=e:=by
 unfold tU;constructor
 .intro h
  split at h
  .rename_i x hx
   split at h
   .rename_i hc
    injection h with h;exact⟨x,hx,hc.1,hc.2,h⟩
   .cases h
  .cases h
 .rintro⟨x,h1,h2,h3,h4⟩
  rw[h1];dsimp only;rw[if_pos ⟨h2,h3⟩,h4]
theorem L7 {l:List ag}{tr:MM Dt Cr}{md:MM Dt ag}{o:ag}{x:Bool}(h:Go.Proofs.YtaelhkkjgfobhaaGreat.fQ l tr md o x=0):x=true:=by
 cases x with
 | true=>rfl
 | false=>
  exfalso
  unfold Go.Proofs.YtaelhkkjgfobhaaGreat.fQ at h
  revert h
  simp only[Bool.not_false,if_true]
  repeat' split
  all_goals simp
theorem xA {l:List ag}{tr:MM Dt Cr}{md:MM Dt ag}{d e:Dt}{o:ag}(h:tU l tr md d=some e)(hl:jg l tr md e o=true):∃ x,aJ l d=some x/\x.aI=o.aI:=by
 obtain⟨x,h1,h2,h3,h4⟩:=Gh.1 h;have h5:=L7 h3;rw[h4,og,Bool.and_eq_true] at h5;rw[og,Bool.and_eq_true] at hl;obtain⟨a,a1,a2,a3⟩:=sX h5.2;obtain⟨b,b1,b2,b3⟩:=sX hl.2;rw[a1] at b1;injection b1 with b1;subst b1;exact⟨x,h1,by rw[<- a3,b3]⟩
theorem zT {l:List ag}{tr:MM Dt Cr}{md:MM Dt ag}{c:Cm}{o:ag}:mD l tr md c o=true↔jg l tr md c.line o=true/\(c.j5=c.line\/tU l tr md c.j5=some c.line/\ji l c.j5 o=true):=by
 unfold mD;simp only[Bool.and_eq_true,Bool.or_eq_true,decide_eq_true_eq];constructor
 .rintro⟨h1,h2|⟨h2,h3,h4⟩⟩
  .exact⟨h1,.inl h2⟩
  .obtain⟨e,he⟩:=Option.isSome_iff_exists.1 h2
   rw[he] at h3;have h3:e=c.line:=h3;exact⟨h1,.inr ⟨by rw[he,h3],h4⟩⟩
 .rintro⟨h1,h2|⟨h2,h3⟩⟩
  .exact⟨h1,.inl h2⟩
  .exact⟨h1,.inr ⟨by rw[h2];rfl,by rw[h2];rfl,h3⟩⟩
section
variable {t l:List ag} {A:ag->Prop} (h:j0 t l A)
include h
theorem j0.sR (c:Cm){o:ag}(ho:A o):mD t (av t).at_ (av t).made c o=mD l (av l).at_ (av l).made c o:=by
 rw[Bool.eq_iff_iff,zT,zT,h.line _ ho];constructor
 .rintro⟨h1,h2|⟨h2,h3⟩⟩
  .exact⟨h1,.inl h2⟩
  .obtain⟨x,hx,e⟩:=xA h2 (by rw[h.line _ ho];exact h1)
   have hl:=h.up hx;unfold ji at h3;rw[bI hx,hx] at h3;have ha:=h.down ho hl (by simpa using h3) e;refine⟨h1,.inr ⟨by rw[<- h.set hl ha];exact h2,?_⟩⟩;unfold ji;rw[bI hl,hl];exact h3
 .rintro⟨h1,h2|⟨h2,h3⟩⟩
  .exact⟨h1,.inl h2⟩
  .obtain⟨x,hl,e⟩:=xA h2 h1
   unfold ji at h3;rw[bI hl,hl] at h3;have ha:=h.down ho hl (by simpa using h3) e;have hx:=h.at_ hl ha;refine⟨h1,.inr ⟨by rw[h.set hl ha];exact h2,?_⟩⟩;unfold ji;rw[bI hx,hx];exact h3
theorem j0.why {o:ag}(ho:A o):fB t o=fB l o:=by
 unfold fB qF;refine h.fQ ho _ _ λ hc=> ?_
 unfold mS;rw[h.yt _ ho,h.line _ ho];simp only[h.sR _ ho]
 by_cases k2:o.kind=2
 .rw[if_pos k2,if_pos k2]
  cases hd:lP l (av l).at_ o.at_ o with
  | false=>rfl
  | true=>
   unfold fA;rw[(h.Gg ho hd).2]
 .rw[if_neg k2,if_neg k2]
end
end
section
theorem zU {l :List ag}{tr:MM Dt Cr}{md:MM Dt ag}{o:ag}{x:Bool}:Go.Proofs.YtaelhkkjgfobhaaGreat.fQ l tr md o x=0↔ ¬ (o.kind:Int)>8/\lN l o=true/\(o.kind≠0->lP l tr o.aN o=true/\((((MM.get tr o.aN).getD Cr.zero).hold:Int)=(o.who:Int))/\kg ((MM.get tr o.aN).getD Cr.zero) o.kind=false)/\(o.kind=1->tE tr md o=0)/\x=true:=by
 unfold Go.Proofs.YtaelhkkjgfobhaaGreat.fQ
 by_cases h8:(o.kind:Int)>8
 .rw[decide_eq_true h8];simp[h8]
 rw[decide_eq_false h8];cases hc:lN l o with
 | false=>simp
 | true=>
  by_cases hk:o.kind=0
  .have hk':((o.kind:Int) == 0)=true:=by rw[hk];rfl
   rw[hk',hk,oe];cases x<;>simp
  .have hk':((o.kind:Int) == 0)=false:=by simp;exact hk
   rw[hk'];cases h1:lP l tr o.aN o with
   | false=>simp[hk]
   | true=>
    by_cases h2:(((MM.get tr o.aN).getD Cr.zero).hold:Int)=(o.who:Int)
    .have h2':((((MM.get tr o.aN).getD Cr.zero).hold:Int) != (o.who:Int))=false:=by simpa using h2
     rw[h2'];cases h3:kg ((MM.get tr o.aN).getD Cr.zero) o.kind with
     | true=>simp[hk]
     | false=>
      by_cases h4:o.kind=1
      .by_cases h5:tE tr md o=0
       .rw[h5];cases x<;>simp[h2];omega
       .cases x<;>simp[h4,h5]
      .cases x<;>simp[h4,h2];omega
    .have h2':((((MM.get tr o.aN).getD Cr.zero).hold:Int) != (o.who:Int))=true:=by simpa using h2
     rw[h2'];simp[hk,h2]
section
variable {t l:List ag} {A:ag->Prop} (h:j0 t l A) (hA:∀ o,o∈t->A o)
include h hA
end
theorem Part.O7 {t l:List ag}(h:Part t l):j0 t l (· ∈t):=⟨h.uniq,h.IX,h.sub,λ _ h=>h,λ o a ho ha hb _=>h.O4 o a ho ha hb⟩
theorem Be {t l:List ag}(h:Part t l){o:ag}(ho:o∈t):fB t o=fB l o:=h.O7.why ho
theorem dG.good {l:List ag}{S:Sh}(h:dG l S)(d:Dt):S.good d=match aJ l d with
  | some o=>decide (fB l o=0)
  | none=>false:=by
 unfold Sh.good;rw[h.base.has,h.base.op,h.fP];cases hf:aJ l d with
 | none=>rfl
 | some o=>rw[bI hf];rfl
end
end Go.Proofs.YtaelhkkjgfobhaaGreat
namespace Go.Proofs.YtaelhkkjgfobhaaGreat
open Go.Sl Go.Proofs
section
attribute [local irreducible] SW RW aF SC ai ak
def O8 (n kind who aN:Nat):ag:=⟨⟨0,n⟩,wu (n - 1),n,who,⟨0,1⟩,kind,⟨0,aN⟩,0,0,0,0,⟨0,0⟩,⟨0,0⟩,0,0,0,.aG⟩
def zV (n kind who aN:Nat):ag:=(O8 n kind who aN).nz
theorem SC.N4 {P:Program}{f:FuncId}{args:List SV}{F F':Hp}{k nk:Nat}{r r':SV}(h:aF P f args F k nk r F')(hr:∀ (p:Nat->Prop) μ M u,Rp p μ M r u->Rp p μ M r' u):aF P f args F k nk r' F':=by
 unfold aF SC at h ⊢;refine⟨h.1,λ p μ M w vals h1 h2 h3=>(h.2 p μ M w vals h1 h2 h3).mono ?_⟩;rintro e w' ⟨r0,F0,bh,M',u,a,⟨rfl,rfl⟩,b,c⟩;exact⟨r',F0,bh,M',u,a,⟨rfl,rfl⟩,hr _ _ _ _ b,c⟩
end
section
abbrev nK (k:Nat):Sn:=⟨10+k,7+k,8+k,9+k,2+k,0+k,1+k⟩
theorem Sh.Jb (S:Sh)(k:Nat):Hp.aC (· +k) S.lU=S.hp (nK k):=by
 simp only[Hp.aC,List.map_cons,List.map_nil,Ob.aC,SV.aU,SV.aC,jY,cQ,sQ,ff,Sh.hp]
theorem Jc (l:List ag)(hl:l.length<1000000000)(hd:∀ o,o∈l->o.kind<256/\o.mZ)(k:Nat):SC Tryz.prog shape_New.f [ops l] [] k 11 λ r F=>∃ S,dG l S/\r= .ptr (10+k) 0/\F=S.hp (nK k):=by
 have:=SB.at (Ja l hl hd) (· +k) k (λ n m h=>absurd h (Nat.not_lt_zero n)) (λ n h=>absurd h (Nat.not_lt_zero n)) (λ i _=>by show 0+i+k=k+i;omega);refine SC.mono (show SC Tryz.prog shape_New.f [ops l] [] k 11 _ from this) ?_;rintro r F ⟨r0,F0,⟨S,hS,rfl,rfl⟩,rfl,rfl⟩;exact⟨S,hS,rfl,S.Jb k⟩
theorem L8 (l:List ag)(hl:l.length<1000000000)(hd:∀ o,o∈l->o.kind<256/\o.mZ):SC Tryz.prog shape_New.f [ops l] [] 0 11 λ r F=>∃ S,dG l S/\r= .ptr 10 0/\F=S.lU:=Jc l hl hd 0
section
variable {l:List ag} {S:Sh} (h:dG l S)
include h
theorem dG.short (hd:∀ o,o∈l->o.kind<256/\o.mZ/\o.cl.length<=1048576):oR S:=λ d o ho=>by
 rw[h.base.ops.get] at ho;exact hd o (gd ho).1
end
def o1:ag:=zV 1 0 1 0
def o2:ag:={ zV 2 1 1 1 with to:=2,aT:=2,cap:=9}
def o3:ag:={ zV 3 3 2 2 with Lz:=1}
def o4:ag:={ zV 4 4 2 2 with at_:=⟨0,3⟩,Lz:=2}
def hrow:List ag:=[o1,o2,o3,o4]
theorem KO:cq (zV 4 4 2 2).cells 21 (Dt.mk 0 3).cells=({ zV 4 4 2 2 with at_:=⟨0,3⟩}:ag).cells:=rfl
theorem d3:cq (Dt.mk 0 0).cells 1 [.d (.int .u32 3)]=(Dt.mk 0 3).cells:=rfl
theorem d4:cq (Dt.mk 0 0).cells 1 [.d (.int .u32 4)]=(Dt.mk 0 4).cells:=rfl
attribute [local irreducible] SW RW aF SC ai ak
end
section
def hc1:Cr:=⟨⟨0,1⟩,⟨0,1⟩,⟨0,0⟩,1,7,8,1099511627776,0⟩
def HR:Cr:=⟨⟨0,2⟩,⟨0,1⟩,⟨0,1⟩,2,2,0,9,1⟩
theorem Jd {l:List ag}{o:ag}{L:List Cr}{n:Nat}(hL:mC (av l).at_ (MM.get (av l).at_ o.at_) L)(h:qF l (av l).at_ (av l).made o (fA (av l).at_ o.aN o.at_ L)=n):fB l o=n:=by
 unfold fB;rw[fI hL];exact h
def yT:List Cm:=[⟨⟨0,3⟩,⟨0,4⟩⟩]
def O9:ag:={ zV 5 8 2 2 with lines:= .sl 1 (yT.flatMap Cm.ds)}
theorem O_ {o:ag}(h:o.lines= .sl 0 []):o.mZ:=(ag.mZ.of (l:=[]) h (by simp)).1
section
variable {S:Sh} (h:dG hrow S)
include h
end
theorem OH:cq (zV 5 8 2 2).cells 28 [.d (.sl 1 (yT.flatMap Cm.ds))]=O9.cells:=rfl
attribute [local irreducible] SW RW aF SC ai ak
end
end Go.Proofs.YtaelhkkjgfobhaaGreat
