/-
 Shapes: what a new shape holds (plain).
-/
import Derived.Test.YtaelhkkjgfobhaaGreatRI
set_option linter.unusedSectionVars false
set_option linter.unusedVariables false
set_option linter.unusedSimpArgs false
namespace Go.Proofs.YtaelhkkjgfobhaaGreat
open Go.Sl Go.Proofs
section
theorem pg.uniq {a:MM Dt Cr}{oc:Option Cr}{L M:List Cr}(h:pg a oc L):pg a oc M->L=M:=by
 induction h generalizing M with
 | none=>intro g;cases g;rfl
 | root c hc=>intro g;cases g with
  | root _ _=>rfl
  | more _ L h1 _=>exact absurd h1 hc
 | more c L h1 _ ih=>intro g;cases g with
  | root _ h2=>exact absurd h1 h2
  | more _ L' _ h2=>rw[ih h2]
open Classical in
noncomputable def mX (a:MM Dt Cr)(d:Dt):List Cr:=if h:∃ L,pg a (MM.get a d) L then Classical.choose h else []
theorem gI {a:MM Dt Cr}{d:Dt}{L:List Cr}(h:pg a (MM.get a d) L):mX a d=L:=by
 have hx:∃ L,pg a (MM.get a d) L:=⟨L,h⟩;unfold mX;rw[dif_pos hx];exact(Classical.choose_spec hx).uniq h
noncomputable def Sh.IQ (S:Sh)(e d:Dt):Bool:=lM S.tr e d (mX S.tr d)
noncomputable def Sh.fL (S:Sh)(o:ag):Nat:=S.why o (S.IQ o.aP o.at_)
def Sh.ux (S:Sh):Prop:=∀ d,∃ L,pg S.tr (MM.get S.tr d) L/\L.length<=9
theorem Sh.PB (S:Sh)(h:S.ux)(e d:Dt):∃ m,∀ k,aH Tryz.prog tree_Tree_Above.f [.ptr 4 0,.agg e.cells,.agg d.cells] S.h4 k m (bl (S.IQ e d)) S.h4:=by
 obtain⟨L,hL,hlen⟩:=h d;refine⟨6+L.length*(1+1),λ k=> ?_⟩;have:=Gr S.Mo e d L hL (by omega) k;unfold Sh.IQ;rw[gI hL];exact this
theorem Sh.Oz (S:Sh)(h:S.ux)(o:ag)(hk:o.kind<256)(hl:o.mC)(n:Sn)(hn:n.ok)(k:Nat):aH Tryz.prog shape_Shape_Why.f [.ptr n.b 0,.agg o.cells] (S.hp n) k 0 (i64 (S.fL o)) (S.hp n):=by
 obtain⟨m,hm⟩:=S.PB h o.aP o.at_;exact JN S o hk _ (λ k=>Mr S o hk hl _ m hm k) n hn k
theorem Sh.tw (S:Sh)(A:MM Dt Int)(c:Nat)(B:MM Dt Dt)(e:Nat){o:ag}(hk:o.kind=3):({ S with iL:=A,ca:=c,oS:=B,cl:=e}:Sh).fL o=S.fL o:=by
 have ht:∀ (T:Sh) (b:Bool),T.tgt o b=true:=λ T b=>by unfold Sh.tgt;rw[if_neg (by omega),if_neg (by omega),if_neg (by omega),if_neg (by omega)]
 have hr:∀ (b:Bool) i,Sh.rZ { S with iL:=A,ca:=c,oS:=B,cl:=e} o b i=S.rZ o b i:=λ b i=>by
  match i with
  | 0|1|2|3|4|5=>rfl
  | i+6=>show(!Sh.tgt _ o b)=(!Sh.tgt _ o b);rw[ht,ht]
 show Sh.why _ o (S.IQ o.aP o.at_)=S.why o (S.IQ o.aP o.at_);unfold Sh.why;simp only[hr]
theorem Sh.AM (S:Sh)(B:MM Dt Dt)(e:Nat){o:ag}(hk:o.kind=4):({ S with oS:=B,cl:=e}:Sh).fL o=S.fL o:=by
 have ht:∀ (b:Bool),Sh.tgt { S with oS:=B,cl:=e} o b=S.tgt o b:=λ b=>by
  unfold Sh.tgt;rw[if_neg (by omega),if_pos (.inl hk),if_neg (by omega),if_pos (.inl hk)];rfl
 have hr:∀ (b:Bool) i,Sh.rZ { S with oS:=B,cl:=e} o b i=S.rZ o b i:=λ b i=>by
  match i with
  | 0|1|2|3|4|5=>rfl
  | i+6=>show(!Sh.tgt _ o b)=(!Sh.tgt _ o b);rw[ht]
 show Sh.why _ o (S.IQ o.aP o.at_)=S.why o (S.IQ o.aP o.at_);unfold Sh.why;simp only[hr]
def Dk (s:MM Dt ag×Nat)(o:ag):MM Dt ag×Nat:=if MM.has s.1 o.dot then s else (MM.put s.1 s.2 o.dot o,MM.jy s.1 s.2 o.dot)
def firstM (l:List ag):MM Dt ag×Nat:=l.foldl Dk ([],0)
theorem ua (l:List ag)(x:ag):firstM (l++[x])=Dk (firstM l) x:=by unfold firstM;rw[List.foldl_append];rfl
theorem vX (l:List ag)(x:ag)(d:Dt):a_ (l++[x]) d=(a_ l d).or (if x.dot=d then some x else none):=by
 unfold a_;rw[List.find?_append]
 congr 1
 simp only[List.find?_cons,List.find?_nil]
 by_cases h:x.dot=d<;>simp[h]
structure zg (l:List ag)(m:MM Dt ag)(c:Nat):Prop where
 wf:MM.wf m c
 get:∀ d,MM.get m d=a_ l d
theorem G7 (l:List ag):zg l (firstM l).1 (firstM l).2:=by
 have key:∀ n,∀ l:List ag,l.length=n->zg l (firstM l).1 (firstM l).2:=λ n=>by
  induction n with
  | zero=>
   intro l hl;rw[List.eq_nil_of_length_eq_zero hl];exact⟨MM.lu,λ d=>by simp[firstM,MM.get,a_]⟩
  | succ n ih=>
   intro l hl;have hne:l≠[]:=λ e=>by rw[e] at hl;cases hl
   have hd:=List.dropLast_concat_getLast hne;obtain⟨x,hx⟩:∃ x,l.getLast hne=x:=⟨_,rfl⟩;obtain⟨p,hp⟩:∃ p,l.dropLast=p:=⟨_,rfl⟩;rw[hx,hp] at hd;have hpl:p.length=n:=by rw[<- hp,List.length_dropLast,hl];omega
   have h:=ih p hpl;rw[<- hd,ua];unfold Dk
   by_cases hh:MM.has (firstM p).1 x.dot=true
   .rw[if_pos hh]
    refine⟨h.wf,λ d=> ?_⟩;rw[h.get,vX];have hs:(a_ p x.dot).isSome=true:=by rw[<- h.get];exact hh
    by_cases e:x.dot=d
    .subst e
     obtain⟨y,hy⟩:=Option.isSome_iff_exists.1 hs;rw[hy];rfl
    .rw[if_neg e];simp
   .rw[if_neg hh]
    refine⟨MM.gx h.wf _ _,λ d=> ?_⟩;rw[MM.dP,h.get,vX];have hs:a_ p x.dot=none:=by
     rw[<- h.get];have:(MM.get (firstM p).1 x.dot).isSome=false:=by simpa[MM.has] using hh
     simpa using this
    by_cases e:d=x.dot
    .subst e
     rw[if_pos rfl,hs,if_pos rfl];rfl
    .rw[if_neg e,if_neg (Ne.symm e)];simp
 exact key _ l rfl
end
section
attribute [local irreducible] SW RW aH SC aj ak
abbrev QD (a:MM Dt Cr)(ca:Nat)(m:MM Dt ag)(cm:Nat):Tr:=⟨2,0,1,a,ca,m,cm⟩
abbrev H2 (a:MM Dt Cr)(ca:Nat)(m:MM Dt ag)(cm:Nat):Hp:=[(2,.box 166 [.mp 0,.mp 1]),(0,.map (au Dt.cells cv a) ca),(1,.map (au Dt.cells ov m) cm)]
structure Tn (l:List ag)(a:MM Dt Cr)(ca:Nat)(m:MM Dt ag)(cm:Nat):Prop where
 new:jO l 0=QD a ca m cm
theorem OA (l:List ag):∃ a ca m cm,Tn l a ca m cm:=by
 refine⟨(jO l 0).at_,(jO l 0).ca,(jO l 0).made,(jO l 0).cm,⟨?_⟩⟩;have e1:(jO l 0).bx=2:=by show 0+_=2;rw[Nat.zero_add];exact mI.e1 _
 have e2:(jO l 0).ma=0:=by show 0+_=0;rw[Nat.zero_add];exact mI.e2 _
 have e3:(jO l 0).mm=1:=by show 0+_=1;rw[Nat.zero_add];exact mI.e3 _
 revert e1 e2 e3
 generalize jO l 0=T;obtain⟨b,x,y,a,ca,m,cm⟩:=T;rintro rfl rfl rfl;rfl
section
variable {l:List ag} {a:MM Dt Cr} {ca:Nat} {m:MM Dt ag} {cm:Nat} (h:Tn l a ca m cm)
include h
theorem Tn.PC (hl:l.length<1000000000):aH Tryz.prog tree_New.f [ops l] [] 0 7 (.ptr 2 0) (H2 a ca m cm):=by
 have:=Mm l hl 0;rw[h.new] at this;exact this
end
end
section
abbrev n10:Sn:=⟨10,7,8,9,2,0,1⟩
theorem zh:n10.ok:=by decide
abbrev Sh.lS (S:Sh):Hp:=[(10,.box 117 [.ptr 2 0,.mp 7,.mp 8,.mp 9]),(7,.map (au Dt.cells ov S.ops) S.co),(8,.map (au Dt.cells iv S.iL) S.ca),(9,.map (au Dt.cells dv S.oS) S.cl),
 (2,.box 166 [.mp 0,.mp 1]),(0,.map (au Dt.cells cv S.tr) S.ct),(1,.map (au Dt.cells ov S.md) S.cm)]
theorem Sh.oN (S:Sh){k:Nat}(h:11<=k):S.lS.ok (λ n=>decide (n<k))=true:=by
 have a:=bG (λ n=>decide (n<k)) S.ops;have b:=bL (λ n=>decide (n<k)) S.iL;have c:=pq (λ n=>decide (n<k)) S.oS;have d:=kG (λ n=>decide (n<k)) S.tr;have e:=bG (λ n=>decide (n<k)) S.md;simp only[Hp.ok,List.all_cons,List.all_nil,Ob.ok,SV.ax,SV.ok,a,b,c,d,e,Bool.and_true,Bool.true_and,Bool.and_eq_true,decide_eq_true_eq];omega
theorem Sh.OB (S:Sh):(S.lS.map (·.1)).Nodup:=by simp
theorem Sh.Li (S:Sh)(h:S.ux)(o:ag)(hk:o.kind<256)(hl:o.mC)(k:Nat):aH Tryz.prog shape_Shape_Why.f [.ptr 10 0,.agg o.cells] S.lS k 0 (i64 (S.fL o)) S.lS:=S.Oz h o hk hl n10 zh k
structure jP (l:List ag)(S:Sh):Prop where
 ops:zg l S.ops S.co
 tok:lX l S.T
 ux:S.ux
 tr:S.tr=(bg l).at_
 md:S.md=(bg l).made
def ko (S:Sh)(xs:MM Dt ag)(A:MM Dt Int)(c:Nat):Prop:=MM.wf A c/\∀ d v,MM.get A d=some v↔v=1/\∃ x,x∈xs/\x.2.1=d/\x.2.2.kind=3/\S.fL x.2.2=0
def pz (S:Sh)(xs:MM Dt ag)(B:MM Dt Dt)(c:Nat):Prop:=MM.wf B c/\∀ d v,MM.get B d=some v↔∃ x,x∈xs/\x.2.1=d/\x.2.2.kind=4/\S.fL x.2.2=0/\v=x.2.2.at_
structure dw (l:List ag)(S:Sh):Prop where
 base:jP l S
 iL:ko S S.ops S.iL S.ca
 oS:pz S S.ops S.oS S.cl
theorem get_mem {V:Type}{m:MM Dt V}{d:Dt}{v:V}(h:MM.get m d=some v):∃ x,x∈m/\x.2.1=d/\x.2.2=v:=by
 unfold MM.get at h;obtain⟨x,hx,rfl⟩:=Option.map_eq_some_iff.1 h;exact⟨x,List.mem_of_find?_eq_some hx,by have:=List.find?_some hx;simp at this;exact this.symm,rfl⟩
theorem r6 {V:Type}{m:MM Dt V}(hk:(MM.keys m).Nodup){x:Nat×Dt×V}(hx:x∈m):MM.get m x.2.1=some x.2.2:=by
 have:(MM.get m x.2.1).isSome=true:=by
  unfold MM.get;rw[Option.isSome_map,List.find?_isSome];exact⟨x,hx,by simp⟩
 obtain⟨v,hv⟩:=Option.isSome_iff_exists.1 this;obtain⟨y,hy,e1,e2⟩:=get_mem hv;have:y=x:=by
  have hp:=List.nodup_iff_pairwise_ne.1 hk;unfold MM.keys at hp;rw[List.pairwise_map] at hp;exact Classical.byContradiction λ hne=>by
   rcases List.pairwise_iff_getElem.1 hp with hpp;obtain⟨i,hi,rfl⟩:=List.getElem_of_mem hy;obtain⟨j,hj,rfl⟩:=List.getElem_of_mem hx;rcases Nat.lt_trichotomy i j with h|h|h
   .exact hpp i j hi hj h e1
   .subst h;exact hne rfl
   .exact hpp j i hj hi h e1.symm
 rw[hv,<- e2,this]
theorem ko.skip {S:Sh}{xs:MM Dt ag}{A:MM Dt Int}{c:Nat}(h:ko S xs A c){x:Nat×Dt×ag}(hx: ¬ (x.2.2.kind=3/\S.fL x.2.2=0)):ko S (xs++[x]) A c:=by
 refine⟨h.1,λ d v=> ?_⟩;rw[h.2];constructor
 .rintro⟨h1,y,h2,h3⟩
  exact⟨h1,y,List.mem_append_left _ h2,h3⟩
 .rintro⟨h1,y,h2,h3,h4⟩
  rcases List.mem_append.1 h2 with h2|h2
  .exact⟨h1,y,h2,h3,h4⟩
  .rw[List.mem_singleton] at h2
   subst h2;exact absurd h4 hx
theorem ko.put {S:Sh}{xs:MM Dt ag}{A:MM Dt Int}{c:Nat}(h:ko S xs A c){x:Nat×Dt×ag}(hx:x.2.2.kind=3/\S.fL x.2.2=0):ko S (xs++[x]) (MM.put A c x.2.1 1) (MM.jy A c x.2.1):=by
 refine⟨MM.gx h.1 _ _,λ d v=> ?_⟩;rw[MM.dP]
 by_cases e:d=x.2.1
 .rw[if_pos e]
  constructor
  .intro h1
   injection h1 with h1;exact⟨h1.symm,x,List.mem_append_right _ (List.mem_singleton.2 rfl),e.symm,hx⟩
  .rintro⟨rfl,_⟩;rfl
 .rw[if_neg e,h.2]
  constructor
  .rintro⟨h1,y,h2,h3⟩
   exact⟨h1,y,List.mem_append_left _ h2,h3⟩
  .rintro⟨h1,y,h2,h3,h4⟩
   rcases List.mem_append.1 h2 with h2|h2
   .exact⟨h1,y,h2,h3,h4⟩
   .rw[List.mem_singleton] at h2
    subst h2;exact absurd h3.symm e
theorem ko.to {S S':Sh}{xs ys:MM Dt ag}{A:MM Dt Int}{c:Nat}(h:ko S xs A c)(hm:∀ x,x∈xs↔x∈ys)(hw:∀ o:ag,o.kind=3->S'.fL o=S.fL o):ko S' ys A c:=by
 refine⟨h.1,λ d v=> ?_⟩;rw[h.2];constructor
 .rintro⟨h1,y,h2,h3,h4,h5⟩
  exact⟨h1,y,(hm y).1 h2,h3,h4,by rw[hw _ h4];exact h5⟩
 .rintro⟨h1,y,h2,h3,h4,h5⟩
  exact⟨h1,y,(hm y).2 h2,h3,h4,by rw[<- hw _ h4];exact h5⟩
theorem pz.skip {S:Sh}{xs:MM Dt ag}{A:MM Dt Dt}{c:Nat}(h:pz S xs A c){x:Nat×Dt×ag}(hx: ¬ (x.2.2.kind=4/\S.fL x.2.2=0)):pz S (xs++[x]) A c:=by
 refine⟨h.1,λ d v=> ?_⟩;rw[h.2];constructor
 .rintro⟨y,h2,h3⟩
  exact⟨y,List.mem_append_left _ h2,h3⟩
 .rintro⟨y,h2,h3,h4,h5,h6⟩
  rcases List.mem_append.1 h2 with h2|h2
  .exact⟨y,h2,h3,h4,h5,h6⟩
  .rw[List.mem_singleton] at h2
   subst h2;exact absurd ⟨h4,h5⟩ hx
theorem pz.put {S:Sh}{xs:MM Dt ag}{A:MM Dt Dt}{c:Nat}(h:pz S xs A c){x:Nat×Dt×ag}(hx:x.2.2.kind=4/\S.fL x.2.2=0)(hu:∀ y,y∈xs->y.2.1≠x.2.1):pz S (xs++[x]) (MM.put A c x.2.1 x.2.2.at_) (MM.jy A c x.2.1):=by
 refine⟨MM.gx h.1 _ _,λ d v=> ?_⟩;rw[MM.dP]
 by_cases e:d=x.2.1
 .rw[if_pos e]
  constructor
  .intro h1
   injection h1 with h1;exact⟨x,List.mem_append_right _ (List.mem_singleton.2 rfl),e.symm,hx.1,hx.2,h1.symm⟩
  .rintro⟨y,h2,h3,_,_,h6⟩
   rcases List.mem_append.1 h2 with h2|h2
   .exact absurd (h3.trans e) (hu y h2)
   .rw[List.mem_singleton] at h2
    subst h2;rw[h6]
 .rw[if_neg e,h.2]
  constructor
  .rintro⟨y,h2,h3⟩
   exact⟨y,List.mem_append_left _ h2,h3⟩
  .rintro⟨y,h2,h3,h4⟩
   rcases List.mem_append.1 h2 with h2|h2
   .exact⟨y,h2,h3,h4⟩
   .rw[List.mem_singleton] at h2
    subst h2;exact absurd h3.symm e
theorem pz.to {S S':Sh}{xs ys:MM Dt ag}{A:MM Dt Dt}{c:Nat}(h:pz S xs A c)(hm:∀ x,x∈xs↔x∈ys)(hw:∀ o:ag,o.kind=4->S'.fL o=S.fL o):pz S' ys A c:=by
 refine⟨h.1,λ d v=> ?_⟩;rw[h.2];constructor
 .rintro⟨y,h2,h3,h4,h5,h6⟩
  exact⟨y,(hm y).1 h2,h3,h4,by rw[hw _ h4];exact h5,h6⟩
 .rintro⟨y,h2,h3,h4,h5,h6⟩
  exact⟨y,(hm y).2 h2,h3,h4,by rw[<- hw _ h4];exact h5,h6⟩
theorem vY {M xs:MM Dt ag}{c:Nat}(hwf:MM.wf M c)(p1:∀ x,x∈xs->x∈M)(hall:∀ e,e∈au Dt.cells ov M->(xs.map (·.1)).contains e.1=true):∀ x,x∈xs↔x∈M:=λ x=>⟨p1 x,λ hx=>by
 have:=hall _ (List.mem_map.2 ⟨x,hx,rfl⟩);simp only[List.contains_iff_mem] at this;obtain⟨z,hz,e⟩:=List.mem_map.1 this;rw[<- MM.rQ hwf.times (p1 z hz) hx e];exact hz⟩
theorem tA {M xs:MM Dt ag}(p1:∀ x,x∈xs->x∈M)(p2:(xs.map (·.1)).Nodup){x:Nat×Dt×ag}(hx:x∈M)(hs:(xs.map (·.1)).contains x.1=false):(∀ z,z∈xs++[x]->z∈M)/\((xs++[x]).map (·.1)).Nodup/\x.1∉xs.map (·.1):=by
 have hxt:x.1∉xs.map (·.1):=λ h=>by
  have:(xs.map (·.1)).contains x.1=true:=by simpa only[List.contains_iff_mem] using h
  rw[this] at hs;cases hs
 refine⟨λ z hz=> ?_,?_,hxt⟩
 .rcases List.mem_append.1 hz with hz|hz
  .exact p1 z hz
  .rw[List.mem_singleton.1 hz];exact hx
 .rw[List.map_append,List.nodup_append]
  refine⟨p2,by simp,λ a ha b' hb'=> ?_⟩;simp only[List.map_cons,List.map_nil,List.mem_singleton] at hb';intro e;exact hxt (by rw[<- hb',<- e];exact ha)
section
attribute [local irreducible] SW RW aH SC aj ak
set_option maxHeartbeats 16000000 in
theorem JO (l:List ag)(hl:l.length<1000000000)(hd:∀ o,o∈l->o.kind<256/\o.mC):SB Tryz.prog shape_New.f [ops l] [] 0 11 λ r F=>∃ S,dw l S/\r= .ptr 10 0/\F=S.lS:=by
 obtain⟨a,ca,m,cm,hT⟩:=OA l;refine shape_New.enter (by first|rfl|simp[SV.ok,SV.ax]) (by first|rfl|simp[Hp.ok,Ob.ok,SV.ok,SV.ax,ay.ah]) (by simp) ?_;dsimp only[shape_New.s,Co.M,Co.G,Co.J,Co.H,Co.N,Co.F,Co.C,Co.Z,Co.b8,Co.aB,Co.bH,Co.T,Co.K,Co.E,Co.L,Co.P,Co.x,Co.W,Co.Y,Co.V,Co.U,Co.O,Co.D,Co.A,Co.I,Co.S];have hN:=hT.PC hl;refine SW.seq (SW.g0 ar Zm aa ?_);refine SW.seq ?_;have sp4:b_ (b_ (b_ (b_ [SV.d .dZ,.d .gP,.d .gP,.d .gP] 0 [.ptr 2 0]) 1 [.mp 7]) 2 [.mp 8]) 3 [.mp 9]=[.ptr 2 0,.mp 7,.mp 8,.mp 9]:=rfl;refine SW.g1 ar Zm sp4 hN ?_;have w0:∀ y,y∈(⟨[],0,[],0,[],0,a,ca,m,cm⟩:Sh).lS->lk [(10,.box 117 [.ptr 2 0,.mp 7,.mp 8,.mp 9]),(9,Ob.map [] 0),(8,.map [] 0),(7,.map [] 0),(2,.box 166 [.mp 0,.mp 1]),(0,.map (au Dt.cells cv a) ca),(1,.map (au Dt.cells ov m) cm)] y.1=some y.2:=λ y hy=>by
  simp only[List.mem_cons,List.not_mem_nil,or_false] at hy;rcases hy with rfl|rfl|rfl|rfl|rfl|rfl|rfl<;>rfl
 refine SW.weak id (st1:=⟨[(0,ops l),(3,.ptr 10 0)],(⟨[],0,[],0,[],0,a,ca,m,cm⟩:Sh).lS,11⟩) (aG.same (by simp) (by simp[aJ,List.lookup,SV.aC,SV.ok,SV.ax]) (Sh.oN _ (Nat.le_refl 11)) w0) ?_;refine SW.seq (SW.seq (SW.g0 ar Zm aa ?_));refine SW.block (SW.loop (α:={i:Nat // i<=l.length}) (λ i=>⟨[(21,i64 i.1),(20,i64 l.length),(19,ops l),(3,.ptr 10 0)],(⟨(firstM (l.take i.1)).1,(firstM (l.take i.1)).2,[],0,[],0,a,ca,m,cm⟩:Sh).lS,11⟩) (λ i=>l.length - i.1) ⟨0,by omega⟩ id (aG.same (by simp) (by simp[aJ,List.lookup,SV.aC,SV.ok,SV.ax]) (Sh.oN _ (Nat.le_refl 11)) (aI (Sh.OB _))) ?_);rintro⟨i,hi⟩;dsimp only
 by_cases h:i<l.length
 .have h1:decide ((i:Int)<l.length)=true:=by simp only[decide_eq_true_eq];omega
  obtain⟨x,hx⟩:=aX h;have e2:IntKind.i64.wrap ((i:Int)+1)=((i+1:Nat):Int):=wrap_i64 _ (by omega);have hsn:=ua (l.take i) x;rw[<- dY hx] at hsn;unfold Dk at hsn;obtain⟨M,hM⟩:∃ M,(firstM (l.take i)).1=M:=⟨_,rfl⟩;obtain⟨c,hc⟩:∃ c,(firstM (l.take i)).2=c:=⟨_,rfl⟩;rw[hM,hc] at hsn ⊢;obtain⟨g,hg⟩:∃ g,(MM.get M x.dot).getD ag.zero=g:=⟨_,rfl⟩;have hms:=Dh M c x.dot x;refine SW.seq (SW.g0 ar Zm h1 ?_);refine SW.seq (SW.ai rfl (SW.skip (SW.seq (SW.block (SW.seq (SW.g0 ar Zm (Zq (p_ hx) (Zq (mW hx) (Zq (gW hx) (cF hx)))) ?_))))));refine SW.seq ?_;rcases hh:MM.has M x.dot with _|_
  .rw[hh] at hsn
   simp only[Bool.false_eq_true,if_false] at hsn;refine SW.g0 ar Zm (Zq hh hg) ?_;refine SW.seq (SW.g0 ar Zm aa ?_);refine SW.ai rfl (SW.g0 ar Zm hms ?_);refine SW.g0 ar Zm e2 ?_;refine⟨⟨i+1,by omega⟩,id,by show l.length - (i+1)<l.length - i;omega,?_⟩;dsimp only;rw[hsn];refine aG.same (by simp) (by simp[aJ,List.lookup,SV.aC,SV.ok,SV.ax]) (Sh.oN _ (Nat.le_refl 11)) (λ y hy=> ?_);simp only[List.mem_cons,List.not_mem_nil,or_false] at hy;rcases hy with rfl|rfl|rfl|rfl|rfl|rfl|rfl<;>rfl
  .rw[hh] at hsn
   simp only[if_true] at hsn;refine SW.g0 ar Zm (Zq hh hg) ?_;refine SW.seq (SW.g0 ar Zm aa ?_);refine SW.an rfl (SW.skip (SW.g0 ar Zm e2 ?_));refine⟨⟨i+1,by omega⟩,id,by show l.length - (i+1)<l.length - i;omega,?_⟩;dsimp only;rw[hsn,hM,hc];refine aG.same (by simp) (by simp[aJ,List.lookup,SV.aC,SV.ok,SV.ax]) (Sh.oN _ (Nat.le_refl 11)) (λ y hy=> ?_);simp only[List.mem_cons,List.not_mem_nil,or_false] at hy;rcases hy with rfl|rfl|rfl|rfl|rfl|rfl|rfl<;>rfl
 have h1:decide ((i:Int)<l.length)=false:=by simp only[decide_eq_false_iff_not];omega
 have hi2:i=l.length:=by omega
 subst hi2;rw[List.take_length];have hF:=G7 l;obtain⟨M,hM⟩:∃ M,(firstM l).1=M:=⟨_,rfl⟩;obtain⟨c,hc⟩:∃ c,(firstM l).2=c:=⟨_,rfl⟩;rw[hM,hc] at hF ⊢;refine SW.seq (SW.g0 ar Zm h1 ?_);refine SW.seq (SW.an rfl (SW.exit ?_));refine(?_:Sl.SW _ _ _ _ _ _);refine SW.weak id (st1:=⟨[(3,.ptr 10 0)],(⟨M,c,[],0,[],0,a,ca,m,cm⟩:Sh).lS,11⟩) (aG.same (by simp) (by simp[aJ,List.lookup,SV.aC,SV.ok,SV.ax]) (Sh.oN _ (Nat.le_refl 11)) (aI (Sh.OB _))) ?_;obtain⟨S,hS⟩:∃ S:Sh,(⟨M,c,[],0,[],0,a,ca,m,cm⟩:Sh)=S:=⟨_,rfl⟩;have hB:jP l S:=by
  rw[<- hS];have hnew:=hT.new;have ht:=BZ l 0;rw[hnew] at ht;refine⟨hF,⟨ht.cr,ht.no⟩,λ d=> ?_,(congrArg Tr.at_ hnew).symm,(congrArg Tr.made hnew).symm⟩;obtain⟨L,h2,h3,_⟩:=ht.ux d;exact⟨L,h2,h3⟩
 rw[hS];have hwf:=hB.ops.wf;have hkd:∀ x,x∈S.ops->x.2.2.kind<256/\x.2.2.mC:=λ x hx=>by
  have h1:=r6 hwf.keys hx;rw[hB.ops.get] at h1;exact hd _ (tg h1)
 have hSa:({ S with iL:=[],ca:=0}:Sh)=S/\S.oS=[]/\S.cl=0:=by rw[<- hS];exact⟨rfl,rfl,rfl⟩
 clear hS hN hT w0 hF hM hc;refine SW.seq (SW.seq (SW.g0 ar Zm aa ?_));refine SW.block ?_
 refine SW.pX (es:=λ _=>au Dt.cells ov S.ops) (c:=λ _=>S.co) (uJ:=λ _=>11) (nm:=λ _=>7) (since:=λ _=>S.co) (BL:=λ _=>S.co)
  (α:={p:MM Dt ag×MM Dt Int×Nat // (∀ x,x∈p.1->x∈S.ops)/\(p.1.map (·.1)).Nodup/\ko S p.1 p.2.1 p.2.2})
  (λ p=>⟨[(49,.it 11),(3,.ptr 10 0)],(11,.iter (some 7) S.co (p.1.1.map (·.1)) S.co)::({ S with iL:=p.1.2.1,ca:=p.1.2.2}:Sh).lS,12⟩)
  (λ p=>gy (au Dt.cells ov S.ops) (p.1.1.map (·.1))) ⟨([],[],0),by simp,by simp,MM.lu,λ d v=>by simp[MM.get]⟩ id (seen:=λ p=>p.1.1.map (·.1)) ?_ (λ p=>by simp[List.lookup]) (λ p=>by simp[af]) (λ p=>by simp[af]) (λ p=>by decide) (λ p e he=> ?_) (λ p=>Nat.le_refl _) (λ p hall=> ?_) (λ p e he hs=> ?_)
 .show aG 0 _ ⟨[(49,.it 11),(3,.ptr 10 0)],(11,.iter (some 7) S.co [] S.co)::({ S with iL:=[],ca:=0}:Sh).lS,12⟩ id
  rw[hSa.1];exact aG.same (by simp) (by simp[aJ,List.lookup,SV.aC,SV.ok,SV.ax]) (aA (by simp) (by simp[Ob.ok]) (Sh.oN _ (show 11<=12 by omega))) (aI (by simp))
 .obtain⟨x,hx,rfl⟩:=eM he
  exact hwf.old x hx
 .obtain⟨⟨xs,A,ac⟩,p1,p2,p3⟩:=p
  dsimp only at*;have hxs:=vY hwf p1 hall;refine⟨⟨[(3,.ptr 10 0)],({ S with iL:=A,ca:=ac}:Sh).lS,11⟩,id,aG.same (by simp) (by simp[aJ,List.lookup,SV.aC,SV.ok,SV.ax]) (Sh.oN _ (Nat.le_refl 11)) (λ y hy=>by
   simp only[List.mem_cons,List.not_mem_nil,or_false] at hy;rcases hy with rfl|rfl|rfl|rfl|rfl|rfl|rfl<;>rfl),?_⟩
  rw[if_pos rfl];obtain⟨S1,wV⟩:∃ S1:Sh,({ S with iL:=A,ca:=ac}:Sh)=S1:=⟨_,rfl⟩;have hB1:jP l S1:=by rw[<- wV];exact⟨hB.ops,⟨hB.tok.cr,hB.tok.no⟩,hB.ux,hB.tr,hB.md⟩
  have hA1:ko S1 S1.ops S1.iL S1.ca:=by
   rw[<- wV];exact p3.to hxs λ o ho=>S.tw A ac S.oS S.cl ho
  have hops:S1.ops=S.ops/\S1.co=S.co:=by rw[<- wV];exact⟨rfl,rfl⟩
  have hSb:({ S1 with oS:=[],cl:=0}:Sh)=S1:=by
   rw[<- wV];have h2:=hSa.2.1;have h3:=hSa.2.2;cases S;dsimp only at h2 h3 ⊢;rw[h2,h3]
  rw[wV];have hwf1:=hB1.ops.wf;have hkd1:∀ x,x∈S1.ops->x.2.2.kind<256/\x.2.2.mC:=λ x hx=>hkd x (by rw[<- hops.1];exact hx)
  refine SW.seq (SW.seq (SW.g0 ar Zm aa ?_));refine SW.block ?_
  refine SW.pX (es:=λ _=>au Dt.cells ov S1.ops) (c:=λ _=>S1.co) (uJ:=λ _=>11) (nm:=λ _=>7) (since:=λ _=>S1.co) (BL:=λ _=>S1.co)
   (α:={p:MM Dt ag×MM Dt Dt×Nat // (∀ x,x∈p.1->x∈S1.ops)/\(p.1.map (·.1)).Nodup/\pz S1 p.1 p.2.1 p.2.2})
   (λ p=>⟨[(73,.it 11),(3,.ptr 10 0)],(11,.iter (some 7) S1.co (p.1.1.map (·.1)) S1.co)::({ S1 with oS:=p.1.2.1,cl:=p.1.2.2}:Sh).lS,12⟩)
   (λ p=>gy (au Dt.cells ov S1.ops) (p.1.1.map (·.1))) ⟨([],[],0),by simp,by simp,MM.lu,λ d v=>by simp[MM.get]⟩ id (seen:=λ p=>p.1.1.map (·.1)) ?_ (λ p=>by simp[List.lookup]) (λ p=>by simp[af]) (λ p=>by simp[af]) (λ p=>by decide) (λ p e he=> ?_) (λ p=>Nat.le_refl _) (λ p hall=> ?_) (λ p e he hs=> ?_)
  .show aG 0 _ ⟨[(73,.it 11),(3,.ptr 10 0)],(11,.iter (some 7) S1.co [] S1.co)::({ S1 with oS:=[],cl:=0}:Sh).lS,12⟩ id
   rw[hSb];exact aG.same (by simp) (by simp[aJ,List.lookup,SV.aC,SV.ok,SV.ax]) (aA (by simp) (by simp[Ob.ok]) (Sh.oN _ (show 11<=12 by omega))) (aI (by simp))
  .obtain⟨x,hx,rfl⟩:=eM he
   exact hwf1.old x hx
  .obtain⟨⟨xs2,B,bc⟩,r1,r2,r3⟩:=p
   dsimp only at*;have hxs2:=vY hwf1 r1 hall;refine⟨⟨[(3,.ptr 10 0)],({ S1 with oS:=B,cl:=bc}:Sh).lS,11⟩,id,aG.same (by simp) (by simp[aJ,List.lookup,SV.aC,SV.ok,SV.ax]) (Sh.oN _ (Nat.le_refl 11)) (λ y hy=>by
    simp only[List.mem_cons,List.not_mem_nil,or_false] at hy;rcases hy with rfl|rfl|rfl|rfl|rfl|rfl|rfl<;>rfl),?_⟩
   rw[if_pos rfl];refine SW.seq (SW.g0 ar Zm aa ?_);refine SW.ret ?_;refine End.mk ({ S1 with oS:=B,cl:=bc}:Sh).lS (h4:=⟨{ S1 with oS:=B,cl:=bc},⟨⟨hB1.ops,⟨hB1.tok.cr,hB1.tok.no⟩,hB1.ux,hB1.tr,hB1.md⟩,hA1.to (λ _=>Iff.rfl) λ o ho=> ?_,r3.to hxs2 λ o ho=>S1.AM B bc ho⟩,rfl,rfl⟩) (h6:=Sh.oN _ (Nat.le_refl 11));exact S1.tw S1.iL S1.ca B bc ho
  .obtain⟨⟨xs,B,bc⟩,p1,p2,p3⟩:=p
   dsimp only at*;obtain⟨x,hx,rfl⟩:=eM he;dsimp only at hs;have g5:(xs.map (·.1)++[x.1]).getLast? =some x.1:=by simp
   have g6:=kM (kc:=Dt.cells) (vs:=ov) hwf1.times hx;have eov:∀ o,ov o= .agg o.cells:=λ _=>rfl
   obtain⟨q1,q2,hxt⟩:=tA p1 p2 hx hs;have hu:∀ y,y∈xs->y.2.1≠x.2.1:=λ y hy e=>by
    have h1:=r6 hwf1.keys (p1 y hy);have h2:=r6 hwf1.keys hx;have hp:=List.nodup_iff_pairwise_ne.1 hwf1.keys;unfold MM.keys at hp;rw[List.pairwise_map] at hp;obtain⟨i,hi,e1⟩:=List.getElem_of_mem (p1 y hy);obtain⟨j,hj,e2⟩:=List.getElem_of_mem hx;rcases Nat.lt_trichotomy i j with h|h|h
    .exact List.pairwise_iff_getElem.1 hp i j hi hj h (by rw[e1,e2];exact e)
    .subst h
     exact hxt (List.mem_map.2 ⟨y,hy,by rw[<- e1,<- e2]⟩)
    .exact List.pairwise_iff_getElem.1 hp j i hj hi h (by rw[e1,e2];exact e.symm)
   have em:(xs++[x]).map (·.1)=xs.map (·.1)++[x.1]:=by simp
   have hm:=kN he hs;obtain⟨k1,k2⟩:=hkd1 x hx;rw[je];refine SW.block (SW.seq (SW.g0 ar Zm (Zq g5 (Zq g6 eov)) ?_));refine SW.seq ?_
   by_cases h3:x.2.2.kind=4
   .have z3:(((x.2.2.kind:Nat):Int) == 4)=true:=by rw[h3];rfl
    have hw:∀ k,aH Tryz.prog shape_Shape_Why.f [.ptr 10 0,.agg x.2.2.cells] ({ S1 with oS:=B,cl:=bc}:Sh).lS k 0 (i64 (S1.fL x.2.2)) ({ S1 with oS:=B,cl:=bc}:Sh).lS:=λ k=>by
     have:=Sh.Li { S1 with oS:=B,cl:=bc} hB1.ux x.2.2 k1 k2 k;rw[show Sh.fL { S1 with oS:=B,cl:=bc} x.2.2=S1.fL x.2.2 from S1.AM B bc h3] at this;exact this
    by_cases h0:S1.fL x.2.2=0
    .have z0:(((S1.fL x.2.2:Nat):Int) == 0)=true:=by rw[h0];rfl
     refine SW.g1 ar Zm (Zq z3 z0) hw ?_;refine SW.ai rfl (SW.g0 ar Zm (JC B bc x.2.1 x.2.2.at_) ?_);refine⟨⟨(xs++[x],MM.put B bc x.2.1 x.2.2.at_,MM.jy B bc x.2.1),q1,q2,p3.put ⟨h3,h0⟩ hu⟩,id,by rw[em];exact hm,?_⟩;dsimp only;rw[em];refine aG.same (by simp) (by simp[aJ,List.lookup,SV.aC,SV.ok,SV.ax]) (aA (by simp) (by simp[Ob.ok]) (Sh.oN _ (show 11<=12 by omega))) (λ y hy=> ?_);simp only[List.mem_cons,List.not_mem_nil,or_false] at hy;rcases hy with rfl|rfl|rfl|rfl|rfl|rfl|rfl|rfl<;>rfl
    ·
     have z0:(((S1.fL x.2.2:Nat):Int) == 0)=false:=by simpa using h0
     refine SW.g1 ar Zm (Zq z3 z0) hw ?_;refine SW.an rfl (SW.skip ?_);refine⟨⟨(xs++[x],B,bc),q1,q2,p3.skip λ h=>h0 h.2⟩,id,by rw[em];exact hm,?_⟩;dsimp only;rw[em];refine aG.same (by simp) (by simp[aJ,List.lookup,SV.aC,SV.ok,SV.ax]) (aA (by simp) (by simp[Ob.ok]) (Sh.oN _ (show 11<=12 by omega))) (λ y hy=> ?_);simp only[List.mem_cons,List.not_mem_nil,or_false] at hy;rcases hy with rfl|rfl|rfl|rfl|rfl|rfl|rfl|rfl<;>rfl
   .have z3:(((x.2.2.kind:Nat):Int) == 4)=false:=by simp;omega
    refine SW.g0 ar Zm z3 ?_;refine SW.an rfl (SW.skip ?_);refine⟨⟨(xs++[x],B,bc),q1,q2,p3.skip λ h=>h3 h.1⟩,id,by rw[em];exact hm,?_⟩;dsimp only;rw[em];refine aG.same (by simp) (by simp[aJ,List.lookup,SV.aC,SV.ok,SV.ax]) (aA (by simp) (by simp[Ob.ok]) (Sh.oN _ (show 11<=12 by omega))) (λ y hy=> ?_);simp only[List.mem_cons,List.not_mem_nil,or_false] at hy;rcases hy with rfl|rfl|rfl|rfl|rfl|rfl|rfl|rfl<;>rfl
 .obtain⟨⟨xs,A,ac⟩,p1,p2,p3⟩:=p
  dsimp only at*;obtain⟨x,hx,rfl⟩:=eM he;dsimp only at hs;have g5:(xs.map (·.1)++[x.1]).getLast? =some x.1:=by simp
  have g6:=kM (kc:=Dt.cells) (vs:=ov) hwf.times hx;have eov:∀ o,ov o= .agg o.cells:=λ _=>rfl
  obtain⟨q1,q2,_⟩:=tA p1 p2 hx hs;have em:(xs++[x]).map (·.1)=xs.map (·.1)++[x.1]:=by simp
  have hm:=kN he hs;obtain⟨k1,k2⟩:=hkd x hx;rw[je];refine SW.block (SW.seq (SW.g0 ar Zm (Zq g5 (Zq g6 eov)) ?_));refine SW.seq ?_
  by_cases h3:x.2.2.kind=3
  .have z3:(((x.2.2.kind:Nat):Int) == 3)=true:=by rw[h3];rfl
   have hw:∀ k,aH Tryz.prog shape_Shape_Why.f [.ptr 10 0,.agg x.2.2.cells] ({ S with iL:=A,ca:=ac}:Sh).lS k 0 (i64 (S.fL x.2.2)) ({ S with iL:=A,ca:=ac}:Sh).lS:=λ k=>by
    have:=Sh.Li { S with iL:=A,ca:=ac} hB.ux x.2.2 k1 k2 k;rw[show Sh.fL { S with iL:=A,ca:=ac} x.2.2=S.fL x.2.2 from S.tw A ac S.oS S.cl h3] at this;exact this
   by_cases h0:S.fL x.2.2=0
   .have z0:(((S.fL x.2.2:Nat):Int) == 0)=true:=by rw[h0];rfl
    refine SW.g1 ar Zm (Zq z3 z0) hw ?_;refine SW.ai rfl (SW.g0 ar Zm aa ?_);refine⟨⟨(xs++[x],MM.put A ac x.2.1 1,MM.jy A ac x.2.1),q1,q2,p3.put ⟨h3,h0⟩⟩,id,by rw[em];exact hm,?_⟩;dsimp only;rw[em];refine aG.same (by simp) (by simp[aJ,List.lookup,SV.aC,SV.ok,SV.ax]) (aA (by simp) (by simp[Ob.ok]) (Sh.oN _ (show 11<=12 by omega))) (λ y hy=> ?_);simp only[List.mem_cons,List.not_mem_nil,or_false] at hy;rcases hy with rfl|rfl|rfl|rfl|rfl|rfl|rfl|rfl<;>rfl
   ·
    have z0:(((S.fL x.2.2:Nat):Int) == 0)=false:=by simpa using h0
    refine SW.g1 ar Zm (Zq z3 z0) hw ?_;refine SW.an rfl (SW.skip ?_);refine⟨⟨(xs++[x],A,ac),q1,q2,p3.skip λ h=>h0 h.2⟩,id,by rw[em];exact hm,?_⟩;dsimp only;rw[em];refine aG.same (by simp) (by simp[aJ,List.lookup,SV.aC,SV.ok,SV.ax]) (aA (by simp) (by simp[Ob.ok]) (Sh.oN _ (show 11<=12 by omega))) (λ y hy=> ?_);simp only[List.mem_cons,List.not_mem_nil,or_false] at hy;rcases hy with rfl|rfl|rfl|rfl|rfl|rfl|rfl|rfl<;>rfl
  .have z3:(((x.2.2.kind:Nat):Int) == 3)=false:=by simp;omega
   refine SW.g0 ar Zm z3 ?_;refine SW.an rfl (SW.skip ?_);refine⟨⟨(xs++[x],A,ac),q1,q2,p3.skip λ h=>h3 h.1⟩,id,by rw[em];exact hm,?_⟩;dsimp only;rw[em];refine aG.same (by simp) (by simp[aJ,List.lookup,SV.aC,SV.ok,SV.ax]) (aA (by simp) (by simp[Ob.ok]) (Sh.oN _ (show 11<=12 by omega))) (λ y hy=> ?_);simp only[List.mem_cons,List.not_mem_nil,or_false] at hy;rcases hy with rfl|rfl|rfl|rfl|rfl|rfl|rfl|rfl<;>rfl
end
end
section
def pE (S:Sh):Prop:=∀ d o,MM.get S.ops d=some o->o.kind<256/\o.mC/\o.cl.length<=1048576
noncomputable def Sh.good (S:Sh)(d:Dt):Bool:=MM.has S.ops d && decide (S.fL (S.op d)=0)
theorem Lj (o:ag):b_ o.cells 28 [.d o.lines]=o.cells:=rfl
section
attribute [local irreducible] SW RW aH SC aj ak
theorem tB (cl:List Cm)(hl:cl.length<=1048576):Go.Sl.Pure Tryz.prog slices_Clone_Lapi_Claim_api_Claim.f [.d (.sl cl.length (cl.flatMap Cm.ds))] (.d (.sl cl.length (cl.flatMap Cm.ds))):=by
 refine slices_Clone_Lapi_Claim_api_Claim.enter (by first|rfl|simp[SV.ok,SV.ax]) (by first|rfl|simp[Hp.ok,Ob.ok,SV.ok,SV.ax,ay.ah]) (by simp) ?_;dsimp only[slices_Clone_Lapi_Claim_api_Claim.s,Co.M,Co.J,Co.F,Co.S];refine SW.seq (SW.g0 dE Zm aa ?_);refine SW.seq (SW.seq (SW.N9 (n:=cl.length) (cs:=cl.flatMap Cm.ds) rfl ?_ λ h0=> ?_))
 .refine SW.an rfl (SW.skip ?_)
  refine(?_:Sl.SW _ _ _ _ _ _);refine SW.seq ?_;have hlen:cl.length*4=cl.length*4:=rfl;refine SW.g0 dE Zm aa ?_;refine SW.freeze 1 (cl.flatMap Cm.ds) rfl (by simp) ?_;simp only[k9,SV.iJ,List.map_cons,List.map_nil,if_true,if_false,reduceIte,c_,Nat.reduceEqDiff];refine SW.ret ?_;exact End.mk [] (h4:=⟨by simp[fB],rfl⟩)
 .have hl0:cl=[]:=List.eq_nil_of_length_eq_zero h0
  subst hl0;refine SW.ai rfl (SW.seq (SW.g0 dE Zm aa ?_));refine SW.aL 2 rfl ?_;refine SW.ret ?_;exact End.mk [] (h4:=⟨rfl,rfl⟩)
theorem Ee:Go.Sl.Pure Tryz.prog slices_Clone_Lapi_Claim_api_Claim.f [.d .aL] (.d .aL):=by
 refine slices_Clone_Lapi_Claim_api_Claim.enter (by first|rfl|simp[SV.ok,SV.ax]) (by first|rfl|simp[Hp.ok,Ob.ok,SV.ok,SV.ax,ay.ah]) (by simp) ?_;dsimp only[slices_Clone_Lapi_Claim_api_Claim.s,Co.M,Co.J,Co.F,Co.S];(repeat (first|refine SW.seq ?_|refine SW.block ?_|refine SW.g0 dE Zm aa ?_|refine SW.skip ?_|refine SW.exit ?_|refine SW.ret ?_|refine SW.ai rfl ?_|refine SW.an rfl ?_));exact End.mk [] (h4:=⟨rfl,rfl⟩)
theorem Mv (S:Sh)(hs:pE S)(d:Dt)(k:Nat):aH Tryz.prog slices_Clone_Lapi_Claim_api_Claim.f [.d (S.op d).lines] [] k 0 (.d (S.op d).lines) []:=by
 unfold Sh.op;cases h:MM.get S.ops d with
 | none=>exact Ee.sc rfl k
 | some o=>
  obtain⟨_,h1,h2⟩:=hs d o h;have:=(tB o.cl h2).sc rfl k
  rwa [<- h1.eq] at this
set_option maxHeartbeats 4000000 in
theorem G8 (S:Sh)(hs:pE S)(d:Dt):SB Tryz.prog shape_Shape_Op.f [.ptr 0 0,.agg d.cells] S.h0 7 0 λ r F=>r= .dL [.agg (S.op d).cells,bl (MM.has S.ops d)]/\F=S.h0:=by
 refine shape_Shape_Op.enter (by simp[SV.ax,SV.ok]) (S.ok (Nat.le_refl 7)) (by simp) ?_;dsimp only[shape_Shape_Op.s,Co.M,Co.J,Co.F,Co.B,Co.bH,Co.T,Co.K,Co.E,Co.P,Co.x,Co.W,Co.D,Co.A,Co.S];have hn:=uR S;have hc:=Mv S hs d;obtain⟨o,ho⟩:∃ o,S.op d=o:=⟨_,rfl⟩;have hg:(MM.get S.ops d).getD ag.zero=o:=ho;rw[ho] at hc ⊢;have Pd:=Lj o;refine SW.seq (SW.g0 hY Zm aa ?_);refine SW.seq (SW.seq (SW.g1 hY Zm aa hn ?_));refine SW.an rfl (SW.skip (SW.seq (SW.g0 hY Zm hg ?_)));refine SW.seq (SW.g1 hY Zm Pd hc ?_);refine SW.seq (SW.g0 hY Zm aa ?_);refine SW.ret ?_;exact End.mk S.h0 (h4:=⟨rfl,rfl⟩) (h6:=S.ok (Nat.le_refl 7))
theorem OC (S:Sh)(hs:pE S)(d:Dt)(k:Nat):aH Tryz.prog shape_Shape_Op.f [.ptr 0 0,.agg d.cells] S.h0 k 0 (.dL [.agg (S.op d).cells,bl (MM.has S.ops d)]) S.h0:=
 S.at_ (G8 S hs d) (λ ρ=>by simp[SV.aN,SV.aC,Dt.aq]) (λ ρ=>by simp[SV.aN,SV.aC,ag.aq]) n0 rY k
set_option maxHeartbeats 4000000 in
theorem G9 (S:Sh)(hu:S.ux)(hs:pE S)(d:Dt):SB Tryz.prog shape_Shape_Good.f [.ptr 0 0,.agg d.cells] S.h0 7 0 λ r F=>r=bl (S.good d)/\F=S.h0:=by
 refine shape_Shape_Good.enter (by simp[SV.ax,SV.ok]) (S.ok (Nat.le_refl 7)) (by simp) ?_;dsimp only[shape_Shape_Good.s,Co.M,Co.G,Co.J,Co.H,Co.F,Co.C,Co.Z,Co.B,Co.bH,Co.K,Co.E,Co.Q,Co.x,Co.W,Co.U,Co.S];have hc:=OC S hs d;obtain⟨o,ho⟩:∃ o,S.op d=o:=⟨_,rfl⟩;have hG:S.good d=(MM.has S.ops d && decide (S.fL o=0)):=by unfold Sh.good;rw[ho]
 rw[ho] at hc;refine SW.seq (SW.g0 ju Zm aa ?_);refine SW.seq (SW.g1 ju Zm aa hc ?_);refine SW.seq ?_;rcases h:MM.has S.ops d with _|_
 .refine SW.g0 ju Zm aa ?_
  refine SW.ret ?_;exact End.mk S.h0 (h4:=⟨by rw[hG,h];rfl,rfl⟩) (h6:=S.ok (Nat.le_refl 7))
 obtain⟨o',ho'⟩:=Option.isSome_iff_exists.1 (show(MM.get S.ops d).isSome=true from h);have e:o'=o:=by rw[<- ho];unfold Sh.op;rw[ho'];rfl
 subst e;obtain⟨k1,k2,_⟩:=hs d o' ho';have hw:∀ k,aH Tryz.prog shape_Shape_Why.f [.ptr 0 0,.agg o'.cells] S.h0 k 0 (i64 (S.fL o')) S.h0:=λ k=>S.Oz hu o' k1 k2 n0 rY k
 have hz:(((S.fL o':Nat):Int) == 0)=decide (S.fL o'=0):=by rw[Bool.eq_iff_iff];simp
 refine SW.g1 ju Zm hz hw ?_;refine SW.ret ?_;exact End.mk S.h0 (h4:=⟨by rw[hG,h];simp[fB],rfl⟩) (h6:=S.ok (Nat.le_refl 7))
theorem G_ (S:Sh)(hu:S.ux)(hs:pE S)(d:Dt)(n:Sn)(hn:n.ok)(k:Nat):aH Tryz.prog shape_Shape_Good.f [.ptr n.b 0,.agg d.cells] (S.hp n) k 0 (bl (S.good d)) (S.hp n):=
 S.at_ (G9 S hu hs d) (λ ρ=>by simp[SV.aN,SV.aC,Dt.aq]) (λ _=>rfl) n hn k
end
end
section
def uy (l:List ag)(d:Dt):ag:=(a_ l d).getD ag.zero
def oO (l:List ag)(d:Dt)(o:ag):Bool:=(a_ l d).isSome && (uy l d).before o
def uc (l:List ag)(o:ag):Bool:=if o.kind=0 then decide (o.aK=o.dot) else (a_ l o.aK).isSome && (decide ((uy l o.aK).kind=0) && (decide ((uy l o.aK).aK=(uy l o.aK).dot) && (uy l o.aK).before o))
def r7 (l:List ag)(tr:MM Dt Cr)(d:Dt)(o:ag):Bool:=MM.has tr d && (decide (((MM.get tr d).getD Cr.zero).aK=o.aK) && oO l d o)
def vZ (tr:MM Dt Cr)(md:MM Dt ag)(o:ag):Nat:=Tr.why ⟨0,1,2,tr,0,md,0⟩ o
def ox (l:List ag)(tr:MM Dt Cr)(md:MM Dt ag)(o:ag)(t:Bool):Nat:=
 if decide ((o.kind:Int)>8) then 2 else if !uc l o then 271 else if !((o.kind:Int) == 0) && !r7 l tr o.aP o then 272 else if !((o.kind:Int) == 0) && ((((MM.get tr o.aP).getD Cr.zero).hold:Int) != (o.who:Int)) then 273
 else if oG ((MM.get tr o.aP).getD Cr.zero) o.kind then 274 else if decide (o.kind=1) && decide (vZ tr md o≠0) then 275 else if !t then 276 else 0
def B1 (l:List ag)(tr:MM Dt Cr)(md:MM Dt ag)(d:Dt):Bool:=match a_ l d with
 | some o=>decide (o.kind=3) && decide (ox l tr md o true=0)
 | none=>false
def mY (l:List ag)(tr:MM Dt Cr)(md:MM Dt ag)(d:Dt)(o:ag):Bool:=B1 l tr md d && (decide ((uy l d).aK=o.aK) && oO l d o)
def v7 (l:List ag)(tr:MM Dt Cr)(md:MM Dt ag)(d:Dt):Option Dt:=match a_ l d with
 | some o=>if o.kind=4/\ox l tr md o (mY l tr md o.at_ o)=0 then some o.at_ else none
 | none=>none
def AN (l:List ag)(tr:MM Dt Cr)(md:MM Dt ag)(c:Cm)(o:ag):Bool:=mY l tr md c.line o && (decide (c.jA=c.line) || ((v7 l tr md c.jA).isSome && (decide ((v7 l tr md c.jA).getD ⟨0,0⟩=c.line) && oO l c.jA o)))
def Ef (l:List ag)(tr:MM Dt Cr)(md:MM Dt ag)(o:ag)(ab:Bool):Bool:=
 if o.kind=2 then r7 l tr o.at_ o && ab else if o.kind=4\/o.kind=5 then mY l tr md o.at_ o else if o.kind=6\/o.kind=7 then AN l tr md ⟨o.at_,o.jA⟩ o else if o.kind=8 then !(o.cl.any λ c=> !AN l tr md c o) else true
def zi (l:List ag)(tr:MM Dt Cr)(md:MM Dt ag)(o:ag)(ab:Bool):Nat:=ox l tr md o (Ef l tr md o ab)
section
variable {l:List ag} {S:Sh} (hB:jP l S)
include hB
theorem jP.op (d:Dt):S.op d=uy l d:=by unfold Sh.op uy;rw[hB.ops.get]
theorem jP.has (d:Dt):MM.has S.ops d=(a_ l d).isSome:=by unfold MM.has;rw[hB.ops.get]
theorem jP.uL (d:Dt)(o:ag):S.uL d o=oO l d o:=by unfold Sh.uL oO;rw[hB.op,hB.has]
theorem jP.aK (o:ag):S.aK o=uc l o:=by unfold Sh.aK uc;rw[hB.op,hB.has]
theorem jP.ze (d:Dt)(o:ag):S.ze d o=r7 l S.tr d o:=by unfold Sh.ze r7 Sh.cr;rw[hB.uL]
theorem jP.Mw (o:ag):S.T.why o=vZ S.tr S.md o:=rfl
theorem jP.why (o:ag)(ab:Bool):S.why o ab=ox l S.tr S.md o (S.tgt o ab):=by
 unfold Sh.why ox;rw[<- hB.aK,<- hB.ze,<- hB.Mw];rfl
end
theorem jP.OD {l:List ag}{S:Sh}(hB:jP l S){o:ag}(hk:o.kind=3):S.fL o=ox l S.tr S.md o true:=by
 unfold Sh.fL;rw[hB.why];have:S.tgt o (S.IQ o.aP o.at_)=true:=by unfold Sh.tgt;rw[if_neg (by omega),if_neg (by omega),if_neg (by omega),if_neg (by omega)]
 rw[this]
section
variable {l:List ag} {S:Sh} (h:dw l S)
include h
theorem dw.add (d:Dt):decide (0<(MM.get S.iL d).getD 0)=B1 l S.tr S.md d:=by
 rw[Bool.eq_iff_iff,decide_eq_true_eq];unfold B1;constructor
 .intro h1
  cases hg:MM.get S.iL d with
  | none=>rw[hg] at h1;exact absurd h1 (by decide)
  | some v=>
   obtain⟨_,x,hx,e,h3,h4⟩:=(h.iL.2 d v).1 hg;have h5:=r6 h.base.ops.wf.keys hx;rw[e,h.base.ops.get] at h5;rw[h5];rw[h.base.OD h3] at h4;simp[h3,h4]
 .intro h1
  cases ho:a_ l d with
  | none=>rw[ho] at h1;cases h1
  | some o=>
   rw[ho] at h1;simp only[Bool.and_eq_true,decide_eq_true_eq] at h1;obtain⟨x,hx,e1,e2⟩:=get_mem (show MM.get S.ops d=some o by rw[h.base.ops.get];exact ho);have h2:=(h.iL.2 d 1).2 ⟨rfl,x,hx,e1,by rw[e2];exact h1.1,by rw[e2,h.base.OD h1.1];exact h1.2⟩;rw[h2];decide
theorem dw.line (d:Dt)(o:ag):S.line d o=mY l S.tr S.md d o:=by unfold Sh.line mY;rw[h.add,h.base.op,h.base.uL]
theorem dw.set (d:Dt):MM.get S.oS d=v7 l S.tr S.md d:=by
 have hw:∀ o:ag,o.kind=4->S.fL o=ox l S.tr S.md o (mY l S.tr S.md o.at_ o):=λ o hk=>by
  unfold Sh.fL;rw[h.base.why,<- h.line];have:S.tgt o (S.IQ o.aP o.at_)=S.line o.at_ o:=by unfold Sh.tgt;rw[if_neg (by omega),if_pos (.inl hk)]
  rw[this]
 refine Option.ext λ v=> ?_
 rw[h.oS.2];unfold v7;constructor
 .rintro⟨x,hx,e,h3,h4,rfl⟩
  have h5:=r6 h.base.ops.wf.keys hx;rw[e,h.base.ops.get] at h5;rw[h5];rw[hw _ h3] at h4;exact if_pos ⟨h3,h4⟩
 .intro h1
  cases ho:a_ l d with
  | none=>rw[ho] at h1;cases h1
  | some o=>
   rw[ho] at h1;dsimp only at h1
   split at h1
   .rename_i h2
    injection h1 with h1;obtain⟨x,hx,e1,e2⟩:=get_mem (show MM.get S.ops d=some o by rw[h.base.ops.get];exact ho);exact⟨x,hx,e1,by rw[e2];exact h2.1,by rw[e2,hw _ h2.1];exact h2.2,by rw[e2];exact h1.symm⟩
   .cases h1
theorem dw.tu (c:Cm)(o:ag):S.tu c o=AN l S.tr S.md c o:=by
 unfold Sh.tu AN MM.has;rw[h.line,h.set,h.base.uL]
theorem dw.tgt (o:ag)(ab:Bool):S.tgt o ab=Ef l S.tr S.md o ab:=by
 unfold Sh.tgt Ef;simp only[h.line,h.tu,h.base.ze]
theorem dw.why (o:ag)(ab:Bool):S.why o ab=zi l (bg l).at_ (bg l).made o ab:=by
 unfold zi;rw[h.base.why,h.tgt,h.base.tr,h.base.md]
theorem dw.fL (o:ag):S.fL o=zi l (bg l).at_ (bg l).made o (lM (bg l).at_ o.aP o.at_ (mX (bg l).at_ o.at_)):=by
 unfold Sh.fL;rw[h.why];unfold Sh.IQ;rw[h.base.tr]
end
end
section
theorem qT (c:Cr):oG c 0=false:=by
 unfold oG;have h:(kg 0:Int)=((0:Nat):Int):=rfl;rw[h,and_eq];simp
structure j9 (t l:List ag)(A:ag->Prop):Prop where
 uniq:j8 l
 AL:j8 t
 sub:∀ o,o∈t->o∈l
 vF:∀ o,A o->o∈t
 Mn:∀ o a,A o->a∈l->a.before o=true->a.aK=o.aK->A a
theorem Eg {l:List ag}:∀ (m:Nat) (d:Dt) (a:ag),(eB l m d).2=true->a_ l d=some a->(eB l m d).1.aK=a.aK
 | 0,d,a,h,hf=>by cases h
 | m +1,d,a,h,hf=>by
  simp only[eB,hf] at h ⊢
  by_cases hk:a.kind=0
  .rw[if_pos hk] at h ⊢
   exact(of_decide_eq_true h).symm
  .rw[if_neg hk] at h ⊢
   by_cases hw:(fQ l (eB l m a.aP) a).2≠0
   .rw[if_pos hw] at h;cases h
   .rw[if_neg hw]
theorem r8 {l:List ag}{g:Cr×Bool}{o:ag}(h:gH l g o=true):(fQ l g o).2≠0:=by
 unfold fQ
 by_cases hk:o.kind≠1
 .rw[if_pos hk];show(2:Nat)≠0;decide
 .rw[if_neg hk,if_pos h];show(272:Nat)≠0;decide
theorem tC {l:List ag}(m:Nat){d:Dt}(h:a_ l d=none):(eB l m d).2=false:=by
 cases m with
 | zero=>simp only[eB]
 | succ m=>simp only[eB,h]
theorem Dl {l:List ag}{m:Nat}{o a:ag}(hf:a_ l o.aP=some a)(h: ¬ (a.before o=true/\a.aK=o.aK)):gH l (eB l m o.aP) o=true:=by
 unfold gH;cases hg:(eB l m o.aP).2 with
 | false=>rfl
 | true=>
  rw[Eg m o.aP a hg hf,hf]
  by_cases hc:a.aK=o.aK
  .have:a.before o=false:=by
    rw[Bool.eq_false_iff];exact λ hb=>h ⟨hb,hc⟩
   simp[this]
  .simp[hc]
theorem lX.aK {l:List ag}{U:Tr}(hU:lX l U){d:Dt}{c:Cr}(hc:MM.get U.at_ d=some c):∃ a,a_ l d=some a/\c.aK=a.aK:=by
 obtain⟨a,_,ha⟩:=hU.cr d c hc;refine⟨a,ha.fd,?_⟩;rcases ha.how with⟨_,h2,h3⟩|⟨p,q,_,_,hb⟩
 .rw[h3];show a.dot=a.aK;rw[h2,fK ha.fd]
 .rw[hb.is]
section
variable {t l:List ag} {A:ag->Prop} (h:j9 t l A)
include h
theorem j9.up {d:Dt}{o:ag}(hf:a_ t d=some o):a_ l d=some o:=by
 obtain⟨h1,rfl⟩:=fZ hf;exact h.uniq.find (h.sub o h1)
theorem j9.at_ {d:Dt}{o:ag}(hf:a_ l d=some o)(ha:A o):a_ t d=some o:=by
 rw[<- fK hf];exact h.AL.find (h.vF o ha)
theorem j9.down {d:Dt}{o a:ag}(ho:A o)(hf:a_ l d=some a)(hb:a.before o=true)(hc:a.aK=o.aK):A a:=h.Mn o a ho (fZ hf).1 hb hc
theorem j9.fQ (m:Nat){o:ag}(ho:A o)(ih:∀ a,a_ l o.aP=some a->A a->eB t m o.aP=eB l m o.aP):
  Go.Proofs.YtaelhkkjgfobhaaGreat.fQ t (eB t m o.aP) o=Go.Proofs.YtaelhkkjgfobhaaGreat.fQ l (eB l m o.aP) o\/(Go.Proofs.YtaelhkkjgfobhaaGreat.fQ t (eB t m o.aP) o).2≠0/\(Go.Proofs.YtaelhkkjgfobhaaGreat.fQ l (eB l m o.aP) o).2≠0:=by
 cases hf:a_ l o.aP with
 | none=>
  have hn:a_ t o.aP=none:=by
   cases ht:a_ t o.aP with
   | none=>rfl
   | some a=>rw[h.up ht] at hf;cases hf
  refine .inr ⟨r8 ?_,r8 ?_⟩
  .unfold gH;rw[tC m hn];rfl
  .unfold gH;rw[tC m hf];rfl
 | some a=>
  by_cases hb:a.before o=true/\a.aK=o.aK
  .have haa:=h.down ho hf hb.1 hb.2
   refine .inl ?_;rw[ih a hf haa];unfold Go.Proofs.YtaelhkkjgfobhaaGreat.fQ gH;rw[h.at_ hf haa,hf]
  .refine .inr ⟨r8 ?_,r8 (Dl hf hb)⟩
   cases ht:a_ t o.aP with
   | none=>unfold gH;rw[tC m ht];rfl
   | some b=>
    have:=h.up ht;rw[hf] at this;injection this with this;subst this;exact Dl ht hb
theorem j9.eB:∀ (m:Nat) (d:Dt) (o:ag),a_ l d=some o->A o->Go.Proofs.YtaelhkkjgfobhaaGreat.eB t m d=Go.Proofs.YtaelhkkjgfobhaaGreat.eB l m d
 | 0,d,o,_,_=>by simp only[Go.Proofs.YtaelhkkjgfobhaaGreat.eB]
 | m +1,d,o,hf,ho=>by
  simp only[Go.Proofs.YtaelhkkjgfobhaaGreat.eB,hf,h.at_ hf ho]
  by_cases hk:o.kind=0
  .rw[if_pos hk,if_pos hk]
  .rw[if_neg hk,if_neg hk]
   rcases h.fQ m ho (λ a h1 h2=>j9.eB m _ a h1 h2) with hw|⟨n1,n2⟩
   .rw[hw]
   .rw[if_pos n1,if_pos n2]
variable {T U:Tr} (hT:lX t T) (hU:lX l U)
include hT hU
theorem j9.get {d:Dt}{o:ag}(hf:a_ l d=some o)(ho:A o):MM.get T.at_ d=MM.get U.at_ d:=by
 obtain⟨a1,a2⟩:=hT.get d;obtain⟨b1,b2⟩:=hU.get d;have e:=h.eB 10 d o hf ho;cases g1:MM.get T.at_ d with
 | some c=>
  have:=a2 c g1;rw[e] at this;cases g2:MM.get U.at_ d with
  | some c'=>rw[b2 c' g2] at this;cases this;rfl
  | none=>
   have b1:(Go.Proofs.YtaelhkkjgfobhaaGreat.eB l 10 d).2=(MM.get U.at_ d).isSome:=b1;rw[g2,this] at b1;cases b1
 | none=>
  have a1:(Go.Proofs.YtaelhkkjgfobhaaGreat.eB t 10 d).2=(MM.get T.at_ d).isSome:=a1;rw[g1,e] at a1;cases g2:MM.get U.at_ d with
  | some c'=>rw[b2 c' g2] at a1;cases a1
  | none=>rfl
theorem j9.ux {oc:Option Cr}{L:List Cr}(hL:pg T.at_ oc L):(∀ c,oc=some c->∃ d o,MM.get T.at_ d=some c/\a_ l d=some o/\A o)->pg U.at_ oc L:=by
 induction hL with
 | none=>intro _;exact .none
 | root c hc=>intro _;exact .root c hc
 | more c L hc h2 ih=>
  intro hx;obtain⟨d,x,hd,hx,hax⟩:=hx c rfl;obtain⟨o,p,q,ho,hq,hp,hb⟩:=hT.above hd hc;have e1:o=x:=by have:=h.up ho;rw[hx] at this;injection this with this;exact this.symm
  subst e1;obtain⟨q',hq',hc'⟩:=hT.aK hp;rw[hq] at hq';injection hq' with hq';subst hq';have haq:A q:=h.down hax (h.up hq) hb.uL (by rw[<- hc',hb.aK]);have e:=h.get hT hU (h.up hq) haq;refine .more c L hc ?_;rw[<- e];exact ih λ c' hc''=>⟨c.par,q,hc'',h.up hq,haq⟩
theorem j9.OE {d:Dt}{o:ag}(hf:a_ l d=some o)(ho:A o):mX T.at_ d=mX U.at_ d:=by
 obtain⟨L,hL,_⟩:=hT.ux d;have e:=h.get hT hU hf ho;have:=h.ux hT hU hL λ c hc=>⟨d,o,hc,hf,ho⟩
 rw[e] at this;rw[gI hL,gI this]
end
end
section
noncomputable def jQ (l:List ag)(o:ag):Nat:=zi l (bg l).at_ (bg l).made o (lM (bg l).at_ o.aP o.at_ (mX (bg l).at_ o.at_))
theorem Dm (l:List ag)(o:ag):vZ (bg l).at_ (bg l).made o=(fQ l (eB l 10 o.aP) o).2:=((eW l).why o).symm
theorem bD {l:List ag}{d:Dt}{a:ag}(h:a_ l d=some a):uy l d=a:=by unfold uy;rw[h];rfl
theorem r9 {l:List ag}{d:Dt}{o:ag}:r7 l (bg l).at_ d o=true↔∃ c a,MM.get (bg l).at_ d=some c/\a_ l d=some a/\a.before o=true/\a.aK=o.aK/\c.aK=o.aK:=by
 unfold r7 MM.has oO;constructor
 .intro h
  simp only[Bool.and_eq_true,decide_eq_true_eq] at h;obtain⟨h1,h2,h3,h4⟩:=h;obtain⟨c,hc⟩:=Option.isSome_iff_exists.1 h1;obtain⟨a,ha,e⟩:=(eW l).aK hc;rw[bD ha] at h4;rw[hc] at h2;have h2:c.aK=o.aK:=h2;exact⟨c,a,hc,ha,h4,by rw[<- e,h2],h2⟩
 .rintro⟨c,a,h1,h2,h3,h4,h5⟩
  rw[h1,bD h2,h2];simp[h3,h5]
theorem oy {l:List ag}{tr:MM Dt Cr}{md:MM Dt ag}{d:Dt}{o:ag}:mY l tr md d o=(B1 l tr md d && (oO l d o && decide ((uy l d).aK=o.aK))):=by
 unfold mY;rw[Bool.and_comm (decide _)]
theorem tD {l:List ag}{d:Dt}{o:ag}(hl:(oO l d o && decide ((uy l d).aK=o.aK))=true):∃ a,a_ l d=some a/\a.before o=true/\a.aK=o.aK:=by
 unfold oO at hl;simp only[Bool.and_eq_true,decide_eq_true_eq] at hl;obtain⟨⟨h1,h2⟩,h3⟩:=hl;obtain⟨a,ha⟩:=Option.isSome_iff_exists.1 h1;rw[bD ha] at h2 h3;exact⟨a,ha,h2,h3⟩
section
variable {t l:List ag} {A:ag->Prop} (h:j9 t l A)
include h
theorem j9.yJ {d:Dt}{o:ag}(hf:a_ l d=some o)(ho:A o):MM.get (bg t).at_ d=MM.get (bg l).at_ d:=h.get (eW t) (eW l) hf ho
theorem j9.ze (d:Dt){o:ag}(ho:A o):r7 t (bg t).at_ d o=r7 l (bg l).at_ d o:=by
 rw[Bool.eq_iff_iff,r9,r9];constructor
 .rintro⟨c,a,h1,h2,h3,h4,h5⟩
  have hl:=h.up h2;exact⟨c,a,by rw[<- h.yJ hl (h.down ho hl h3 h4)];exact h1,hl,h3,h4,h5⟩
 .rintro⟨c,a,h1,h2,h3,h4,h5⟩
  have ha:=h.down ho h2 h3 h4;exact⟨c,a,by rw[h.yJ h2 ha];exact h1,h.at_ h2 ha,h3,h4,h5⟩
theorem j9.B2 {d:Dt}{o:ag}(ho:A o)(hc:r7 l (bg l).at_ d o=true):MM.get (bg t).at_ d=MM.get (bg l).at_ d/\mX (bg t).at_ d=mX (bg l).at_ d:=by
 obtain⟨c,a,h1,h2,h3,h4,h5⟩:=r9.1 hc;have ha:=h.down ho h2 h3 h4;exact⟨h.yJ h2 ha,h.OE (eW t) (eW l) h2 ha⟩
theorem j9.look (d:Dt){o:ag}(ho:A o):(oO t d o && decide ((uy t d).aK=o.aK))=(oO l d o && decide ((uy l d).aK=o.aK)):=by
 rw[Bool.eq_iff_iff];unfold oO;simp only[Bool.and_eq_true,decide_eq_true_eq];constructor
 .rintro⟨⟨h1,h2⟩,h3⟩
  obtain⟨a,ha⟩:=Option.isSome_iff_exists.1 h1;have hl:=h.up ha;rw[bD ha] at h2 h3;rw[bD hl,hl];exact⟨⟨rfl,h2⟩,h3⟩
 .rintro⟨⟨h1,h2⟩,h3⟩
  obtain⟨a,ha⟩:=Option.isSome_iff_exists.1 h1;rw[bD ha] at h2 h3;have ht:=h.at_ ha (h.down ho ha h2 h3);rw[bD ht,ht];exact⟨⟨rfl,h2⟩,h3⟩
theorem j9.aK {o:ag}(ho:A o):uc t o=uc l o:=by
 unfold uc
 by_cases hk:o.kind=0
 .rw[if_pos hk,if_pos hk]
 .rw[if_neg hk,if_neg hk,Bool.eq_iff_iff]
  simp only[Bool.and_eq_true,decide_eq_true_eq];constructor
  .rintro⟨h1,h2,h3,h4⟩
   obtain⟨a,ha⟩:=Option.isSome_iff_exists.1 h1;have hl:=h.up ha;rw[bD ha] at h2 h3 h4;rw[bD hl,hl];exact⟨rfl,h2,h3,h4⟩
  .rintro⟨h1,h2,h3,h4⟩
   obtain⟨a,ha⟩:=Option.isSome_iff_exists.1 h1;rw[bD ha] at h2 h3 h4;have ht:=h.at_ ha (h.down ho ha h4 (by rw[h3,fK ha]));rw[bD ht,ht];exact⟨rfl,h2,h3,h4⟩
theorem j9.Mw {o:ag}(ho:A o):decide (vZ (bg t).at_ (bg t).made o≠0)=decide (vZ (bg l).at_ (bg l).made o≠0):=by
 rw[Dm,Dm];rcases h.fQ 10 ho (λ a h1 h2=>h.eB 10 _ a h1 h2) with e|⟨e1,e2⟩
 .rw[e]
 .rw[decide_eq_true e1,decide_eq_true e2]
theorem j9.ox {o:ag}(ho:A o)(x y:Bool)(hxy:(o.kind≠0->r7 l (bg l).at_ o.aP o=true)->x=y):Go.Proofs.YtaelhkkjgfobhaaGreat.ox t (bg t).at_ (bg t).made o x=Go.Proofs.YtaelhkkjgfobhaaGreat.ox l (bg l).at_ (bg l).made o y:=by
 unfold Go.Proofs.YtaelhkkjgfobhaaGreat.ox;rw[h.aK ho,h.ze _ ho,h.Mw ho]
 by_cases hk:o.kind=0
 .have hk':((o.kind:Int) == 0)=true:=by rw[hk];rfl
  rw[hk',hxy (λ hn=>absurd hk hn),hk,qT,qT];simp
 .have hk':((o.kind:Int) == 0)=false:=by simp;exact hk
  cases hc:r7 l (bg l).at_ o.aP o with
  | false=>rw[hk'];simp
  | true=>
   rw[(h.B2 ho hc).1,hxy (λ _=>hc)]
theorem j9.add {d:Dt}{o:ag}(hf:a_ l d=some o)(ho:A o):B1 t (bg t).at_ (bg t).made d=B1 l (bg l).at_ (bg l).made d:=by
 unfold B1;rw[hf,h.at_ hf ho];dsimp only;rw[h.ox ho true true (λ _=>rfl)]
theorem j9.line (d:Dt){o:ag}(ho:A o):mY t (bg t).at_ (bg t).made d o=mY l (bg l).at_ (bg l).made d o:=by
 rw[oy,oy,h.look d ho];cases hl:(oO l d o && decide ((uy l d).aK=o.aK)) with
 | false=>simp
 | true=>
  obtain⟨a,h1,h2,h3⟩:=tD hl;rw[h.add h1 (h.down ho h1 h2 h3)]
theorem j9.set {d:Dt}{o:ag}(hf:a_ l d=some o)(ho:A o):v7 t (bg t).at_ (bg t).made d=v7 l (bg l).at_ (bg l).made d:=by
 unfold v7;rw[hf,h.at_ hf ho];dsimp only;rw[h.line _ ho,h.ox ho _ _ (λ _=>rfl)]
end
theorem He {l:List ag}{tr:MM Dt Cr}{md:MM Dt ag}{d e:Dt}:v7 l tr md d=some e↔∃ x,a_ l d=some x/\x.kind=4/\Go.Proofs.YtaelhkkjgfobhaaGreat.ox l tr md x (mY l tr md x.at_ x)=0/\x.at_=e:=by
 unfold v7;constructor
 .intro h
  split at h
  .rename_i x hx
   split at h
   .rename_i hc
    injection h with h;exact⟨x,hx,hc.1,hc.2,h⟩
   .cases h
  .cases h
 .rintro⟨x,h1,h2,h3,h4⟩
  rw[h1];dsimp only;rw[if_pos ⟨h2,h3⟩,h4]
theorem Mx {l:List ag}{tr:MM Dt Cr}{md:MM Dt ag}{o:ag}{x:Bool}(h:Go.Proofs.YtaelhkkjgfobhaaGreat.ox l tr md o x=0):x=true:=by
 cases x with
 | true=>rfl
 | false=>
  exfalso
  unfold Go.Proofs.YtaelhkkjgfobhaaGreat.ox at h
  revert h
  simp only[Bool.not_false,if_true]
  repeat' split
  all_goals simp
theorem yg {l:List ag}{tr:MM Dt Cr}{md:MM Dt ag}{d e:Dt}{o:ag}(h:v7 l tr md d=some e)(hl:mY l tr md e o=true):∃ x,a_ l d=some x/\x.aK=o.aK:=by
 obtain⟨x,h1,h2,h3,h4⟩:=He.1 h;have h5:=Mx h3;rw[h4,oy,Bool.and_eq_true] at h5;rw[oy,Bool.and_eq_true] at hl;obtain⟨a,a1,a2,a3⟩:=tD h5.2;obtain⟨b,b1,b2,b3⟩:=tD hl.2;rw[a1] at b1;injection b1 with b1;subst b1;exact⟨x,h1,by rw[<- a3,b3]⟩
theorem AO {l:List ag}{tr:MM Dt Cr}{md:MM Dt ag}{c:Cm}{o:ag}:AN l tr md c o=true↔mY l tr md c.line o=true/\(c.jA=c.line\/v7 l tr md c.jA=some c.line/\oO l c.jA o=true):=by
 unfold AN;simp only[Bool.and_eq_true,Bool.or_eq_true,decide_eq_true_eq];constructor
 .rintro⟨h1,h2|⟨h2,h3,h4⟩⟩
  .exact⟨h1,.inl h2⟩
  .obtain⟨e,he⟩:=Option.isSome_iff_exists.1 h2
   rw[he] at h3;have h3:e=c.line:=h3;exact⟨h1,.inr ⟨by rw[he,h3],h4⟩⟩
 .rintro⟨h1,h2|⟨h2,h3⟩⟩
  .exact⟨h1,.inl h2⟩
  .exact⟨h1,.inr ⟨by rw[h2];rfl,by rw[h2];rfl,h3⟩⟩
section
variable {t l:List ag} {A:ag->Prop} (h:j9 t l A)
include h
theorem j9.tu (c:Cm){o:ag}(ho:A o):AN t (bg t).at_ (bg t).made c o=AN l (bg l).at_ (bg l).made c o:=by
 rw[Bool.eq_iff_iff,AO,AO,h.line _ ho];constructor
 .rintro⟨h1,h2|⟨h2,h3⟩⟩
  .exact⟨h1,.inl h2⟩
  .obtain⟨x,hx,e⟩:=yg h2 (by rw[h.line _ ho];exact h1)
   have hl:=h.up hx;unfold oO at h3;rw[bD hx,hx] at h3;have ha:=h.down ho hl (by simpa using h3) e;refine⟨h1,.inr ⟨by rw[<- h.set hl ha];exact h2,?_⟩⟩;unfold oO;rw[bD hl,hl];exact h3
 .rintro⟨h1,h2|⟨h2,h3⟩⟩
  .exact⟨h1,.inl h2⟩
  .obtain⟨x,hl,e⟩:=yg h2 h1
   unfold oO at h3;rw[bD hl,hl] at h3;have ha:=h.down ho hl (by simpa using h3) e;have hx:=h.at_ hl ha;refine⟨h1,.inr ⟨by rw[h.set hl ha];exact h2,?_⟩⟩;unfold oO;rw[bD hx,hx];exact h3
theorem j9.why {o:ag}(ho:A o):jQ t o=jQ l o:=by
 unfold jQ zi;refine h.ox ho _ _ λ hc=> ?_
 unfold Ef;rw[h.ze _ ho,h.line _ ho];simp only[h.tu _ ho]
 by_cases k2:o.kind=2
 .rw[if_pos k2,if_pos k2]
  cases hd:r7 l (bg l).at_ o.at_ o with
  | false=>rfl
  | true=>
   unfold lM;rw[(h.B2 ho hd).2]
 .rw[if_neg k2,if_neg k2]
end
end
section
theorem v8 {l :List ag}{tr:MM Dt Cr}{md:MM Dt ag}{o:ag}{x:Bool}:Go.Proofs.YtaelhkkjgfobhaaGreat.ox l tr md o x=0↔ ¬ (o.kind:Int)>8/\uc l o=true/\(o.kind≠0->r7 l tr o.aP o=true/\((((MM.get tr o.aP).getD Cr.zero).hold:Int)=(o.who:Int))/\oG ((MM.get tr o.aP).getD Cr.zero) o.kind=false)/\(o.kind=1->vZ tr md o=0)/\x=true:=by
 unfold Go.Proofs.YtaelhkkjgfobhaaGreat.ox
 by_cases h8:(o.kind:Int)>8
 .rw[decide_eq_true h8];simp[h8]
 rw[decide_eq_false h8];cases hc:uc l o with
 | false=>simp
 | true=>
  by_cases hk:o.kind=0
  .have hk':((o.kind:Int) == 0)=true:=by rw[hk];rfl
   rw[hk',hk,qT];cases x<;>simp
  .have hk':((o.kind:Int) == 0)=false:=by simp;exact hk
   rw[hk'];cases h1:r7 l tr o.aP o with
   | false=>simp[hk]
   | true=>
    by_cases h2:(((MM.get tr o.aP).getD Cr.zero).hold:Int)=(o.who:Int)
    .have h2':((((MM.get tr o.aP).getD Cr.zero).hold:Int) != (o.who:Int))=false:=by simpa using h2
     rw[h2'];cases h3:oG ((MM.get tr o.aP).getD Cr.zero) o.kind with
     | true=>simp[hk]
     | false=>
      by_cases h4:o.kind=1
      .by_cases h5:vZ tr md o=0
       .rw[h5];cases x<;>simp[h2];omega
       .cases x<;>simp[h4,h5]
      .cases x<;>simp[h4,h2];omega
    .have h2':((((MM.get tr o.aP).getD Cr.zero).hold:Int) != (o.who:Int))=true:=by simpa using h2
     rw[h2'];simp[hk,h2]
section
variable {t l:List ag} {A:ag->Prop} (h:j9 t l A) (hA:∀ o,o∈t->A o)
include h hA
end
theorem Part.OF {t l:List ag}(h:Part t l):j9 t l (· ∈t):=⟨h.uniq,h.AL,h.sub,λ _ h=>h,λ o a ho ha hb _=>h.Mn o a ho ha hb⟩
theorem v_ {t l:List ag}(h:Part t l){o:ag}(ho:o∈t):jQ t o=jQ l o:=h.OF.why ho
theorem dw.good {l:List ag}{S:Sh}(h:dw l S)(d:Dt):S.good d=match a_ l d with
  | some o=>decide (jQ l o=0)
  | none=>false:=by
 unfold Sh.good;rw[h.base.has,h.base.op,h.fL];cases hf:a_ l d with
 | none=>rfl
 | some o=>rw[bD hf];rfl
end
end Go.Proofs.YtaelhkkjgfobhaaGreat
namespace Go.Proofs.YtaelhkkjgfobhaaGreat
open Go.Sl Go.Proofs
section
attribute [local irreducible] SW RW aH SC aj ak
def PD (n kind who aP:Nat):ag:=⟨⟨0,n⟩,xk (n - 1),n,who,⟨0,1⟩,kind,⟨0,aP⟩,0,0,0,0,⟨0,0⟩,⟨0,0⟩,0,0,0,.aL⟩
def Eh (n kind who aP:Nat):ag:=(PD n kind who aP).nz
theorem SC.OH {P:Program}{f:FuncId}{args:List SV}{F F':Hp}{k nk:Nat}{r r':SV}(h:aH P f args F k nk r F')(hr:∀ (p:Nat->Prop) μ M u,Rp p μ M r u->Rp p μ M r' u):aH P f args F k nk r' F':=by
 unfold aH SC at h ⊢;refine⟨h.1,λ p μ M w vals h1 h2 h3=>(h.2 p μ M w vals h1 h2 h3).mono ?_⟩;rintro e w' ⟨r0,F0,bh,M',u,a,⟨rfl,rfl⟩,b,c⟩;exact⟨r',F0,bh,M',u,a,⟨rfl,rfl⟩,hr _ _ _ _ b,c⟩
end
section
abbrev nK (k:Nat):Sn:=⟨10+k,7+k,8+k,9+k,2+k,0+k,1+k⟩
theorem Sh.JP (S:Sh)(k:Nat):Hp.aC (· +k) S.lS=S.hp (nK k):=by
 simp only[Hp.aC,List.map_cons,List.map_nil,Ob.aC,SV.aN,SV.aC,j5,cG,tj,fc,Sh.hp]
theorem JQ (l:List ag)(hl:l.length<1000000000)(hd:∀ o,o∈l->o.kind<256/\o.mC)(k:Nat):SC Tryz.prog shape_New.f [ops l] [] k 11 λ r F=>∃ S,dw l S/\r= .ptr (10+k) 0/\F=S.hp (nK k):=by
 have:=SB.at (JO l hl hd) (· +k) k (λ n m h=>absurd h (Nat.not_lt_zero n)) (λ n h=>absurd h (Nat.not_lt_zero n)) (λ i _=>by show 0+i+k=k+i;omega);refine SC.mono (show SC Tryz.prog shape_New.f [ops l] [] k 11 _ from this) ?_;rintro r F ⟨r0,F0,⟨S,hS,rfl,rfl⟩,rfl,rfl⟩;exact⟨S,hS,rfl,S.JP k⟩
theorem My (l:List ag)(hl:l.length<1000000000)(hd:∀ o,o∈l->o.kind<256/\o.mC):SC Tryz.prog shape_New.f [ops l] [] 0 11 λ r F=>∃ S,dw l S/\r= .ptr 10 0/\F=S.lS:=JQ l hl hd 0
section
variable {l:List ag} {S:Sh} (h:dw l S)
include h
theorem dw.short (hd:∀ o,o∈l->o.kind<256/\o.mC/\o.cl.length<=1048576):pE S:=λ d o ho=>by
 rw[h.base.ops.get] at ho;exact hd o (fZ ho).1
end
def o1:ag:=Eh 1 0 1 0
def o2:ag:={ Eh 2 1 1 1 with to:=2,bn:=2,cap:=9}
def o3:ag:={ Eh 3 3 2 2 with uu:=1}
def o4:ag:={ Eh 4 4 2 2 with at_:=⟨0,3⟩,uu:=2}
def hrow:List ag:=[o1,o2,o3,o4]
theorem d3:b_ (Dt.mk 0 0).cells 1 [.d (.int .u32 3)]=(Dt.mk 0 3).cells:=rfl
theorem d4:b_ (Dt.mk 0 0).cells 1 [.d (.int .u32 4)]=(Dt.mk 0 4).cells:=rfl
attribute [local irreducible] SW RW aH SC aj ak
end
section
def hc1:Cr:=⟨⟨0,1⟩,⟨0,1⟩,⟨0,0⟩,1,7,8,1099511627776,0⟩
def IP:Cr:=⟨⟨0,2⟩,⟨0,1⟩,⟨0,1⟩,2,2,0,9,1⟩
theorem JR {l:List ag}{o:ag}{L:List Cr}{n:Nat}(hL:pg (bg l).at_ (MM.get (bg l).at_ o.at_) L)(h:zi l (bg l).at_ (bg l).made o (lM (bg l).at_ o.aP o.at_ L)=n):jQ l o=n:=by
 unfold jQ;rw[gI hL];exact h
def FI:List Cm:=[⟨⟨0,3⟩,⟨0,4⟩⟩]
def PE:ag:={ Eh 5 8 2 2 with lines:= .sl 1 (FI.flatMap Cm.ds)}
theorem PF {o:ag}(h:o.lines= .sl 0 []):o.mC:=(ag.mC.of (l:=[]) h (by simp)).1
section
variable {S:Sh} (h:dw hrow S)
include h
end
theorem Pd:b_ (Eh 5 8 2 2).cells 28 [.d (.sl 1 (FI.flatMap Cm.ds))]=PE.cells:=rfl
attribute [local irreducible] SW RW aH SC aj ak
end
end Go.Proofs.YtaelhkkjgfobhaaGreat
