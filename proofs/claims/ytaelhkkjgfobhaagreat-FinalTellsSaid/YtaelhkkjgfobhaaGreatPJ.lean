/-
 Shapes: what a new shape holds (plain).
-/
import Derived.Test.YtaelhkkjgfobhaaGreatPI
import Derived.Test.YtaelhkkjgfobhaaGreatPD
import Derived.Test.YtaelhkkjgfobhaaGreatP6
set_option linter.unusedSectionVars false
set_option linter.unusedVariables false
set_option linter.unusedSimpArgs false
namespace Go.Proofs.YtaelhkkjgfobhaaGreat
open Go.Sl Go.Proofs
section
theorem mE.uniq {a:MM Dt Cr}{oc:Option Cr}{L M:List Cr}(h:mE a oc L):mE a oc M→L=M:=by
 induction h generalizing M with
 | none=>intro g;cases g;rfl
 | root c hc=>intro g;cases g with
  | root _ _=>rfl
  | more _ L h1 _=>exact absurd h1 hc
 | more c L h1 _ ih=>intro g;cases g with
  | root _ h2=>exact absurd h1 h2
  | more _ L' _ h2=>rw [ih h2]
open Classical in
noncomputable def nQ (a:MM Dt Cr)(d:Dt):List Cr:=if h:∃ L,mE a (MM.get a d) L then Classical.choose h else []
theorem gy {a:MM Dt Cr}{d:Dt}{L:List Cr}(h:mE a (MM.get a d) L):nQ a d=L:=by
 have hx:∃ L,mE a (MM.get a d) L:=⟨L,h⟩;unfold nQ;rw [dif_pos hx];exact (Classical.choose_spec hx).uniq h
noncomputable def Sh.G7 (S:Sh)(e d:Dt):Bool:=fG S.tr e d (nQ S.tr d)
noncomputable def Sh.fJ (S:Sh)(o:ag):Nat:=S.why o (S.G7 o.aN o.at_)
def Sh.tn (S:Sh):Prop:=∀ d,∃ L,mE S.tr (MM.get S.tr d) L∧L.length≤9
theorem Sh.NX (S:Sh)(h:S.tn)(e d:Dt):∃ m,∀ k,aF Tryz.prog tree_Tree_Above.f [.ptr 4 0,.agg e.cells,.agg d.cells] S.h4 k m (bl (S.G7 e d)) S.h4:=by
 obtain ⟨L,hL,hlen⟩:=h d;refine ⟨6+L.length*(1+1),fun k=> ?_⟩;have:=E1 S.KO e d L hL (by omega) k;unfold Sh.G7;rw [gy hL];exact this
theorem Sh.MJ (S:Sh)(h:S.tn)(o:ag)(hk:o.kind<256)(hl:o.mN)(n:Sn)(hn:n.ok)(k:Nat):aF Tryz.prog shape_Shape_Why.f [.ptr n.b 0,.agg o.cells] (S.hp n) k 0 (i64 (S.fJ o)) (S.hp n):=by
 obtain ⟨m,hm⟩:=S.NX h o.aN o.at_;exact Ik S o hk _ (fun k=>KR S o hk hl _ m hm k) n hn k
theorem Sh.sJ (S:Sh)(A:MM Dt Int)(c:Nat)(B:MM Dt Dt)(e:Nat){o:ag}(hk:o.kind=3):({ S with fZ:=A,ca:=c,l9:=B,cl:=e}:Sh).fJ o=S.fJ o:=by
 have ht:∀ (T:Sh) (b:Bool),T.tgt o b=true:=fun T b=>by unfold Sh.tgt;rw [if_neg (by omega),if_neg (by omega),if_neg (by omega),if_neg (by omega)]
 have hr:∀ (b:Bool) i,Sh.rz { S with fZ:=A,ca:=c,l9:=B,cl:=e} o b i=S.rz o b i:=fun b i=>by
  match i with
  | 0 | 1 | 2 | 3 | 4 | 5=>rfl
  | i+6=>show (!Sh.tgt _ o b)=(!Sh.tgt _ o b);rw [ht,ht]
 show Sh.why _ o (S.G7 o.aN o.at_)=S.why o (S.G7 o.aN o.at_);unfold Sh.why;simp only [hr]
theorem Sh.zb (S:Sh)(B:MM Dt Dt)(e:Nat){o:ag}(hk:o.kind=4):({ S with l9:=B,cl:=e}:Sh).fJ o=S.fJ o:=by
 have ht:∀ (b:Bool),Sh.tgt { S with l9:=B,cl:=e} o b=S.tgt o b:=fun b=>by
  unfold Sh.tgt;rw [if_neg (by omega),if_pos (.inl hk),if_neg (by omega),if_pos (.inl hk)];rfl
 have hr:∀ (b:Bool) i,Sh.rz { S with l9:=B,cl:=e} o b i=S.rz o b i:=fun b i=>by
  match i with
  | 0 | 1 | 2 | 3 | 4 | 5=>rfl
  | i+6=>show (!Sh.tgt _ o b)=(!Sh.tgt _ o b);rw [ht]
 show Sh.why _ o (S.G7 o.aN o.at_)=S.why o (S.G7 o.aN o.at_);unfold Sh.why;simp only [hr]
def BN (s:MM Dt ag×Nat)(o:ag):MM Dt ag×Nat:=if MM.has s.1 o.dot then s else (MM.put s.1 s.2 o.dot o,MM.jl s.1 s.2 o.dot)
def firstM (l:List ag):MM Dt ag×Nat:=l.foldl BN ([],0)
theorem s4 (l:List ag)(x:ag):firstM (l++[x])=BN (firstM l) x:=by unfold firstM;rw [List.foldl_append];rfl
theorem uQ (l:List ag)(x:ag)(d:Dt):aS (l++[x]) d=(aS l d).or (if x.dot=d then some x else none):=by
 unfold aS;rw [List.find?_append]
 congr 1
 simp only [List.find?_cons,List.find?_nil]
 by_cases h:x.dot=d <;> simp [h]
structure xO (l:List ag)(m:MM Dt ag)(c:Nat):Prop where
 wf:MM.wf m c
 get:∀ d,MM.get m d=aS l d
theorem FE (l:List ag):xO l (firstM l).1 (firstM l).2:=by
 have key:∀ n,∀ l:List ag,l.length=n→xO l (firstM l).1 (firstM l).2:=fun n=>by
  induction n with
  | zero=>
   intro l hl;rw [List.eq_nil_of_length_eq_zero hl];exact ⟨MM.kR,fun d=>by simp [firstM,MM.get,aS]⟩
  | succ n ih=>
   intro l hl;have hne:l≠[]:=fun e=>by rw [e] at hl;cases hl
   have hd:=List.dropLast_concat_getLast hne;obtain ⟨x,hx⟩:∃ x,l.getLast hne=x:=⟨_,rfl⟩;obtain ⟨p,hp⟩:∃ p,l.dropLast=p:=⟨_,rfl⟩;rw [hx,hp] at hd;have hpl:p.length=n:=by rw [← hp,List.length_dropLast,hl];omega
   have h:=ih p hpl;rw [← hd,s4];unfold BN
   by_cases hh:MM.has (firstM p).1 x.dot=true
   ·rw [if_pos hh]
    refine ⟨h.wf,fun d=> ?_⟩;rw [h.get,uQ];have hs:(aS p x.dot).isSome=true:=by rw [← h.get];exact hh
    by_cases e:x.dot=d
    ·subst e
     obtain ⟨y,hy⟩:=Option.isSome_iff_exists.1 hs;rw [hy];rfl
    ·rw [if_neg e];simp
   ·rw [if_neg hh]
    refine ⟨MM.jy h.wf _ _,fun d=> ?_⟩;rw [MM.dw,h.get,uQ];have hs:aS p x.dot=none:=by
     rw [← h.get];have:(MM.get (firstM p).1 x.dot).isSome=false:=by simpa [MM.has] using hh
     simpa using this
    by_cases e:d=x.dot
    ·subst e
     rw [if_pos rfl,hs,if_pos rfl];rfl
    ·rw [if_neg e,if_neg (Ne.symm e)];simp
 exact key _ l rfl
end
section
attribute [local irreducible] SW RW aF SC ai aq
abbrev Pa (a:MM Dt Cr)(ca:Nat)(m:MM Dt ag)(cm:Nat):Tr:=⟨2,0,1,a,ca,m,cm⟩
abbrev H2 (a:MM Dt Cr)(ca:Nat)(m:MM Dt ag)(cm:Nat):Hp:=[(2,.box 166 [.mp 0,.mp 1]),(0,.map (au Dt.cells cv a) ca),(1,.map (au Dt.cells ov m) cm)]
structure Tn (l:List ag)(a:MM Dt Cr)(ca:Nat)(m:MM Dt ag)(cm:Nat):Prop where
 new:jH l 0=Pa a ca m cm
theorem MK (l:List ag):∃ a ca m cm,Tn l a ca m cm:=by
 refine ⟨(jH l 0).at_,(jH l 0).ca,(jH l 0).made,(jH l 0).cm,⟨?_⟩⟩;have e1:(jH l 0).bx=2:=by show 0+_=2;rw [Nat.zero_add];exact l8.e1 _
 have e2:(jH l 0).ma=0:=by show 0+_=0;rw [Nat.zero_add];exact l8.e2 _
 have e3:(jH l 0).mm=1:=by show 0+_=1;rw [Nat.zero_add];exact l8.e3 _
 revert e1 e2 e3
 generalize jH l 0=T;obtain ⟨b,x,y,a,ca,m,cm⟩:=T;rintro rfl rfl rfl;rfl
section
variable {l:List ag} {a:MM Dt Cr} {ca:Nat} {m:MM Dt ag} {cm:Nat} (h:Tn l a ca m cm)
include h
theorem Tn.NY (hl:l.length<1000000000):aF Tryz.prog tree_New.f [ops l] [] 0 7 (.ptr 2 0) (H2 a ca m cm):=by
 have:=KL l hl 0;rw [h.new] at this;exact this
end
end
section
abbrev n10:Sn:=⟨10,7,8,9,2,0,1⟩
theorem xP:n10.ok:=by decide
abbrev Sh.lD (S:Sh):Hp:=[(10,.box 117 [.ptr 2 0,.mp 7,.mp 8,.mp 9]),(7,.map (au Dt.cells ov S.ops) S.co),(8,.map (au Dt.cells iv S.fZ) S.ca),(9,.map (au Dt.cells dv S.l9) S.cl),
 (2,.box 166 [.mp 0,.mp 1]),(0,.map (au Dt.cells cv S.tr) S.ct),(1,.map (au Dt.cells ov S.md) S.cm)]
theorem Sh.od (S:Sh){k:Nat}(h:11≤k):S.lD.ok (fun n=>decide (n<k))=true:=by
 have a:=bq (fun n=>decide (n<k)) S.ops;have b:=bJ (fun n=>decide (n<k)) S.fZ;have c:=jf (fun n=>decide (n<k)) S.l9;have d:=gT (fun n=>decide (n<k)) S.tr;have e:=bq (fun n=>decide (n<k)) S.md;simp only [Hp.ok,List.all_cons,List.all_nil,Ob.ok,SV.ax,SV.ok,a,b,c,d,e,Bool.and_true,Bool.true_and,Bool.and_eq_true,decide_eq_true_eq];omega
theorem Sh.ML (S:Sh):(S.lD.map (·.1)).Nodup:=by simp
theorem Sh.JM (S:Sh)(h:S.tn)(o:ag)(hk:o.kind<256)(hl:o.mN)(k:Nat):aF Tryz.prog shape_Shape_Why.f [.ptr 10 0,.agg o.cells] S.lD k 0 (i64 (S.fJ o)) S.lD:=S.MJ h o hk hl n10 xP k
structure jI (l:List ag)(S:Sh):Prop where
 ops:xO l S.ops S.co
 tok:kA l S.T
 tn:S.tn
 tr:S.tr=(aA l).at_
 md:S.md=(aA l).made
def j4 (S:Sh)(xs:MM Dt ag)(A:MM Dt Int)(c:Nat):Prop:=MM.wf A c∧∀ d v,MM.get A d=some v↔v=1∧∃ x,x∈xs∧x.2.1=d∧x.2.2.kind=3∧S.fJ x.2.2=0
def oD (S:Sh)(xs:MM Dt ag)(B:MM Dt Dt)(c:Nat):Prop:=MM.wf B c∧∀ d v,MM.get B d=some v↔∃ x,x∈xs∧x.2.1=d∧x.2.2.kind=4∧S.fJ x.2.2=0∧v=x.2.2.at_
structure bR (l:List ag)(S:Sh):Prop where
 base:jI l S
 fZ:j4 S S.ops S.fZ S.ca
 l9:oD S S.ops S.l9 S.cl
theorem get_mem {V:Type}{m:MM Dt V}{d:Dt}{v:V}(h:MM.get m d=some v):∃ x,x∈m∧x.2.1=d∧x.2.2=v:=by
 unfold MM.get at h;obtain ⟨x,hx,rfl⟩:=Option.map_eq_some_iff.1 h;exact ⟨x,List.mem_of_find?_eq_some hx,by have:=List.find?_some hx;simp at this;exact this.symm,rfl⟩
theorem rA {V:Type}{m:MM Dt V}(hk:(MM.keys m).Nodup){x:Nat×Dt×V}(hx:x∈m):MM.get m x.2.1=some x.2.2:=by
 have:(MM.get m x.2.1).isSome=true:=by
  unfold MM.get;rw [Option.isSome_map,List.find?_isSome];exact ⟨x,hx,by simp⟩
 obtain ⟨v,hv⟩:=Option.isSome_iff_exists.1 this;obtain ⟨y,hy,e1,e2⟩:=get_mem hv;have:y=x:=by
  have hp:=List.nodup_iff_pairwise_ne.1 hk;unfold MM.keys at hp;rw [List.pairwise_map] at hp;exact Classical.byContradiction fun hne=>by
   rcases List.pairwise_iff_getElem.1 hp with hpp;obtain ⟨i,hi,rfl⟩:=List.getElem_of_mem hy;obtain ⟨j,hj,rfl⟩:=List.getElem_of_mem hx;rcases Nat.lt_trichotomy i j with h | h | h
   ·exact hpp i j hi hj h e1
   ·subst h;exact hne rfl
   ·exact hpp j i hj hi h e1.symm
 rw [hv,← e2,this]
theorem j4.skip {S:Sh}{xs:MM Dt ag}{A:MM Dt Int}{c:Nat}(h:j4 S xs A c){x:Nat×Dt×ag}(hx: ¬ (x.2.2.kind=3∧S.fJ x.2.2=0)):j4 S (xs++[x]) A c:=by
 refine ⟨h.1,fun d v=> ?_⟩;rw [h.2];constructor
 ·rintro ⟨h1,y,h2,h3⟩
  exact ⟨h1,y,List.mem_append_left _ h2,h3⟩
 ·rintro ⟨h1,y,h2,h3,h4⟩
  rcases List.mem_append.1 h2 with h2 | h2
  ·exact ⟨h1,y,h2,h3,h4⟩
  ·rw [List.mem_singleton] at h2
   subst h2;exact absurd h4 hx
theorem j4.put {S:Sh}{xs:MM Dt ag}{A:MM Dt Int}{c:Nat}(h:j4 S xs A c){x:Nat×Dt×ag}(hx:x.2.2.kind=3∧S.fJ x.2.2=0):j4 S (xs++[x]) (MM.put A c x.2.1 1) (MM.jl A c x.2.1):=by
 refine ⟨MM.jy h.1 _ _,fun d v=> ?_⟩;rw [MM.dw]
 by_cases e:d=x.2.1
 ·rw [if_pos e]
  constructor
  ·intro h1
   injection h1 with h1;exact ⟨h1.symm,x,List.mem_append_right _ (List.mem_singleton.2 rfl),e.symm,hx⟩
  ·rintro ⟨rfl,_⟩;rfl
 ·rw [if_neg e,h.2]
  constructor
  ·rintro ⟨h1,y,h2,h3⟩
   exact ⟨h1,y,List.mem_append_left _ h2,h3⟩
  ·rintro ⟨h1,y,h2,h3,h4⟩
   rcases List.mem_append.1 h2 with h2 | h2
   ·exact ⟨h1,y,h2,h3,h4⟩
   ·rw [List.mem_singleton] at h2
    subst h2;exact absurd h3.symm e
theorem j4.to {S S':Sh}{xs ys:MM Dt ag}{A:MM Dt Int}{c:Nat}(h:j4 S xs A c)(hm:∀ x,x∈xs↔x∈ys)(hw:∀ o:ag,o.kind=3→S'.fJ o=S.fJ o):j4 S' ys A c:=by
 refine ⟨h.1,fun d v=> ?_⟩;rw [h.2];constructor
 ·rintro ⟨h1,y,h2,h3,h4,h5⟩
  exact ⟨h1,y,(hm y).1 h2,h3,h4,by rw [hw _ h4];exact h5⟩
 ·rintro ⟨h1,y,h2,h3,h4,h5⟩
  exact ⟨h1,y,(hm y).2 h2,h3,h4,by rw [← hw _ h4];exact h5⟩
theorem oD.skip {S:Sh}{xs:MM Dt ag}{A:MM Dt Dt}{c:Nat}(h:oD S xs A c){x:Nat×Dt×ag}(hx: ¬ (x.2.2.kind=4∧S.fJ x.2.2=0)):oD S (xs++[x]) A c:=by
 refine ⟨h.1,fun d v=> ?_⟩;rw [h.2];constructor
 ·rintro ⟨y,h2,h3⟩
  exact ⟨y,List.mem_append_left _ h2,h3⟩
 ·rintro ⟨y,h2,h3,h4,h5,h6⟩
  rcases List.mem_append.1 h2 with h2 | h2
  ·exact ⟨y,h2,h3,h4,h5,h6⟩
  ·rw [List.mem_singleton] at h2
   subst h2;exact absurd ⟨h4,h5⟩ hx
theorem oD.put {S:Sh}{xs:MM Dt ag}{A:MM Dt Dt}{c:Nat}(h:oD S xs A c){x:Nat×Dt×ag}(hx:x.2.2.kind=4∧S.fJ x.2.2=0)(hu:∀ y,y∈xs→y.2.1≠x.2.1):oD S (xs++[x]) (MM.put A c x.2.1 x.2.2.at_) (MM.jl A c x.2.1):=by
 refine ⟨MM.jy h.1 _ _,fun d v=> ?_⟩;rw [MM.dw]
 by_cases e:d=x.2.1
 ·rw [if_pos e]
  constructor
  ·intro h1
   injection h1 with h1;exact ⟨x,List.mem_append_right _ (List.mem_singleton.2 rfl),e.symm,hx.1,hx.2,h1.symm⟩
  ·rintro ⟨y,h2,h3,_,_,h6⟩
   rcases List.mem_append.1 h2 with h2 | h2
   ·exact absurd (h3.trans e) (hu y h2)
   ·rw [List.mem_singleton] at h2
    subst h2;rw [h6]
 ·rw [if_neg e,h.2]
  constructor
  ·rintro ⟨y,h2,h3⟩
   exact ⟨y,List.mem_append_left _ h2,h3⟩
  ·rintro ⟨y,h2,h3,h4⟩
   rcases List.mem_append.1 h2 with h2 | h2
   ·exact ⟨y,h2,h3,h4⟩
   ·rw [List.mem_singleton] at h2
    subst h2;exact absurd h3.symm e
theorem oD.to {S S':Sh}{xs ys:MM Dt ag}{A:MM Dt Dt}{c:Nat}(h:oD S xs A c)(hm:∀ x,x∈xs↔x∈ys)(hw:∀ o:ag,o.kind=4→S'.fJ o=S.fJ o):oD S' ys A c:=by
 refine ⟨h.1,fun d v=> ?_⟩;rw [h.2];constructor
 ·rintro ⟨y,h2,h3,h4,h5,h6⟩
  exact ⟨y,(hm y).1 h2,h3,h4,by rw [hw _ h4];exact h5,h6⟩
 ·rintro ⟨y,h2,h3,h4,h5,h6⟩
  exact ⟨y,(hm y).2 h2,h3,h4,by rw [← hw _ h4];exact h5,h6⟩
theorem zc {M xs:MM Dt ag}{c:Nat}(hwf:MM.wf M c)(p1:∀ x,x∈xs→x∈M)(hall:∀ e,e∈au Dt.cells ov M→(xs.map (·.1)).contains e.1=true):∀ x,x∈xs↔x∈M:=fun x=>⟨p1 x,fun hx=>by
 have:=hall _ (List.mem_map.2 ⟨x,hx,rfl⟩);simp only [List.contains_iff_mem] at this;obtain ⟨z,hz,e⟩:=List.mem_map.1 this;rw [← MM.qY hwf.times (p1 z hz) hx e];exact hz⟩
theorem wI {M xs:MM Dt ag}(p1:∀ x,x∈xs→x∈M)(p2:(xs.map (·.1)).Nodup){x:Nat×Dt×ag}(hx:x∈M)(hs:(xs.map (·.1)).contains x.1=false):(∀ z,z∈xs++[x]→z∈M)∧((xs++[x]).map (·.1)).Nodup∧x.1∉xs.map (·.1):=by
 have hxt:x.1∉xs.map (·.1):=fun h=>by
  have:(xs.map (·.1)).contains x.1=true:=by simpa only [List.contains_iff_mem] using h
  rw [this] at hs;cases hs
 refine ⟨fun z hz=> ?_,?_,hxt⟩
 ·rcases List.mem_append.1 hz with hz | hz
  ·exact p1 z hz
  ·rw [List.mem_singleton.1 hz];exact hx
 ·rw [List.map_append,List.nodup_append]
  refine ⟨p2,by simp,fun a ha b' hb'=> ?_⟩;simp only [List.map_cons,List.map_nil,List.mem_singleton] at hb';intro e;exact hxt (by rw [← hb',← e];exact ha)
section
attribute [local irreducible] SW RW aF SC ai aq
set_option maxHeartbeats 16000000 in
theorem Il (l:List ag)(hl:l.length<1000000000)(hd:∀ o,o∈l→o.kind<256∧o.mN):SB Tryz.prog shape_New.f [ops l] [] 0 11 fun r F=>∃ S,bR l S∧r= .ptr 10 0∧F=S.lD:=by
 obtain ⟨a,ca,m,cm,hT⟩:=MK l;refine shape_New.enter (by first | rfl | simp [SV.ok,SV.ax]) (by first | rfl | simp [Hp.ok,Ob.ok,SV.ok,SV.ax,aB.ak]) (by simp) ?_;dsimp only [shape_New.s,Co.M,Co.G,Co.J,Co.H,Co.N,Co.F,Co.C,Co.Z,Co.b8,Co.av,Co.bF,Co.T,Co.K,Co.E,Co.L,Co.P,Co.x,Co.W,Co.Y,Co.V,Co.U,Co.O,Co.D,Co.A,Co.I,Co.S];have hN:=hT.NY hl;refine SW.seq ?_;refine SW.g0 [0,2,3,5,7,8,9,10,11,19,20,21,22,36,49,51,63,73,75,87] mixed af ?_;refine SW.seq ?_;have sp4:cN (cN (cN (cN [SV.d .j0,.d .jj,.d .jj,.d .jj] 0 [.ptr 2 0]) 1 [.mp 7]) 2 [.mp 8]) 3 [.mp 9]=[.ptr 2 0,.mp 7,.mp 8,.mp 9]:=rfl;refine SW.g1 [0,2,3,5,7,8,9,10,11,19,20,21,22,36,49,51,63,73,75,87] mixed (sp4) hN ?_;have w0:∀ y,y∈(⟨[],0,[],0,[],0,a,ca,m,cm⟩:Sh).lD→lk [(10,.box 117 [.ptr 2 0,.mp 7,.mp 8,.mp 9]),(9,Ob.map [] 0),(8,.map [] 0),(7,.map [] 0),(2,.box 166 [.mp 0,.mp 1]),(0,.map (au Dt.cells cv a) ca),(1,.map (au Dt.cells ov m) cm)] y.1=some y.2:=fun y hy=>by
  simp only [List.mem_cons,List.not_mem_nil,or_false] at hy;rcases hy with rfl | rfl | rfl | rfl | rfl | rfl | rfl <;> rfl
 refine SW.weak id (st1:=⟨[(0,ops l),(3,.ptr 10 0)],(⟨[],0,[],0,[],0,a,ca,m,cm⟩:Sh).lD,11⟩) (aK.same (by simp) (by simp [bp,List.lookup,SV.aC,SV.ok,SV.ax]) (Sh.od _ (Nat.le_refl 11)) w0) ?_;refine SW.seq (SW.seq ?_);refine SW.g0 [0,2,3,5,7,8,9,10,11,19,20,21,22,36,49,51,63,73,75,87] mixed af ?_;refine SW.block ?_;refine SW.loop (α:={i:Nat // i≤l.length}) (fun i=>⟨[(21,i64 i.1),(20,i64 l.length),(19,ops l),(3,.ptr 10 0)],(⟨(firstM (l.take i.1)).1,(firstM (l.take i.1)).2,[],0,[],0,a,ca,m,cm⟩:Sh).lD,11⟩) (fun i=>l.length - i.1) ⟨0,by omega⟩ id (aK.same (by simp) (by simp [bp,List.lookup,SV.aC,SV.ok,SV.ax]) (Sh.od _ (Nat.le_refl 11)) (aG (Sh.ML _))) ?_;rintro ⟨i,hi⟩;dsimp only
 by_cases h:i<l.length
 ·have h1:decide ((i:Int)<l.length)=true:=by simp only [decide_eq_true_eq];omega
  obtain ⟨x,hx⟩:=aZ h;have e2:IntKind.i64.wrap ((i:Int)+1)=((i+1:Nat):Int):=wrap_i64 _ (by omega);have hsn:=s4 (l.take i) x;rw [← bH hx] at hsn;unfold BN at hsn;obtain ⟨M,hM⟩:∃ M,(firstM (l.take i)).1=M:=⟨_,rfl⟩;obtain ⟨c,hc⟩:∃ c,(firstM (l.take i)).2=c:=⟨_,rfl⟩;rw [hM,hc] at hsn ⊢;obtain ⟨g,hg⟩:∃ g,(MM.get M x.dot).getD ag.zero=g:=⟨_,rfl⟩;have hms:=BJ M c x.dot x;refine SW.seq ?_;refine SW.g0 [0,2,3,5,7,8,9,10,11,19,20,21,22,36,49,51,63,73,75,87] mixed (h1) ?_;refine SW.seq (SW.aj rfl (SW.skip ?_));refine SW.seq (SW.block (SW.seq ?_));refine SW.g0 [0,2,3,5,7,8,9,10,11,19,20,21,22,36,49,51,63,73,75,87] mixed (And.intro (nO hx) (And.intro (lg hx) (And.intro (wj hx) (oy hx)))) ?_;refine SW.seq ?_;rcases hh:MM.has M x.dot with _ | _
  ·rw [hh] at hsn
   simp only [Bool.false_eq_true,if_false] at hsn;refine SW.g0 [0,2,3,5,7,8,9,10,11,19,20,21,22,36,49,51,63,73,75,87] mixed (And.intro (hh) (hg)) ?_;refine SW.seq ?_;refine SW.g0 [0,2,3,5,7,8,9,10,11,19,20,21,22,36,49,51,63,73,75,87] mixed af ?_;refine SW.aj rfl ?_;refine SW.g0 [0,2,3,5,7,8,9,10,11,19,20,21,22,36,49,51,63,73,75,87] mixed (hms) ?_;refine SW.g0 [0,2,3,5,7,8,9,10,11,19,20,21,22,36,49,51,63,73,75,87] mixed (e2) ?_;refine ⟨⟨i+1,by omega⟩,id,by show l.length - (i+1)<l.length - i;omega,?_⟩;dsimp only;rw [hsn];refine aK.same (by simp) (by simp [bp,List.lookup,SV.aC,SV.ok,SV.ax]) (Sh.od _ (Nat.le_refl 11)) (fun y hy=> ?_);simp only [List.mem_cons,List.not_mem_nil,or_false] at hy;rcases hy with rfl | rfl | rfl | rfl | rfl | rfl | rfl <;> rfl
  ·rw [hh] at hsn
   simp only [if_true] at hsn;refine SW.g0 [0,2,3,5,7,8,9,10,11,19,20,21,22,36,49,51,63,73,75,87] mixed (And.intro (hh) (hg)) ?_;refine SW.seq ?_;refine SW.g0 [0,2,3,5,7,8,9,10,11,19,20,21,22,36,49,51,63,73,75,87] mixed af ?_;refine SW.ah rfl (SW.skip ?_);refine SW.g0 [0,2,3,5,7,8,9,10,11,19,20,21,22,36,49,51,63,73,75,87] mixed (e2) ?_;refine ⟨⟨i+1,by omega⟩,id,by show l.length - (i+1)<l.length - i;omega,?_⟩;dsimp only;rw [hsn,hM,hc];refine aK.same (by simp) (by simp [bp,List.lookup,SV.aC,SV.ok,SV.ax]) (Sh.od _ (Nat.le_refl 11)) (fun y hy=> ?_);simp only [List.mem_cons,List.not_mem_nil,or_false] at hy;rcases hy with rfl | rfl | rfl | rfl | rfl | rfl | rfl <;> rfl
 have h1:decide ((i:Int)<l.length)=false:=by simp only [decide_eq_false_iff_not];omega
 have hi2:i=l.length:=by omega
 subst hi2;rw [List.take_length];have hF:=FE l;obtain ⟨M,hM⟩:∃ M,(firstM l).1=M:=⟨_,rfl⟩;obtain ⟨c,hc⟩:∃ c,(firstM l).2=c:=⟨_,rfl⟩;rw [hM,hc] at hF ⊢;refine SW.seq ?_;refine SW.g0 [0,2,3,5,7,8,9,10,11,19,20,21,22,36,49,51,63,73,75,87] mixed (h1) ?_;refine SW.seq (SW.ah rfl (SW.exit ?_));refine (?_:Sl.SW _ _ _ _ _ _);refine SW.weak id (st1:=⟨[(3,.ptr 10 0)],(⟨M,c,[],0,[],0,a,ca,m,cm⟩:Sh).lD,11⟩) (aK.same (by simp) (by simp [bp,List.lookup,SV.aC,SV.ok,SV.ax]) (Sh.od _ (Nat.le_refl 11)) (aG (Sh.ML _))) ?_;obtain ⟨S,hS⟩:∃ S:Sh,(⟨M,c,[],0,[],0,a,ca,m,cm⟩:Sh)=S:=⟨_,rfl⟩;have hB:jI l S:=by
  rw [← hS];have hnew:=hT.new;have ht:=AN l 0;rw [hnew] at ht;refine ⟨hF,⟨ht.cr,ht.no⟩,fun d=> ?_,(congrArg Tr.at_ hnew).symm,(congrArg Tr.made hnew).symm⟩;obtain ⟨L,h2,h3,_⟩:=ht.tn d;exact ⟨L,h2,h3⟩
 rw [hS];have hwf:=hB.ops.wf;have hkd:∀ x,x∈S.ops→x.2.2.kind<256∧x.2.2.mN:=fun x hx=>by
  have h1:=rA hwf.keys hx;rw [hB.ops.get] at h1;exact hd _ (pL h1)
 have hSa:({ S with fZ:=[],ca:=0}:Sh)=S∧S.l9=[]∧S.cl=0:=by rw [← hS];exact ⟨rfl,rfl,rfl⟩
 clear hS hN hT w0 hF hM hc;refine SW.seq (SW.seq ?_);refine SW.g0 [0,2,3,5,7,8,9,10,11,19,20,21,22,36,49,51,63,73,75,87] mixed af ?_;refine SW.block ?_
 refine SW.q_ (es:=fun _=>au Dt.cells ov S.ops) (c:=fun _=>S.co) (uG:=fun _=>11) (nm:=fun _=>7) (since:=fun _=>S.co) (Bv:=fun _=>S.co)
  (α:={p:MM Dt ag×MM Dt Int×Nat // (∀ x,x∈p.1→x∈S.ops)∧(p.1.map (·.1)).Nodup∧j4 S p.1 p.2.1 p.2.2})
  (fun p=>⟨[(49,.it 11),(3,.ptr 10 0)],(11,.iter (some 7) S.co (p.1.1.map (·.1)) S.co)::({ S with fZ:=p.1.2.1,ca:=p.1.2.2}:Sh).lD,12⟩)
  (fun p=>jd (au Dt.cells ov S.ops) (p.1.1.map (·.1))) ⟨([],[],0),by simp,by simp,MM.kR,fun d v=>by simp [MM.get]⟩ id (seen:=fun p=>p.1.1.map (·.1)) ?_ (fun p=>by simp [List.lookup]) (fun p=>by simp [aa]) (fun p=>by simp [aa]) (fun p=>by decide) (fun p e he=> ?_) (fun p=>Nat.le_refl _) (fun p hall=> ?_) (fun p e he hs=> ?_)
 ·show aK 0 _ ⟨[(49,.it 11),(3,.ptr 10 0)],(11,.iter (some 7) S.co [] S.co)::({ S with fZ:=[],ca:=0}:Sh).lD,12⟩ id
  rw [hSa.1];exact aK.same (by simp) (by simp [bp,List.lookup,SV.aC,SV.ok,SV.ax]) (an (by simp) (by simp [Ob.ok]) (Sh.od _ (show 11≤12 by omega))) (aG (by simp))
 ·obtain ⟨x,hx,rfl⟩:=fV he
  exact hwf.old x hx
 ·obtain ⟨⟨xs,A,ac⟩,p1,p2,p3⟩:=p
  dsimp only at*;have hxs:=zc hwf p1 hall;refine ⟨⟨[(3,.ptr 10 0)],({ S with fZ:=A,ca:=ac}:Sh).lD,11⟩,id,aK.same (by simp) (by simp [bp,List.lookup,SV.aC,SV.ok,SV.ax]) (Sh.od _ (Nat.le_refl 11)) (fun y hy=>by
   simp only [List.mem_cons,List.not_mem_nil,or_false] at hy;rcases hy with rfl | rfl | rfl | rfl | rfl | rfl | rfl <;> rfl),?_⟩
  rw [if_pos rfl];obtain ⟨S1,vo⟩:∃ S1:Sh,({ S with fZ:=A,ca:=ac}:Sh)=S1:=⟨_,rfl⟩;have hB1:jI l S1:=by rw [← vo];exact ⟨hB.ops,⟨hB.tok.cr,hB.tok.no⟩,hB.tn,hB.tr,hB.md⟩
  have hA1:j4 S1 S1.ops S1.fZ S1.ca:=by
   rw [← vo];exact p3.to hxs fun o ho=>S.sJ A ac S.l9 S.cl ho
  have hops:S1.ops=S.ops∧S1.co=S.co:=by rw [← vo];exact ⟨rfl,rfl⟩
  have hSb:({ S1 with l9:=[],cl:=0}:Sh)=S1:=by
   rw [← vo];have h2:=hSa.2.1;have h3:=hSa.2.2;cases S;dsimp only at h2 h3 ⊢;rw [h2,h3]
  rw [vo];have hwf1:=hB1.ops.wf;have hkd1:∀ x,x∈S1.ops→x.2.2.kind<256∧x.2.2.mN:=fun x hx=>hkd x (by rw [← hops.1];exact hx)
  refine SW.seq (SW.seq ?_);refine SW.g0 [0,2,3,5,7,8,9,10,11,19,20,21,22,36,49,51,63,73,75,87] mixed af ?_;refine SW.block ?_
  refine SW.q_ (es:=fun _=>au Dt.cells ov S1.ops) (c:=fun _=>S1.co) (uG:=fun _=>11) (nm:=fun _=>7) (since:=fun _=>S1.co) (Bv:=fun _=>S1.co)
   (α:={p:MM Dt ag×MM Dt Dt×Nat // (∀ x,x∈p.1→x∈S1.ops)∧(p.1.map (·.1)).Nodup∧oD S1 p.1 p.2.1 p.2.2})
   (fun p=>⟨[(73,.it 11),(3,.ptr 10 0)],(11,.iter (some 7) S1.co (p.1.1.map (·.1)) S1.co)::({ S1 with l9:=p.1.2.1,cl:=p.1.2.2}:Sh).lD,12⟩)
   (fun p=>jd (au Dt.cells ov S1.ops) (p.1.1.map (·.1))) ⟨([],[],0),by simp,by simp,MM.kR,fun d v=>by simp [MM.get]⟩ id (seen:=fun p=>p.1.1.map (·.1)) ?_ (fun p=>by simp [List.lookup]) (fun p=>by simp [aa]) (fun p=>by simp [aa]) (fun p=>by decide) (fun p e he=> ?_) (fun p=>Nat.le_refl _) (fun p hall=> ?_) (fun p e he hs=> ?_)
  ·show aK 0 _ ⟨[(73,.it 11),(3,.ptr 10 0)],(11,.iter (some 7) S1.co [] S1.co)::({ S1 with l9:=[],cl:=0}:Sh).lD,12⟩ id
   rw [hSb];exact aK.same (by simp) (by simp [bp,List.lookup,SV.aC,SV.ok,SV.ax]) (an (by simp) (by simp [Ob.ok]) (Sh.od _ (show 11≤12 by omega))) (aG (by simp))
  ·obtain ⟨x,hx,rfl⟩:=fV he
   exact hwf1.old x hx
  ·obtain ⟨⟨xs2,B,bc⟩,r1,r2,r3⟩:=p
   dsimp only at*;have hxs2:=zc hwf1 r1 hall;refine ⟨⟨[(3,.ptr 10 0)],({ S1 with l9:=B,cl:=bc}:Sh).lD,11⟩,id,aK.same (by simp) (by simp [bp,List.lookup,SV.aC,SV.ok,SV.ax]) (Sh.od _ (Nat.le_refl 11)) (fun y hy=>by
    simp only [List.mem_cons,List.not_mem_nil,or_false] at hy;rcases hy with rfl | rfl | rfl | rfl | rfl | rfl | rfl <;> rfl),?_⟩
   rw [if_pos rfl];refine SW.seq ?_;refine SW.g0 [0,2,3,5,7,8,9,10,11,19,20,21,22,36,49,51,63,73,75,87] mixed af ?_;refine SW.ret ?_;refine End.mk ({ S1 with l9:=B,cl:=bc}:Sh).lD (h4:=⟨{ S1 with l9:=B,cl:=bc},⟨⟨hB1.ops,⟨hB1.tok.cr,hB1.tok.no⟩,hB1.tn,hB1.tr,hB1.md⟩,hA1.to (fun _=>Iff.rfl) fun o ho=> ?_,r3.to hxs2 fun o ho=>S1.zb B bc ho⟩,rfl,rfl⟩) (h6:=Sh.od _ (Nat.le_refl 11));exact S1.sJ S1.fZ S1.ca B bc ho
  ·obtain ⟨⟨xs,B,bc⟩,p1,p2,p3⟩:=p
   dsimp only at*;obtain ⟨x,hx,rfl⟩:=fV he;dsimp only at hs;have g5:(xs.map (·.1)++[x.1]).getLast? =some x.1:=by simp
   have g6:=mz (kc:=Dt.cells) (vs:=ov) hwf1.times hx;have eov:∀ o,ov o= .agg o.cells:=fun _=>rfl
   obtain ⟨q1,q2,hxt⟩:=wI p1 p2 hx hs;have hu:∀ y,y∈xs→y.2.1≠x.2.1:=fun y hy e=>by
    have h1:=rA hwf1.keys (p1 y hy);have h2:=rA hwf1.keys hx;have hp:=List.nodup_iff_pairwise_ne.1 hwf1.keys;unfold MM.keys at hp;rw [List.pairwise_map] at hp;obtain ⟨i,hi,e1⟩:=List.getElem_of_mem (p1 y hy);obtain ⟨j,hj,e2⟩:=List.getElem_of_mem hx;rcases Nat.lt_trichotomy i j with h | h | h
    ·exact List.pairwise_iff_getElem.1 hp i j hi hj h (by rw [e1,e2];exact e)
    ·subst h
     exact hxt (List.mem_map.2 ⟨y,hy,by rw [← e1,← e2]⟩)
    ·exact List.pairwise_iff_getElem.1 hp j i hj hi h (by rw [e1,e2];exact e.symm)
   have em:(xs++[x]).map (·.1)=xs.map (·.1)++[x.1]:=by simp
   have hm:=mB he hs;obtain ⟨k1,k2⟩:=hkd1 x hx;rw [jD];refine SW.block (SW.seq ?_);refine SW.g0 [0,2,3,5,7,8,9,10,11,19,20,21,22,36,49,51,63,73,75,87] mixed (And.intro (g5) (And.intro (g6) (eov))) ?_;refine SW.seq ?_
   by_cases h3:x.2.2.kind=4
   ·have z3:(((x.2.2.kind:Nat):Int) == 4)=true:=by rw [h3];rfl
    have hw:∀ k,aF Tryz.prog shape_Shape_Why.f [.ptr 10 0,.agg x.2.2.cells] ({ S1 with l9:=B,cl:=bc}:Sh).lD k 0 (i64 (S1.fJ x.2.2)) ({ S1 with l9:=B,cl:=bc}:Sh).lD:=fun k=>by
     have:=Sh.JM { S1 with l9:=B,cl:=bc} hB1.tn x.2.2 k1 k2 k;rw [show Sh.fJ { S1 with l9:=B,cl:=bc} x.2.2=S1.fJ x.2.2 from S1.zb B bc h3] at this;exact this
    by_cases h0:S1.fJ x.2.2=0
    ·have z0:(((S1.fJ x.2.2:Nat):Int) == 0)=true:=by rw [h0];rfl
     refine SW.g1 [0,2,3,5,7,8,9,10,11,19,20,21,22,36,49,51,63,73,75,87] mixed (And.intro (z3) (z0)) hw ?_;refine SW.aj rfl ?_;refine SW.g0 [0,2,3,5,7,8,9,10,11,19,20,21,22,36,49,51,63,73,75,87] mixed (H9 B bc x.2.1 x.2.2.at_) ?_;refine ⟨⟨(xs++[x],MM.put B bc x.2.1 x.2.2.at_,MM.jl B bc x.2.1),q1,q2,p3.put ⟨h3,h0⟩ hu⟩,id,by rw [em];exact hm,?_⟩;dsimp only;rw [em];refine aK.same (by simp) (by simp [bp,List.lookup,SV.aC,SV.ok,SV.ax]) (an (by simp) (by simp [Ob.ok]) (Sh.od _ (show 11≤12 by omega))) (fun y hy=> ?_);simp only [List.mem_cons,List.not_mem_nil,or_false] at hy;rcases hy with rfl | rfl | rfl | rfl | rfl | rfl | rfl | rfl <;> rfl
    ·
     have z0:(((S1.fJ x.2.2:Nat):Int) == 0)=false:=by simpa using h0
     refine SW.g1 [0,2,3,5,7,8,9,10,11,19,20,21,22,36,49,51,63,73,75,87] mixed (And.intro (z3) (z0)) hw ?_;refine SW.ah rfl (SW.skip ?_);refine ⟨⟨(xs++[x],B,bc),q1,q2,p3.skip fun h=>h0 h.2⟩,id,by rw [em];exact hm,?_⟩;dsimp only;rw [em];refine aK.same (by simp) (by simp [bp,List.lookup,SV.aC,SV.ok,SV.ax]) (an (by simp) (by simp [Ob.ok]) (Sh.od _ (show 11≤12 by omega))) (fun y hy=> ?_);simp only [List.mem_cons,List.not_mem_nil,or_false] at hy;rcases hy with rfl | rfl | rfl | rfl | rfl | rfl | rfl | rfl <;> rfl
   ·have z3:(((x.2.2.kind:Nat):Int) == 4)=false:=by simp;omega
    refine SW.g0 [0,2,3,5,7,8,9,10,11,19,20,21,22,36,49,51,63,73,75,87] mixed (z3) ?_;refine SW.ah rfl (SW.skip ?_);refine ⟨⟨(xs++[x],B,bc),q1,q2,p3.skip fun h=>h3 h.1⟩,id,by rw [em];exact hm,?_⟩;dsimp only;rw [em];refine aK.same (by simp) (by simp [bp,List.lookup,SV.aC,SV.ok,SV.ax]) (an (by simp) (by simp [Ob.ok]) (Sh.od _ (show 11≤12 by omega))) (fun y hy=> ?_);simp only [List.mem_cons,List.not_mem_nil,or_false] at hy;rcases hy with rfl | rfl | rfl | rfl | rfl | rfl | rfl | rfl <;> rfl
 ·obtain ⟨⟨xs,A,ac⟩,p1,p2,p3⟩:=p
  dsimp only at*;obtain ⟨x,hx,rfl⟩:=fV he;dsimp only at hs;have g5:(xs.map (·.1)++[x.1]).getLast? =some x.1:=by simp
  have g6:=mz (kc:=Dt.cells) (vs:=ov) hwf.times hx;have eov:∀ o,ov o= .agg o.cells:=fun _=>rfl
  obtain ⟨q1,q2,_⟩:=wI p1 p2 hx hs;have em:(xs++[x]).map (·.1)=xs.map (·.1)++[x.1]:=by simp
  have hm:=mB he hs;obtain ⟨k1,k2⟩:=hkd x hx;rw [jD];refine SW.block (SW.seq ?_);refine SW.g0 [0,2,3,5,7,8,9,10,11,19,20,21,22,36,49,51,63,73,75,87] mixed (And.intro (g5) (And.intro (g6) (eov))) ?_;refine SW.seq ?_
  by_cases h3:x.2.2.kind=3
  ·have z3:(((x.2.2.kind:Nat):Int) == 3)=true:=by rw [h3];rfl
   have hw:∀ k,aF Tryz.prog shape_Shape_Why.f [.ptr 10 0,.agg x.2.2.cells] ({ S with fZ:=A,ca:=ac}:Sh).lD k 0 (i64 (S.fJ x.2.2)) ({ S with fZ:=A,ca:=ac}:Sh).lD:=fun k=>by
    have:=Sh.JM { S with fZ:=A,ca:=ac} hB.tn x.2.2 k1 k2 k;rw [show Sh.fJ { S with fZ:=A,ca:=ac} x.2.2=S.fJ x.2.2 from S.sJ A ac S.l9 S.cl h3] at this;exact this
   by_cases h0:S.fJ x.2.2=0
   ·have z0:(((S.fJ x.2.2:Nat):Int) == 0)=true:=by rw [h0];rfl
    refine SW.g1 [0,2,3,5,7,8,9,10,11,19,20,21,22,36,49,51,63,73,75,87] mixed (And.intro (z3) (z0)) hw ?_;refine SW.aj rfl ?_;refine SW.g0 [0,2,3,5,7,8,9,10,11,19,20,21,22,36,49,51,63,73,75,87] mixed af ?_;refine ⟨⟨(xs++[x],MM.put A ac x.2.1 1,MM.jl A ac x.2.1),q1,q2,p3.put ⟨h3,h0⟩⟩,id,by rw [em];exact hm,?_⟩;dsimp only;rw [em];refine aK.same (by simp) (by simp [bp,List.lookup,SV.aC,SV.ok,SV.ax]) (an (by simp) (by simp [Ob.ok]) (Sh.od _ (show 11≤12 by omega))) (fun y hy=> ?_);simp only [List.mem_cons,List.not_mem_nil,or_false] at hy;rcases hy with rfl | rfl | rfl | rfl | rfl | rfl | rfl | rfl <;> rfl
   ·
    have z0:(((S.fJ x.2.2:Nat):Int) == 0)=false:=by simpa using h0
    refine SW.g1 [0,2,3,5,7,8,9,10,11,19,20,21,22,36,49,51,63,73,75,87] mixed (And.intro (z3) (z0)) hw ?_;refine SW.ah rfl (SW.skip ?_);refine ⟨⟨(xs++[x],A,ac),q1,q2,p3.skip fun h=>h0 h.2⟩,id,by rw [em];exact hm,?_⟩;dsimp only;rw [em];refine aK.same (by simp) (by simp [bp,List.lookup,SV.aC,SV.ok,SV.ax]) (an (by simp) (by simp [Ob.ok]) (Sh.od _ (show 11≤12 by omega))) (fun y hy=> ?_);simp only [List.mem_cons,List.not_mem_nil,or_false] at hy;rcases hy with rfl | rfl | rfl | rfl | rfl | rfl | rfl | rfl <;> rfl
  ·have z3:(((x.2.2.kind:Nat):Int) == 3)=false:=by simp;omega
   refine SW.g0 [0,2,3,5,7,8,9,10,11,19,20,21,22,36,49,51,63,73,75,87] mixed (z3) ?_;refine SW.ah rfl (SW.skip ?_);refine ⟨⟨(xs++[x],A,ac),q1,q2,p3.skip fun h=>h3 h.1⟩,id,by rw [em];exact hm,?_⟩;dsimp only;rw [em];refine aK.same (by simp) (by simp [bp,List.lookup,SV.aC,SV.ok,SV.ax]) (an (by simp) (by simp [Ob.ok]) (Sh.od _ (show 11≤12 by omega))) (fun y hy=> ?_);simp only [List.mem_cons,List.not_mem_nil,or_false] at hy;rcases hy with rfl | rfl | rfl | rfl | rfl | rfl | rfl | rfl <;> rfl
end
end
section
def jv (S:Sh):Prop:=∀ d o,MM.get S.ops d=some o→o.kind<256∧o.mN∧o.cl.length≤1048576
noncomputable def Sh.good (S:Sh)(d:Dt):Bool:=MM.has S.ops d && decide (S.fJ (S.op d)=0)
theorem MN (o:ag):cN o.cells 28 [.d o.lines]=o.cells:=rfl
section
attribute [local irreducible] SW RW aF SC ai aq
theorem CE (cl:List Cm)(hl:cl.length≤1048576):Go.Sl.Pure Tryz.prog slices_Clone_Lapi_Claim_api_Claim.f [.d (.sl cl.length (cl.flatMap Cm.ds))] (.d (.sl cl.length (cl.flatMap Cm.ds))):=by
 refine slices_Clone_Lapi_Claim_api_Claim.enter (by first | rfl | simp [SV.ok,SV.ax]) (by first | rfl | simp [Hp.ok,Ob.ok,SV.ok,SV.ax,aB.ak]) (by simp) ?_;dsimp only [slices_Clone_Lapi_Claim_api_Claim.s,Co.M,Co.J,Co.F,Co.S];refine SW.seq ?_;refine SW.g0 [0,2,4] mixed af ?_;refine SW.seq (SW.seq (SW.Mp (n:=cl.length) (cs:=cl.flatMap Cm.ds) rfl ?_ fun h0=> ?_))
 ·refine SW.ah rfl (SW.skip ?_)
  refine (?_:Sl.SW _ _ _ _ _ _);refine SW.seq ?_;have hlen:cl.length*4=cl.length*4:=rfl;refine SW.g0 [0,2,4] mixed af ?_;refine SW.freeze 1 (cl.flatMap Cm.ds) rfl (by simp) ?_;simp only [iZ,SV.iw,List.map_cons,List.map_nil,if_true,if_false,reduceIte,cM,Nat.reduceEqDiff];refine SW.ret ?_;exact End.mk [] (h4:=⟨by simp [eH],rfl⟩)
 ·have hl0:cl=[]:=List.eq_nil_of_length_eq_zero h0
  subst hl0;refine SW.aj rfl (SW.seq ?_);refine SW.g0 [0,2,4] mixed af ?_;refine SW.aJ 2 rfl ?_;refine SW.ret ?_;exact End.mk [] (h4:=⟨rfl,rfl⟩)
theorem CF:Go.Sl.Pure Tryz.prog slices_Clone_Lapi_Claim_api_Claim.f [.d .aJ] (.d .aJ):=by
 refine slices_Clone_Lapi_Claim_api_Claim.enter (by first | rfl | simp [SV.ok,SV.ax]) (by first | rfl | simp [Hp.ok,Ob.ok,SV.ok,SV.ax,aB.ak]) (by simp) ?_;dsimp only [slices_Clone_Lapi_Claim_api_Claim.s,Co.M,Co.J,Co.F,Co.S];(repeat (first | refine SW.seq ?_ | refine SW.block ?_ | refine SW.g0 [0,2,4] mixed af ?_ | refine SW.skip ?_ | refine SW.exit ?_ | refine SW.ret ?_ | refine SW.aj rfl ?_ | refine SW.ah rfl ?_));exact End.mk [] (h4:=⟨rfl,rfl⟩)
theorem KV (S:Sh)(hs:jv S)(d:Dt)(k:Nat):aF Tryz.prog slices_Clone_Lapi_Claim_api_Claim.f [.d (S.op d).lines] [] k 0 (.d (S.op d).lines) []:=by
 unfold Sh.op;cases h:MM.get S.ops d with
 | none=>exact CF.sc rfl k
 | some o=>
  obtain ⟨_,h1,h2⟩:=hs d o h;have:=(CE o.cl h2).sc rfl k
  rwa [← h1.eq] at this
set_option maxHeartbeats 4000000 in
theorem xQ (S:Sh)(hs:jv S)(d:Dt):SB Tryz.prog shape_Shape_Op.f [.ptr 0 0,.agg d.cells] S.h0 7 0 fun r F=>r= .dm [.agg (S.op d).cells,bl (MM.has S.ops d)]∧F=S.h0:=by
 refine shape_Shape_Op.enter (by simp [SV.ax,SV.ok]) (S.ok (Nat.le_refl 7)) (by simp) ?_;dsimp only [shape_Shape_Op.s,Co.M,Co.J,Co.F,Co.B,Co.bF,Co.T,Co.K,Co.E,Co.P,Co.x,Co.W,Co.D,Co.A,Co.S];have hn:=ry S;have hc:=KV S hs d;obtain ⟨o,ho⟩:∃ o,S.op d=o:=⟨_,rfl⟩;have hg:(MM.get S.ops d).getD ag.zero=o:=ho;rw [ho] at hc ⊢;have OI:=MN o;refine SW.seq ?_;refine SW.g0 [0,1,3,4,5,6,7,9] mixed af ?_;refine SW.seq (SW.seq ?_);refine SW.g1 [0,1,3,4,5,6,7,9] mixed af hn ?_;refine SW.ah rfl (SW.skip ?_);refine SW.seq ?_;refine SW.g0 [0,1,3,4,5,6,7,9] mixed (hg) ?_;refine SW.seq ?_;refine SW.g1 [0,1,3,4,5,6,7,9] mixed (OI) hc ?_;refine SW.seq ?_;refine SW.g0 [0,1,3,4,5,6,7,9] mixed af ?_;refine SW.ret ?_;exact End.mk S.h0 (h4:=⟨rfl,rfl⟩) (h6:=S.ok (Nat.le_refl 7))
theorem MO (S:Sh)(hs:jv S)(d:Dt)(k:Nat):aF Tryz.prog shape_Shape_Op.f [.ptr 0 0,.agg d.cells] S.h0 k 0 (.dm [.agg (S.op d).cells,bl (MM.has S.ops d)]) S.h0:=
 S.at_ (xQ S hs d) (fun ρ=>by simp [SV.aT,SV.aC,Dt.ay]) (fun ρ=>by simp [SV.aT,SV.aC,ag.ay]) n0 ru k
set_option maxHeartbeats 4000000 in
theorem FF (S:Sh)(hu:S.tn)(hs:jv S)(d:Dt):SB Tryz.prog shape_Shape_Good.f [.ptr 0 0,.agg d.cells] S.h0 7 0 fun r F=>r=bl (S.good d)∧F=S.h0:=by
 refine shape_Shape_Good.enter (by simp [SV.ax,SV.ok]) (S.ok (Nat.le_refl 7)) (by simp) ?_;dsimp only [shape_Shape_Good.s,Co.M,Co.G,Co.J,Co.H,Co.F,Co.C,Co.Z,Co.B,Co.bF,Co.K,Co.E,Co.Q,Co.x,Co.W,Co.U,Co.S];have hc:=MO S hs d;obtain ⟨o,ho⟩:∃ o,S.op d=o:=⟨_,rfl⟩;have hG:S.good d=(MM.has S.ops d && decide (S.fJ o=0)):=by unfold Sh.good;rw [ho]
 rw [ho] at hc;refine SW.seq ?_;refine SW.g0 [0,1,3,4,5,6] mixed af ?_;refine SW.seq ?_;refine SW.g1 [0,1,3,4,5,6] mixed af hc ?_;refine SW.seq ?_;rcases h:MM.has S.ops d with _ | _
 ·refine SW.g0 [0,1,3,4,5,6] mixed af ?_
  refine SW.ret ?_;exact End.mk S.h0 (h4:=⟨by rw [hG,h];rfl,rfl⟩) (h6:=S.ok (Nat.le_refl 7))
 obtain ⟨o',ho'⟩:=Option.isSome_iff_exists.1 (show (MM.get S.ops d).isSome=true from h);have e:o'=o:=by rw [← ho];unfold Sh.op;rw [ho'];rfl
 subst e;obtain ⟨k1,k2,_⟩:=hs d o' ho';have hw:∀ k,aF Tryz.prog shape_Shape_Why.f [.ptr 0 0,.agg o'.cells] S.h0 k 0 (i64 (S.fJ o')) S.h0:=fun k=>S.MJ hu o' k1 k2 n0 ru k
 have hz:(((S.fJ o':Nat):Int) == 0)=decide (S.fJ o'=0):=by rw [Bool.eq_iff_iff];simp
 refine SW.g1 [0,1,3,4,5,6] mixed (hz) hw ?_;refine SW.ret ?_;exact End.mk S.h0 (h4:=⟨by rw [hG,h];simp [eH],rfl⟩) (h6:=S.ok (Nat.le_refl 7))
theorem ze (S:Sh)(hu:S.tn)(hs:jv S)(d:Dt)(n:Sn)(hn:n.ok)(k:Nat):aF Tryz.prog shape_Shape_Good.f [.ptr n.b 0,.agg d.cells] (S.hp n) k 0 (bl (S.good d)) (S.hp n):=
 S.at_ (FF S hu hs d) (fun ρ=>by simp [SV.aT,SV.aC,Dt.ay]) (fun _=>rfl) n hn k
end
end
section
def i_ (l:List ag)(d:Dt):ag:=(aS l d).getD ag.zero
def oe (l:List ag)(d:Dt)(o:ag):Bool:=(aS l d).isSome && (i_ l d).before o
def nX (l:List ag)(o:ag):Bool:=if o.kind=0 then decide (o.aH=o.dot) else (aS l o.aH).isSome && (decide ((i_ l o.aH).kind=0) && (decide ((i_ l o.aH).aH=(i_ l o.aH).dot) && (i_ l o.aH).before o))
def oE (l:List ag)(tr:MM Dt Cr)(d:Dt)(o:ag):Bool:=MM.has tr d && (decide (((MM.get tr d).getD Cr.zero).aH=o.aH) && oe l d o)
def wJ (tr:MM Dt Cr)(md:MM Dt ag)(o:ag):Nat:=Tr.why ⟨0,1,2,tr,0,md,0⟩ o
def iP (l:List ag)(tr:MM Dt Cr)(md:MM Dt ag)(o:ag)(t:Bool):Nat:=
 if decide ((o.kind:Int)>8) then 2 else if !nX l o then 271 else if !((o.kind:Int) == 0) && !oE l tr o.aN o then 272 else if !((o.kind:Int) == 0) && ((((MM.get tr o.aN).getD Cr.zero).hold:Int) != (o.who:Int)) then 273
 else if j9 ((MM.get tr o.aN).getD Cr.zero) o.kind then 274 else if decide (o.kind=1) && decide (wJ tr md o≠0) then 275 else if !t then 276 else 0
def Im (l:List ag)(tr:MM Dt Cr)(md:MM Dt ag)(d:Dt):Bool:=match aS l d with
 | some o=>decide (o.kind=3) && decide (iP l tr md o true=0)
 | none=>false
def mF (l:List ag)(tr:MM Dt Cr)(md:MM Dt ag)(d:Dt)(o:ag):Bool:=Im l tr md d && (decide ((i_ l d).aH=o.aH) && oe l d o)
def FG (l:List ag)(tr:MM Dt Cr)(md:MM Dt ag)(d:Dt):Option Dt:=match aS l d with
 | some o=>if o.kind=4∧iP l tr md o (mF l tr md o.at_ o)=0 then some o.at_ else none
 | none=>none
def oF (l:List ag)(tr:MM Dt Cr)(md:MM Dt ag)(c:Cm)(o:ag):Bool:=mF l tr md c.line o && (decide (c.lC=c.line) || ((FG l tr md c.lC).isSome && (decide ((FG l tr md c.lC).getD ⟨0,0⟩=c.line) && oe l c.lC o)))
def nR (l:List ag)(tr:MM Dt Cr)(md:MM Dt ag)(o:ag)(ab:Bool):Bool:=
 if o.kind=2 then oE l tr o.at_ o && ab else if o.kind=4∨o.kind=5 then mF l tr md o.at_ o else if o.kind=6∨o.kind=7 then oF l tr md ⟨o.at_,o.lC⟩ o else if o.kind=8 then !(o.cl.any fun c=> !oF l tr md c o) else true
def rB (l:List ag)(tr:MM Dt Cr)(md:MM Dt ag)(o:ag)(ab:Bool):Nat:=iP l tr md o (nR l tr md o ab)
section
variable {l:List ag} {S:Sh} (hB:jI l S)
include hB
theorem jI.op (d:Dt):S.op d=i_ l d:=by unfold Sh.op i_;rw [hB.ops.get]
theorem jI.has (d:Dt):MM.has S.ops d=(aS l d).isSome:=by unfold MM.has;rw [hB.ops.get]
theorem jI.xL (d:Dt)(o:ag):S.xL d o=oe l d o:=by unfold Sh.xL oe;rw [hB.op,hB.has]
theorem jI.aH (o:ag):S.aH o=nX l o:=by unfold Sh.aH nX;rw [hB.op,hB.has]
theorem jI.z_ (d:Dt)(o:ag):S.z_ d o=oE l S.tr d o:=by unfold Sh.z_ oE Sh.cr;rw [hB.xL]
theorem jI.NZ (o:ag):S.T.why o=wJ S.tr S.md o:=rfl
theorem jI.why (o:ag)(ab:Bool):S.why o ab=iP l S.tr S.md o (S.tgt o ab):=by
 unfold Sh.why iP;rw [← hB.aH,← hB.z_,← hB.NZ];rfl
end
theorem jI.MP {l:List ag}{S:Sh}(hB:jI l S){o:ag}(hk:o.kind=3):S.fJ o=iP l S.tr S.md o true:=by
 unfold Sh.fJ;rw [hB.why];have:S.tgt o (S.G7 o.aN o.at_)=true:=by unfold Sh.tgt;rw [if_neg (by omega),if_neg (by omega),if_neg (by omega),if_neg (by omega)]
 rw [this]
section
variable {l:List ag} {S:Sh} (h:bR l S)
include h
theorem bR.add (d:Dt):decide (0<(MM.get S.fZ d).getD 0)=Im l S.tr S.md d:=by
 rw [Bool.eq_iff_iff,decide_eq_true_eq];unfold Im;constructor
 ·intro h1
  cases hg:MM.get S.fZ d with
  | none=>rw [hg] at h1;exact absurd h1 (by decide)
  | some v=>
   obtain ⟨_,x,hx,e,h3,h4⟩:=(h.fZ.2 d v).1 hg;have h5:=rA h.base.ops.wf.keys hx;rw [e,h.base.ops.get] at h5;rw [h5];rw [h.base.MP h3] at h4;simp [h3,h4]
 ·intro h1
  cases ho:aS l d with
  | none=>rw [ho] at h1;cases h1
  | some o=>
   rw [ho] at h1;simp only [Bool.and_eq_true,decide_eq_true_eq] at h1;obtain ⟨x,hx,e1,e2⟩:=get_mem (show MM.get S.ops d=some o by rw [h.base.ops.get];exact ho);have h2:=(h.fZ.2 d 1).2 ⟨rfl,x,hx,e1,by rw [e2];exact h1.1,by rw [e2,h.base.MP h1.1];exact h1.2⟩;rw [h2];decide
theorem bR.line (d:Dt)(o:ag):S.line d o=mF l S.tr S.md d o:=by unfold Sh.line mF;rw [h.add,h.base.op,h.base.xL]
theorem bR.set (d:Dt):MM.get S.l9 d=FG l S.tr S.md d:=by
 have hw:∀ o:ag,o.kind=4→S.fJ o=iP l S.tr S.md o (mF l S.tr S.md o.at_ o):=fun o hk=>by
  unfold Sh.fJ;rw [h.base.why,← h.line];have:S.tgt o (S.G7 o.aN o.at_)=S.line o.at_ o:=by unfold Sh.tgt;rw [if_neg (by omega),if_pos (.inl hk)]
  rw [this]
 refine Option.ext fun v=> ?_
 rw [h.l9.2];unfold FG;constructor
 ·rintro ⟨x,hx,e,h3,h4,rfl⟩
  have h5:=rA h.base.ops.wf.keys hx;rw [e,h.base.ops.get] at h5;rw [h5];rw [hw _ h3] at h4;exact if_pos ⟨h3,h4⟩
 ·intro h1
  cases ho:aS l d with
  | none=>rw [ho] at h1;cases h1
  | some o=>
   rw [ho] at h1;dsimp only at h1
   split at h1
   ·rename_i h2
    injection h1 with h1;obtain ⟨x,hx,e1,e2⟩:=get_mem (show MM.get S.ops d=some o by rw [h.base.ops.get];exact ho);exact ⟨x,hx,e1,by rw [e2];exact h2.1,by rw [e2,hw _ h2.1];exact h2.2,by rw [e2];exact h1.symm⟩
   ·cases h1
theorem bR.tu (c:Cm)(o:ag):S.tu c o=oF l S.tr S.md c o:=by
 unfold Sh.tu oF MM.has;rw [h.line,h.set,h.base.xL]
theorem bR.tgt (o:ag)(ab:Bool):S.tgt o ab=nR l S.tr S.md o ab:=by
 unfold Sh.tgt nR;simp only [h.line,h.tu,h.base.z_]
theorem bR.why (o:ag)(ab:Bool):S.why o ab=rB l (aA l).at_ (aA l).made o ab:=by
 unfold rB;rw [h.base.why,h.tgt,h.base.tr,h.base.md]
theorem bR.fJ (o:ag):S.fJ o=rB l (aA l).at_ (aA l).made o (fG (aA l).at_ o.aN o.at_ (nQ (aA l).at_ o.at_)):=by
 unfold Sh.fJ;rw [h.why];unfold Sh.G7;rw [h.base.tr]
end
end
section
theorem uR (c:Cr):j9 c 0=false:=by
 unfold j9;have h:(fI 0:Int)=((0:Nat):Int):=rfl;rw [h,and_eq];simp
structure Io (t l:List ag)(A:ag→Prop):Prop where
 uniq:HI l
 NW:HI t
 sub:∀ o,o∈t→o∈l
 vD:∀ o,A o→o∈t
 H6:∀ o a,A o→a∈l→a.before o=true→a.aH=o.aH→A a
theorem kA.aH {l:List ag}{U:Tr}(hU:kA l U){d:Dt}{c:Cr}(hc:MM.get U.at_ d=some c):∃ a,aS l d=some a∧c.aH=a.aH:=by
 obtain ⟨a,_,ha⟩:=hU.cr d c hc;refine ⟨a,ha.fd,?_⟩;rcases ha.how with ⟨_,h2,h3⟩ | ⟨p,q,_,_,hb⟩
 ·rw [h3];show a.dot=a.aH;rw [h2,gW ha.fd]
 ·rw [hb.is]
section
variable {t l:List ag} {A:ag→Prop} (h:Io t l A)
include h
variable {T U:Tr} (hT:kA t T) (hU:kA l U)
include hT hU
end
end
section
noncomputable def gI (l:List ag)(o:ag):Nat:=rB l (aA l).at_ (aA l).made o (fG (aA l).at_ o.aN o.at_ (nQ (aA l).at_ o.at_))
theorem Ip (l:List ag)(o:ag):wJ (aA l).at_ (aA l).made o=(fz l (c_ l 10 o.aN) o).2:=((eE l).why o).symm
theorem eM {l:List ag}{d:Dt}{a:ag}(h:aS l d=some a):i_ l d=a:=by unfold i_;rw [h];rfl
theorem zf {l:List ag}{d:Dt}{o:ag}:oE l (aA l).at_ d o=true↔∃ c a,MM.get (aA l).at_ d=some c∧aS l d=some a∧a.before o=true∧a.aH=o.aH∧c.aH=o.aH:=by
 unfold oE MM.has oe;constructor
 ·intro h
  simp only [Bool.and_eq_true,decide_eq_true_eq] at h;obtain ⟨h1,h2,h3,h4⟩:=h;obtain ⟨c,hc⟩:=Option.isSome_iff_exists.1 h1;obtain ⟨a,ha,e⟩:=(eE l).aH hc;rw [eM ha] at h4;rw [hc] at h2;have h2:c.aH=o.aH:=h2;exact ⟨c,a,hc,ha,h4,by rw [← e,h2],h2⟩
 ·rintro ⟨c,a,h1,h2,h3,h4,h5⟩
  rw [h1,eM h2,h2];simp [h3,h5]
section
variable {t l:List ag} {A:ag→Prop} (h:Io t l A)
include h
end
section
variable {t l:List ag} {A:ag→Prop} (h:Io t l A)
include h
end
end
section
theorem zg {l :List ag}{tr:MM Dt Cr}{md:MM Dt ag}{o:ag}{x:Bool}:Go.Proofs.YtaelhkkjgfobhaaGreat.iP l tr md o x=0↔ ¬ (o.kind:Int)>8∧nX l o=true∧(o.kind≠0→oE l tr o.aN o=true∧((((MM.get tr o.aN).getD Cr.zero).hold:Int)=(o.who:Int))∧j9 ((MM.get tr o.aN).getD Cr.zero) o.kind=false)∧(o.kind=1→wJ tr md o=0)∧x=true:=by
 unfold Go.Proofs.YtaelhkkjgfobhaaGreat.iP
 by_cases h8:(o.kind:Int)>8
 ·rw [decide_eq_true h8];simp [h8]
 rw [decide_eq_false h8];cases hc:nX l o with
 | false=>simp
 | true=>
  by_cases hk:o.kind=0
  ·have hk':((o.kind:Int) == 0)=true:=by rw [hk];rfl
   rw [hk',hk,uR];cases x <;> simp
  ·have hk':((o.kind:Int) == 0)=false:=by simp;exact hk
   rw [hk'];cases h1:oE l tr o.aN o with
   | false=>simp [hk]
   | true=>
    by_cases h2:(((MM.get tr o.aN).getD Cr.zero).hold:Int)=(o.who:Int)
    ·have h2':((((MM.get tr o.aN).getD Cr.zero).hold:Int) != (o.who:Int))=false:=by simpa using h2
     rw [h2'];cases h3:j9 ((MM.get tr o.aN).getD Cr.zero) o.kind with
     | true=>simp [hk]
     | false=>
      by_cases h4:o.kind=1
      ·by_cases h5:wJ tr md o=0
       ·rw [h5];cases x <;> simp [h2];omega
       ·cases x <;> simp [h4,h5]
      ·cases x <;> simp [h4,h2];omega
    ·have h2':((((MM.get tr o.aN).getD Cr.zero).hold:Int) != (o.who:Int))=true:=by simpa using h2
     rw [h2'];simp [hk,h2]
section
variable {t l:List ag} {A:ag→Prop} (h:Io t l A) (hA:∀ o,o∈t→A o)
include h hA
end
theorem bR.good {l:List ag}{S:Sh}(h:bR l S)(d:Dt):S.good d=match aS l d with
  | some o=>decide (gI l o=0)
  | none=>false:=by
 unfold Sh.good;rw [h.base.has,h.base.op,h.fJ];cases hf:aS l d with
 | none=>rfl
 | some o=>rw [eM hf];rfl
end
end Go.Proofs.YtaelhkkjgfobhaaGreat
