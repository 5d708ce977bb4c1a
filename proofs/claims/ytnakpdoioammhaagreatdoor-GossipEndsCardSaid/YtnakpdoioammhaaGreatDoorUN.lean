/-
 Buffers, in plain Lean: what waits, what is handed on next, what is handed on in the end.
-/
import Derived.Test.YtnakpdoioammhaaGreatDoorUL
import Derived.Test.YtnakpdoioammhaaGreatDoorU8
set_option linter.unusedSectionVars false
set_option linter.unusedVariables false
set_option linter.unusedSimpArgs false
namespace Go.Sl
section
theorem yQ {v:ag}{d:Dt}:v.aV d=true↔(d.r<8∧0<d.n)∧d.n≤v.get d.r:=by
 simp only [ag.aV,Dt.may,Bool.and_eq_true,decide_eq_true_eq]
def wJ (has:ag)(L:List ah)(o:ah):List ah:=if (dD L o.dot).isSome || has.aV o.dot then L else L++[o]
def mN (has:ag)(L l:List ah):List ah:=l.foldl (wJ has) L
def kT (has:ag)(o:ah):Bool:=decide (o.dot.r<8∧has.get o.dot.r+1=o.dot.n) && has.above o.dep
def eN (has:ag)(L:List ah):Option ah:=(aA L).find? (kT has)
def nK (L:List ah)(d:Dt):List ah:=L.filter fun o=> !decide (o.dot=d)
def drain:Nat→ag→List ah→List ah×ag×List ah
 | 0,has,L=>([],has,L)
 | k+1,has,L=>match eN has L with
  | none=>([],has,L)
  | some o=>let r:=drain k (has.set o.dot.r o.dot.n) (nK L o.dot);(o::r.1,r.2)
def A2 (has:ag)(L l:List ah):List ah×ag×List ah:=drain (mN has L l).length has (mN has L l)
theorem mO {has:ag}{L:List ah}{o:ah}(h:eN has L=some o):o∈L∧kT has o=true:=
 ⟨(aT L).mem_iff.1 (List.mem_of_find?_eq_some h),List.find?_some h⟩
theorem yR {L:List ah}{d:Dt}{o:ah}:o∈nK L d↔o∈L∧o.dot≠d:=by
 unfold nK;rw [List.mem_filter];simp
theorem A3 {L:List ah}{o:ah}(ho:o∈L):(nK L o.dot).length<L.length:=by
 unfold nK
 rw [← List.countP_eq_length_filter]
 refine Nat.lt_of_le_of_ne List.countP_le_length fun e=> ?_
 have:=List.countP_eq_length.1 e o ho
 simp at this
theorem qU {has:ag}{o:ah}:kT has o=true↔(o.dot.r<8∧has.get o.dot.r+1=o.dot.n)∧has.above o.dep=true:=by
 unfold kT;rw [Bool.and_eq_true,decide_eq_true_eq]
inductive HL (S:List ah):ah→Prop
 | mk (o:ah) (h:o∈S) (f:Nat→ah) (hf:∀ r,r<8→0<o.dep.get r→HL S (f r)) (he:∀ r,r<8→0<o.dep.get r→(f r).dot=⟨r,o.dep.get r⟩):HL S o
structure H_ (n:Nat)(S:List ah):Prop where
 n8:n≤8
 uniq:cS S
 form:∀ o,o∈S→Form n o
structure Ia (S:List ah)(has:ag)(L:List ah):Prop where
 snd:∀ d,has.aV d=true→∃ a,a.dot=d∧HL S a
 wt:∀ o,o∈L↔o∈S∧has.aV o.dot=false
 uniq:cS L
structure Full (S:List ah)(has:ag)(L:List ah):Prop extends Ia S has L where
 cmp:∀ o,HL S o→has.aV o.dot=true
end
section
def vals (M:MM Dt ah):List ah:=M.map (·.2.2)
structure WB (M:MM Dt ah)(c:Nat):Prop where
 wf:MM.wf M c
 key:∀ x,x∈M→x.2.1=x.2.2.dot
section
variable {M:MM Dt ah} {c:Nat}
theorem WB.keys (h:WB M c):MM.keys M=(vals M).map (·.dot):=by
 unfold MM.keys vals
 rw [List.map_map]
 exact List.map_congr_left h.key
theorem WB.uniq (h:WB M c):cS (vals M):=by
 unfold cS;rw [← h.keys];exact h.wf.keys
theorem WB.has (h:WB M c)(d:Dt):MM.has M d=(dD (vals M) d).isSome:=by
 rw [Bool.eq_iff_iff,MM.lS,h.keys,nB,List.mem_map]
theorem g_ (M:MM Dt ah):(vals M).length=M.length:=by simp [vals]
theorem qV {d:Dt}{o:ah}(hd:MM.has M d=false):MM.put M c d o=M++[(c,d,o)]:=by
 unfold MM.put
 rw [← MM.dB] at hd
 cases hi:MM.idx M d with
 | none=>rfl
 | some i=>rw [hi] at hd;cases hd
theorem A4 {d:Dt}{o:ah}(hd:MM.has M d=false):vals (MM.put M c d o)=vals M++[o]:=by rw [qV hd];simp [vals]
theorem qW (h:WB M c)(d:Dt):vals (MM.del M d)=nK (vals M) d:=by
 rw [MM.mM h.wf.keys]
 unfold vals nK
 rw [List.filter_map]
 congr 1
 apply List.filter_congr
 intro x hx
 show decide (d≠x.2.1)= !decide (x.2.2.dot=d)
 rw [h.key x hx]
 by_cases e:x.2.2.dot=d
 ·simp [e]
 ·have e2: ¬ d=x.2.2.dot:=fun h=>e h.symm
  simp [e,e2]
theorem WB.put (h:WB M c){o:ah}(hd:MM.has M o.dot=false):WB (MM.put M c o.dot o) (c+1):=by
 rw [qV hd]
 refine ⟨⟨?_,?_,?_⟩,?_⟩
 ·unfold MM.keys
  rw [List.map_append,List.nodup_append]
  refine ⟨h.wf.keys,by simp,fun a ha b hb e=> ?_⟩
  simp at hb
  rw [← Bool.not_eq_true,MM.lS] at hd
  exact hd (by rw [← hb,← e];exact ha)
 ·rw [List.map_append,List.nodup_append]
  refine ⟨h.wf.times,by simp,fun a ha b hb e=> ?_⟩
  simp at hb
  obtain ⟨x,hx,rfl⟩:=List.mem_map.1 ha
  have:=h.wf.old x hx
  omega
 ·intro x hx
  rcases List.mem_append.1 hx with hx | hx
  ·have:=h.wf.old x hx;omega
  ·simp at hx;rw [hx];exact Nat.lt_succ_self c
 ·intro x hx
  rcases List.mem_append.1 hx with hx | hx
  ·exact h.key x hx
  ·simp at hx;rw [hx]
theorem WB.del (h:WB M c)(d:Dt):WB (MM.del M d) c:=by
 rw [MM.mM h.wf.keys]
 refine ⟨⟨?_,?_,fun x hx=>h.wf.old x (List.mem_filter.1 hx).1⟩,fun x hx=>h.key x (List.mem_filter.1 hx).1⟩
 ·exact List.Nodup.sublist (List.filter_sublist.map _) h.wf.keys
 ·exact List.Nodup.sublist (List.filter_sublist.map _) h.wf.times
end
def qX (has:ag)(X:MM Dt ah×Nat)(o:ah):MM Dt ah×Nat:=if MM.has X.1 o.dot || has.aV o.dot then X else (MM.put X.1 X.2 o.dot o,X.2+1)
def eC (has:ag)(X:MM Dt ah×Nat)(l:List ah):MM Dt ah×Nat:=l.foldl (qX has) X
theorem Dp {has:ag}{X:MM Dt ah×Nat}(h:WB X.1 X.2)(o:ah):WB (qX has X o).1 (qX has X o).2∧vals (qX has X o).1=wJ has (vals X.1) o:=by
 unfold qX wJ
 rw [← h.has]
 split
 ·exact ⟨h,rfl⟩
 ·rename_i hn
  have hd:MM.has X.1 o.dot=false:=by
   rw [Bool.or_eq_true,not_or] at hn;simpa using hn.1
  exact ⟨h.put hd,A4 hd⟩
theorem nL {has:ag}:∀ (l:List ah) {X:MM Dt ah×Nat},WB X.1 X.2→WB (eC has X l).1 (eC has X l).2∧vals (eC has X l).1=mN has (vals X.1) l
 | [],X,h=>⟨h,rfl⟩
 | o::l,X,h=>by
  obtain ⟨h1,h2⟩:=Dp (has:=has) h o
  have:=nL (has:=has) l h1
  rw [h2] at this
  exact this
theorem wK (has:ag)(X:MM Dt ah×Nat)(l:List ah)(o:ah):eC has X (l++[o])=qX has (eC has X l) o:=by
 unfold eC;rw [List.foldl_append];rfl
def fU:Nat→ag→MM Dt ah→List ah×ag×MM Dt ah
 | 0,has,M=>([],has,M)
 | k+1,has,M=>match eN has (vals M) with
  | none=>([],has,M)
  | some o=>((o::(fU k (has.set o.dot.r o.dot.n) (MM.del M o.dot)).1),(fU k (has.set o.dot.r o.dot.n) (MM.del M o.dot)).2)
theorem o4 {k:Nat}{has:ag}{M:MM Dt ah}(h:eN has (vals M)=none):fU k has M=([],has,M):=by
 cases k with
 | zero=>rfl
 | succ k=>rw [fU,h]
theorem o5 {k:Nat}{has:ag}{M:MM Dt ah}{o:ah}(h:eN has (vals M)=some o):fU (k+1) has M=(o::(fU k (has.set o.dot.r o.dot.n) (MM.del M o.dot)).1,(fU k (has.set o.dot.r o.dot.n) (MM.del M o.dot)).2):=by
 rw [fU,h]
theorem s6 {c:Nat}:∀ (k:Nat) (has:ag) (M:MM Dt ah),WB M c→WB (fU k has M).2.2 c∧((fU k has M).1,(fU k has M).2.1,vals (fU k has M).2.2)=drain k has (vals M)
 | 0,has,M,h=>⟨h,rfl⟩
 | k +1,has,M,h=>by
  rw [drain]
  cases hn:eN has (vals M) with
  | none=>rw [o4 hn];exact ⟨h,rfl⟩
  | some o=>
   rw [o5 hn]
   obtain ⟨h1,h2⟩:=s6 k (has.set o.dot.r o.dot.n) (MM.del M o.dot) (h.del o.dot)
   refine ⟨h1,?_⟩
   rw [qW h] at h2
   dsimp only
   rw [← h2]
def mP (has:ag)(X:MM Dt ah×Nat)(l:List ah):List ah×ag×MM Dt ah:=fU (eC has X l).1.length has (eC has X l).1
theorem Dq {has:ag}{X:MM Dt ah×Nat}(h:WB X.1 X.2)(l:List ah):WB (mP has X l).2.2 (eC has X l).2∧((mP has X l).1,(mP has X l).2.1,vals (mP has X l).2.2)=A2 has (vals X.1) l:=by
 obtain ⟨h1,h2⟩:=nL (has:=has) l h
 have:=s6 (c:=(eC has X l).2) (eC has X l).1.length has (eC has X l).1 h1
 unfold mP A2
 rw [h2,← g_,h2] at this
 rw [← g_,h2]
 exact this
end
section
theorem yS {n:Int}{l t:List ah}(h:kC n l)(hu:cS t)(hs:∀ o,o∈t→o∈l)(hc:∀ o a,o∈t→a∈l→a.before o=true→a∈t):kC n t:=by
 refine ⟨h.n1,h.n8,fun o ho=>h.form o (hs o ho),fun o ho=> ?_⟩
 have hf:=h.form o (hs o ho)
 have h1:=h.one o (hs o ho)
 have h8:=h.Df (hs o ho)
 have key:∀ d,o.dep.aV d=true→kS t d=1:=fun d hd=>by
  obtain ⟨a,ha,e⟩:=h.there (hs o ho) hd
  exact hu.AN ⟨a,hc o a ho ha (by unfold ah.before;rw [e];exact hd),e⟩
 refine ⟨hu.AN ⟨o,ho,rfl⟩,fun hn=>key _ ?_,fun r hr h0=>key _ ?_,fun a ha hb=>h1.HY a (hs a ha) hb⟩
 ·have:=hf.own
  exact yQ.2 ⟨⟨h8.1,by show 0<o.dot.n - 1;omega⟩,by show o.dot.n - 1≤o.dep.get o.dot.r;omega⟩
 ·exact yQ.2 ⟨⟨hr,h0⟩,Nat.le_refl _⟩
theorem iY {n:Int}{l:List ah}(h:kC n l)(d:Dt):(az l).aV d=true↔∃ a,a∈l∧a.dot=d:=by
 rw [yQ]
 constructor
 ·rintro ⟨⟨h1,h2⟩,h3⟩
  obtain ⟨a,ha,e⟩:=vb h.one d.r d.n h1 h2 h3
  exact ⟨a,ha,e⟩
 ·rintro ⟨a,ha,rfl⟩
  exact ⟨h.Df ha,iF ha (h.Df ha).1⟩
end
section
def A5:ag→List ah→Prop
 | _,[]=>True
 | has,o::T=>kT has o=true∧A5 (has.set o.dot.r o.dot.n) T
def FE (has:ag)(T:List ah):ag:=T.foldl (fun v o=>v.set o.dot.r o.dot.n) has
theorem tV {L:List ah}(h:gb L)(hu:cS L):aA L=L:=(dz hu).unique h (aT L)
theorem s7 {o:ah}{T:List ah}(h:cS (o::T)):cS T∧∀ x,x∈T→x.dot≠o.dot:=by
 unfold cS at h ⊢
 rw [List.map_cons,List.nodup_cons] at h
 exact ⟨h.2,fun x hx e=>h.1 (e ▸ List.mem_map_of_mem hx)⟩
theorem wL {o:ah}{T:List ah}(h:cS (o::T)):nK (o::T) o.dot=T:=by
 unfold nK
 rw [List.filter_cons,if_neg (by simp),List.filter_eq_self]
 intro x hx
 simpa using (s7 h).2 x hx
theorem o6:∀ (T:List ah) (k:Nat) (has:ag),gb T→cS T→A5 has T→T.length≤k→drain k has T=(T,FE has T,[])
 | [],0,has,_,_,_,_=>rfl
 | [],k+1,has,_,_,_,_=>by
  have hn:eN has []=none:=by
   cases h:eN has [] with
   | none=>rfl
   | some o=>have:=(mO h).1;cases this
  unfold drain;rw [hn];rfl
 | o::T,0,has,_,_,_,h=>by simp at h
 | o ::T,k+1,has,hr,hu,⟨h1,h2⟩,hk=>by
  have hn:eN has (o::T)=some o:=by
   unfold eN
   rw [tV hr hu,List.find?_cons_of_pos h1]
  have ih:=o6 T k (has.set o.dot.r o.dot.n) (List.pairwise_cons.1 hr).2 (s7 hu).1 h2 (by simpa using hk)
  unfold drain
  rw [hn]
  simp only [wL hu,ih]
  rfl
theorem qY {has:ag}:∀ (T L:List ah),cS (L++T)→(∀ o,o∈T→has.aV o.dot=false)→mN has L T=L++T
 | [],L,_,_=>by simp [mN]
 | o ::T,L,hu,hc=>by
  have e:L++o::T=(L++[o])++T:=by simp
  have hnl:(dD L o.dot).isSome=false:=by
   rw [Bool.eq_false_iff];intro hs
   unfold dD at hs
   rw [List.find?_isSome] at hs
   obtain ⟨x,hx,hd⟩:=hs
   unfold cS at hu
   rw [List.map_append,List.nodup_append,List.map_cons] at hu
   exact hu.2.2 _ (List.mem_map_of_mem hx) _ List.mem_cons_self (by simpa using hd)
  have h1:wJ has L o=L++[o]:=by
   unfold wJ
   rw [hnl,hc o List.mem_cons_self];rfl
  show mN has (wJ has L o) T=_
  rw [h1,e]
  exact qY T (L++[o]) (by rw [← e];exact hu) fun x hx=>hc x (List.mem_cons_of_mem _ hx)
section
variable {n:Int} {S:List ah} (hS:kC n S)
include hS
theorem kC.xR:gb (aA S):=dz hS.uniq
theorem kC.wM:cS (aA S):=by
 unfold cS
 exact ((aT S).map _).nodup_iff.2 hS.uniq
theorem qZ {P R:List ah}(e:P++R=aA S):kC n P:=by
 have hm:∀ o,o∈S↔o∈P∨o∈R:=fun o=>by rw [← (aT S).mem_iff,← e,List.mem_append]
 have hu:=hS.wM
 have hr:=hS.xR
 unfold gb at hr
 rw [← e] at hr
 rw [← e] at hu
 refine yS hS (hu.sub (List.sublist_append_left _ _)) (fun o ho=>(hm o).2 (.inl ho)) fun o a ho ha hb=> ?_
 rcases (hm a).1 ha with h | h
 ·exact h
 ·exfalso
  have h1:=hS.lt ha ((hm o).2 (.inl ho)) hb
  have h2:=(List.pairwise_append.1 hr).2.2 o ho a h
  rw [ah.lt_asymm h1] at h2;cases h2
theorem vj {P T:List ah}{o:ah}(e:P++o::T=aA S):kT (az P) o=true:=by
 have hm:∀ x,x∈S↔x∈P∨x∈o::T:=fun x=>by rw [← (aT S).mem_iff,← e,List.mem_append]
 have hoS:o∈S:=(hm o).2 (.inr List.mem_cons_self)
 have hP:=qZ hS e
 have hr:=hS.xR
 unfold gb at hr
 rw [← e] at hr
 have hnP:∀ a,a∈P→a.dot≠o.dot:=fun a ha ed=>by
  have:a=o:=hS.uniq.inj ((hm a).2 (.inl ha)) hoS ed
  subst this
  have:=(List.pairwise_append.1 hr).2.2 a ha a List.mem_cons_self
  rw [ah.lt_irrefl] at this;cases this
 have hb:∀ d,o.dep.aV d=true→(az P).aV d=true:=fun d hd=>by
  obtain ⟨a,ha,ed⟩:=hS.there hoS hd
  have hlt:=hS.lt ha hoS (by unfold ah.before;rw [ed];exact hd)
  rcases (hm a).1 ha with h | h
  ·exact (iY hP d).2 ⟨a,h,ed⟩
  ·exfalso
   rcases List.mem_cons.1 h with rfl | h
   ·rw [ah.lt_irrefl] at hlt;cases hlt
   ·have:=(List.pairwise_cons.1 (List.pairwise_append.1 hr).2.1).1 a h
    rw [ah.lt_asymm hlt] at this;cases this
 have h8:=hS.Df hoS
 have hf:=hS.form o hoS
 have hab:(az P).above o.dep=true:=ag.jO.2 fun r hr=>by
  rcases Nat.eq_zero_or_pos (o.dep.get r) with h0 | h0
  ·omega
  ·exact (yQ.1 (hb ⟨r,o.dep.get r⟩ (yQ.2 ⟨⟨hr,h0⟩,Nat.le_refl _⟩))).2
 have h1: ¬ o.dot.n≤(az P).get o.dot.r:=fun hle=>by
  obtain ⟨a,ha,ed⟩:=(iY hP o.dot).1 (yQ.2 ⟨h8,hle⟩)
  exact hnP a ha ed
 have h2:=ag.jO.1 hab o.dot.r h8.1
 have h3:=hf.own
 exact qU.2 ⟨⟨h8.1,by omega⟩,hab⟩
theorem wN {P T:List ah}{o:ah}(e:P++o::T=aA S):az (P++[o])=(az P).set o.dot.r o.dot.n:=by
 have hm:=(qU.1 (vj hS e)).1
 rw [oZ]
 unfold dx
 rw [if_pos hm.1,Nat.max_eq_right (by omega)]
theorem q8:∀ (T P R:List ah),P++(T++R)=aA S→A5 (az P) T∧FE (az P) T=az (P++T)
 | [],P,R,e=>by rw [List.append_nil];exact ⟨trivial,rfl⟩
 | o::T,P,R,e=>by
  have e1:P++o::(T++R)=aA S:=by rw [← e];simp
  have e2:(P++[o])++(T++R)=aA S:=by rw [← e];simp
  obtain ⟨h1,h2⟩:=q8 T (P++[o]) R e2
  rw [wN hS e1] at h1 h2
  refine ⟨⟨vj hS e1,h1⟩,?_⟩
  show FE ((az P).set o.dot.r o.dot.n) T=_
  rw [h2];simp
theorem A6 {T P R:List ah}(e:P++(T++R)=aA S):A2 (az P) [] T=(T,az (P++T),[]):=by
 have hu:=hS.wM
 have hr:=hS.xR
 unfold gb at hr
 rw [← e] at hr hu
 have huT:cS T:=hu.sub ((List.sublist_append_left _ _).trans (List.sublist_append_right _ _))
 have hrT:gb T:=(List.pairwise_append.1 (List.pairwise_append.1 hr).2.1).1
 have hP:=qZ hS e
 have hm:∀ x,x∈S↔x∈P∨x∈T∨x∈R:=fun x=>by rw [← (aT S).mem_iff,← e,List.mem_append,List.mem_append]
 have hc:∀ o,o∈T→(az P).aV o.dot=false:=fun o ho=>by
  rw [Bool.eq_false_iff];intro hc
  obtain ⟨a,ha,ed⟩:=(iY hP o.dot).1 hc
  have:a=o:=hS.uniq.inj ((hm a).2 (.inl ha)) ((hm o).2 (.inr (.inl ho))) ed
  subst this
  have:=(List.pairwise_append.1 hr).2.2 a ha a (List.mem_append.2 (.inl ho))
  rw [ah.lt_irrefl] at this;cases this
 obtain ⟨h1,h2⟩:=q8 hS T P R e
 unfold A2
 rw [qY T [] (by simpa using huT) hc,List.nil_append,o6 T _ _ hrT huT h1 (Nat.le_refl _),h2]
theorem yT {P R:List ah}(e:P++R=aA S):aA (S.filter fun o=> !(az P).aV o.dot)=R:=by
 have hu:=hS.wM
 have hr:=hS.xR
 unfold gb at hr
 rw [← e] at hr hu
 have hP:=qZ hS e
 have hm:∀ x,x∈S↔x∈P∨x∈R:=fun x=>by rw [← (aT S).mem_iff,← e,List.mem_append]
 have hf:(P++R).filter (fun o=> !(az P).aV o.dot)=R:=by
  rw [List.filter_append]
  have h1:P.filter (fun o=> !(az P).aV o.dot)=[]:=List.filter_eq_nil_iff.2 fun o ho=>by
   rw [(iY hP o.dot).2 ⟨o,ho,rfl⟩];simp
  have h2:R.filter (fun o=> !(az P).aV o.dot)=R:=List.filter_eq_self.2 fun o ho=>by
   rw [Bool.not_eq_true',Bool.eq_false_iff];intro hc
   obtain ⟨a,ha,ed⟩:=(iY hP o.dot).1 hc
   have:a=o:=hS.uniq.inj ((hm a).2 (.inl ha)) ((hm o).2 (.inr ho)) ed
   subst this
   have:=(List.pairwise_append.1 hr).2.2 a ha a ho
   rw [ah.lt_irrefl] at this;cases this
  rw [h1,h2,List.nil_append]
 have hp:S.Perm (P++R):=by rw [e];exact (aT S).symm
 refine (dz (hS.uniq.sub List.filter_sublist)).unique (List.pairwise_append.1 hr).2.1 ?_
 refine (aT _).trans ?_
 have:=hp.filter fun o=> !(az P).aV o.dot
 rwa [hf] at this
end
end
end Go.Sl
