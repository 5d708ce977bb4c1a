/-
 Trees of credentials: Above.
-/
import Derived.Test.YtefjaphfnkbbkaaUK
import Derived.Test.YtefjaphfnkbbkaaUF
set_option linter.unusedSectionVars false
set_option linter.unusedVariables false
set_option linter.unusedSimpArgs false
namespace Go.Proofs.Ytefjaphfnkbbkaa
open Go.Sl Go.Proofs
section
attribute [local irreducible] SW RW bp SC af aa
end
section
def Il (a:MM Dt Cr):Prop:=∀ d c p,MM.get a d=some c→0<c.level→MM.get a c.par=some p→p.level<c.level
end
section
theorem xm (r i:Nat):hasB r (2 ^ i)=r.testBit i:=by
 unfold hasB;rw [Nat.testBit_eq_decide_div_mod_eq]
theorem o_ (r o:Nat):∀ n,dn r o n=true↔∀ i,i<n→r.testBit i=true→o.testBit i=true
 | 0=>by simp [dn]
 | n + 1=>by
  simp only [dn,Bool.and_eq_true,o_ r o n,xm,Bool.or_eq_true,Bool.not_eq_true']
  constructor
  ·rintro ⟨h1,h2⟩ i hi hr
   by_cases e:i=n
   ·subst e
    rcases h2 with h2 | h2
    ·rw [h2] at hr;cases hr
    ·exact h2
   ·exact h1 i (by omega) hr
  ·intro h
   refine ⟨fun i hi=>h i (by omega),?_⟩
   cases hr:r.testBit n with
   | false=>exact .inl rfl
   | true=>exact .inr (h n (by omega) hr)
theorem zY (v:BitVec 8):IntKind.u8.wrap ((v.toNat:Nat):Int)=v.toNat:=wrap_u8 _ v.isLt
theorem A2 (r o:Nat):bits .andNot .u8 (r:Int) (o:Int)=((BitVec.ofNat 8 r &&& ~~~BitVec.ofNat 8 o).toNat:Int):=by
 show IntKind.u8.wrap (((BitVec.ofInt 8 (r:Int) &&& ~~~BitVec.ofInt 8 (o:Int)).toNat:Nat):Int)=_
 rw [zY,BitVec.ofInt_natCast,BitVec.ofInt_natCast]
theorem and_eq (r o:Nat):bits .and .u8 (r:Int) (o:Int)=((BitVec.ofNat 8 r &&& BitVec.ofNat 8 o).toNat:Int):=by
 show IntKind.u8.wrap (((BitVec.ofInt 8 (r:Int) &&& BitVec.ofInt 8 (o:Int)).toNat:Nat):Int)=_
 rw [zY,BitVec.ofInt_natCast,BitVec.ofInt_natCast]
theorem xo (r o:Nat):bits .andNot .u8 (r:Int) (o:Int)=0↔∀ i,i<8→r.testBit i=true→o.testBit i=true:=by
 rw [A2]
 constructor
 ·intro h i hi hr
  have h0:BitVec.ofNat 8 r &&& ~~~BitVec.ofNat 8 o=0#8:=BitVec.eq_of_toNat_eq (by simpa using h)
  have h1:(BitVec.ofNat 8 r &&& ~~~BitVec.ofNat 8 o).getLsbD i=false:=by rw [h0];simp
  rw [BitVec.getLsbD_and,BitVec.getLsbD_not,BitVec.getLsbD_ofNat,BitVec.getLsbD_ofNat] at h1
  simpa [hi,hr] using h1
 ·intro h
  have h0:BitVec.ofNat 8 r &&& ~~~BitVec.ofNat 8 o=0#8:=by
   apply BitVec.eq_of_getLsbD_eq
   intro i hi
   rw [BitVec.getLsbD_and,BitVec.getLsbD_not,BitVec.getLsbD_ofNat,BitVec.getLsbD_ofNat]
   have:=h i hi
   cases hr:r.testBit i with
   | false=>simp
   | true=>simp [hi,this hr]
  rw [h0];rfl
theorem C8 (r:Nat):(bits .and .u8 (r:Int) 1 == 0)= !hasB r 1:=by
 have h:=and_eq r 1
 have e:hasB r 1=r.testBit 0:=xm r 0
 rw [show ((1:Nat):Int)=1 from rfl] at h
 rw [h,e,BitVec.toNat_and,BitVec.toNat_ofNat,BitVec.toNat_ofNat]
 rw [show (1 % 2 ^ 8:Nat)=1 from rfl,Nat.and_one_is_mod,Nat.testBit_zero,Bool.eq_iff_iff]
 simp only [beq_iff_eq,Bool.not_eq_true',decide_eq_false_iff_not]
 omega
theorem qD (o:aq)(c:Cr):fU o c=dz o c:=by
 unfold fU dz g_
 have h:(bits .andNot .u8 (o.bn:Int) (c.bn:Int) != 0)= !dn o.bn c.bn 8:=by
  rw [Bool.eq_iff_iff,bne_iff_ne,Bool.not_eq_true',ne_eq,xo,← o_,Bool.not_eq_true]
 rw [h]
 congr 3
 cases dn o.bn c.bn 8 <;> by_cases e:o.bn=0 <;> simp [e]
theorem sZ (x:aq)(l:List aq)(d:Dt):cZ (x::l) d=if x.dot=d then some x else cZ l d:=by
 unfold cZ
 rw [List.find?_cons]
 by_cases h:x.dot=d <;> simp [h]
theorem kE {l:List aq}{d:Dt}{o:aq}(h:cZ l d=some o):o.dot=d:=by
 have:=List.find?_some h
 simpa using this
theorem On.pg (s:On)(x:aq)(d:Dt):(On.step s x).1.cnt d=if d=x.dot then s.cnt x.dot+1 else s.cnt d:=by
 show (MM.get (MM.put s.L s.c x.dot (s.cnt x.dot+1)) d).getD 0=_
 rw [MM.jR]
 by_cases h:d=x.dot
 ·rw [if_pos h,if_pos h];rfl
 ·rw [if_neg h,if_neg h];rfl
theorem qi:∀ (l:List aq) (s:On),(∀ d,0≤s.cnt d)→(∀ o,o∈(bw On.step s l).1↔s.cnt o.dot=0∧cZ l o.dot=some o∧o.kind≤1)∧((bw On.step s l).1.map (·.dot)).Nodup
 | [],s,h=>⟨fun o=>by simp [bw,cZ],by simp [bw]⟩
 | x :: l, s,h=>by
  have hs:∀ d,0≤(On.step s x).1.cnt d:=fun d=>by
   rw [On.pg];have:=h x.dot;have:=h d;split <;> omega
  obtain ⟨ih1,ih2⟩:=qi l (On.step s x).1 hs
  have hb:(On.step s x).2=(decide (s.cnt x.dot+1>1) || decide (x.kind>1)):=rfl
  have hx:=h x.dot
  simp only [bw]
  by_cases e:(On.step s x).2=true
  ·rw [if_pos e]
   refine ⟨fun o=> ?_,ih2⟩
   rw [ih1 o,On.pg,sZ]
   rw [hb] at e
   simp only [Bool.or_eq_true,decide_eq_true_eq] at e
   by_cases ed:x.dot=o.dot
   ·rw [if_pos ed.symm,if_pos ed]
    constructor
    ·rintro ⟨h1,_⟩;omega
    ·rintro ⟨h1,h2,h3⟩
     injection h2 with h2
     subst h2
     omega
   ·rw [if_neg (Ne.symm ed),if_neg ed]
  ·rw [if_neg e]
   rw [hb] at e
   simp only [Bool.or_eq_true,decide_eq_true_eq,not_or,Int.not_lt,Nat.not_lt,gt_iff_lt] at e
   refine ⟨fun o=> ?_,?_⟩
   ·rw [List.mem_cons,ih1 o,On.pg,sZ]
    by_cases ed:x.dot=o.dot
    ·rw [if_pos ed.symm,if_pos ed]
     constructor
     ·rintro (rfl | ⟨h1,_⟩)
      ·exact ⟨by omega,rfl,by omega⟩
      ·omega
     ·rintro ⟨h1,h2,h3⟩
      injection h2 with h2
      exact .inl h2.symm
    ·rw [if_neg (Ne.symm ed),if_neg ed]
     constructor
     ·rintro (rfl | h1)
      ·exact absurd rfl ed
      ·exact h1
     ·exact .inr
   ·rw [List.map_cons,List.nodup_cons]
    refine ⟨fun hm=> ?_,ih2⟩
    obtain ⟨o,ho,hod⟩:=List.mem_map.1 hm
    have:=((ih1 o).1 ho).1
    rw [On.pg,if_pos hod] at this
    omega
theorem s5 (l:List aq)(o:aq):o∈firsts l↔cZ l o.dot=some o∧o.kind≤1:=by
 have h:=(qi l ⟨[],0⟩ (fun d=>Int.le_refl 0)).1 o
 rw [firsts,h]
 exact ⟨fun ⟨_,h⟩=>h,fun h=>⟨rfl,h⟩⟩
theorem A3 (l:List aq):((firsts l).map (·.dot)).Nodup:=(qi l ⟨[],0⟩ (fun d=>Int.le_refl 0)).2
structure By (o:aq)(p:Cr)(q:aq)(c:Cr):Prop where
 kind:o.kind=1
 dU:p.dU=o.dU
 Jy:q.before o=true
 hold:p.hold=o.who
 own:hasB p.bn 1=true
 Jk:dz o p=false
 is:c=⟨o.dot,o.dU,o.aQ,o.to,o.bn,o.depth,o.cap,p.level+1⟩
structure EX (l:List aq)(a:MM Dt Cr)(d:Dt)(o:aq)(c:Cr):Prop where
 fd:cZ l d=some o
 lv:0≤c.level∧c.level+(c.depth:Int)≤8
 how:(o.kind=0∧o.dU=d∧c=sY o)∨∃ p q,MM.get a o.aQ=some p∧cZ l o.aQ=some q∧By o p q c
theorem EX.dot {l:List aq}{a:MM Dt Cr}{d:Dt}{o:aq}{c:Cr}(h:EX l a d o c):c.dot=d:=by
 have hd:=kE h.fd
 rcases h.how with ⟨_,_,e⟩ | ⟨p,q,_,_,hb⟩
 ·rw [e];exact hd
 ·rw [hb.is];exact hd
structure tO (l:List aq)(T:Tr)(W:List aq):Prop where
 cr:∀ d c,MM.get T.at_ d=some c→∃ o,MM.get T.made d=some o∧EX l T.at_ d o c
 w1:∀ o,o∈W→cZ l o.dot=some o∧o.kind≤1∧MM.get T.at_ o.dot=none
 w2:(W.map (·.dot)).Nodup
 all:∀ d o,cZ l d=some o→o.kind≤1→o∈W∨∃ c,MM.get T.at_ d=some c
theorem ny {o:aq}{c:Cr}(h:dz o c=false):o.depth<c.depth∧o.cap≤c.cap∧o.to≠0∧g_ o.bn c.bn=true:=by
 unfold dz at h
 simp only [Bool.or_eq_false_iff,Bool.not_eq_false',beq_eq_false_iff_ne,decide_eq_false_iff_not] at h
 obtain ⟨⟨⟨h1,h2⟩,h3⟩,h4⟩:=h
 exact ⟨by omega,by omega,by omega,h1⟩
theorem C9 {T:Tr}{o:aq}(h:T.why o=0):o.kind=1∧T.gG o=false∧(T.by o).hold=o.who∧hasB (T.by o).bn 1=true∧dz o (T.by o)=false:=by
 unfold Tr.why at h
 rw [C8,qD] at h
 by_cases h1:o.kind=1
 ·rw [if_neg (by omega)] at h
  by_cases h2:T.gG o=true
  ·rw [if_pos h2] at h;omega
  ·rw [if_neg h2] at h
   by_cases h3:(T.by o).hold=o.who
   ·rw [if_neg (by omega)] at h
    by_cases h4:(!hasB (T.by o).bn 1)=true
    ·rw [if_pos h4] at h;omega
    ·rw [if_neg h4] at h
     by_cases h5:dz o (T.by o)=true
     ·rw [if_pos h5] at h;omega
     ·exact ⟨h1,by simpa using h2,h3,by simpa using h4,by simpa using h5⟩
   ·rw [if_pos h3] at h;omega
 ·rw [if_pos h1] at h;omega
theorem tO.put {l:List aq}{T:Tr}{K W:List aq}{o:aq}(h:tO l T (K++o::W))(hr:T.bG o=false):tO l (T.put o).1 (K++W):=by
  obtain ⟨cr,w1,w2,all⟩:=h
  obtain ⟨o1,o2,o3⟩:=w1 o (by simp)
  have ep:(T.put o).1={ T with at_:=MM.put T.at_ T.ca o.dot (T.mF o),ca:=MM.nO T.at_ T.ca o.dot,made:=MM.put T.made T.cm o.dot o,cm:=MM.nO T.made T.cm o.dot}:=by
    unfold Tr.put;rw [if_neg (by rw [hr];decide)]
  have ga:∀ d,MM.get (T.put o).1.at_ d=if d=o.dot then some (T.mF o) else MM.get T.at_ d:=fun d=>by
    rw [ep];exact MM.jR
  have gm:∀ d,MM.get (T.put o).1.made d=if d=o.dot then some o else MM.get T.made d:=fun d=>by
    rw [ep];exact MM.jR
  have up:∀ d c,MM.get T.at_ d=some c→MM.get (T.put o).1.at_ d=some c:=fun d c hc=>by
    rw [ga,if_neg (fun e=>by rw [e,o3] at hc;cases hc)];exact hc
  have w2':(K++o::W).map (·.dot)=K.map (·.dot)++o.dot::W.map (·.dot):=by simp
  rw [w2',List.nodup_append,List.nodup_cons] at w2
  obtain ⟨n1,⟨n2,n3⟩,n4⟩:=w2
  have hne:∀ x,x∈K++W→x.dot≠o.dot:=fun x hx e=>by
    rcases List.mem_append.1 hx with hx | hx
    · exact n4 _ (List.mem_map.2 ⟨x,hx,rfl⟩) _ (List.mem_cons_self ..) e
    · exact n2 (List.mem_map.2 ⟨x,hx,e⟩)
  refine ⟨fun d c hc=> ?_,fun x hx=> ?_,?_,fun d x hd hk=> ?_⟩
  · rw [ga] at hc
    by_cases e:d=o.dot
    · rw [if_pos e] at hc
      injection hc with hc
      refine ⟨o,by rw [gm,if_pos e],?_⟩
      subst e
      unfold Tr.bG at hr
      simp only [Bool.or_eq_false_iff,Bool.and_eq_false_iff,decide_eq_false_iff_not,Bool.not_eq_false',decide_eq_true_eq] at hr
      by_cases hk:o.kind=1
      · have hw:T.why o=0:=by rcases hr.2 with h | h;exact absurd hk h;exact Decidable.not_not.1 h
        obtain ⟨_,h2,h3,h4,h5⟩:=C9 hw
        unfold Tr.gG at h2
        simp only [Bool.or_eq_false_iff,Bool.not_eq_false',decide_eq_true_eq] at h2
        obtain ⟨⟨h6,h7⟩,h8⟩:=h2
        obtain ⟨p,hp⟩:=Option.isSome_iff_exists.1 (show (MM.get T.at_ o.aQ).isSome=true from h6)
        have eb:T.by o=p:=by unfold Tr.by;rw [hp];rfl
        obtain ⟨q,hq,hqc⟩:=cr _ _ hp
        have em:T.sW o=q:=by unfold Tr.sW;rw [hq];rfl
        rw [eb] at h3 h4 h5 h7
        rw [em] at h8
        obtain ⟨l1,l2⟩:=hqc.lv
        obtain ⟨n1,_⟩:=ny h5
        have ec:c=⟨o.dot,o.dU,o.aQ,o.to,o.bn,o.depth,o.cap,p.level+1⟩:=by
          rw [← hc]
          unfold Tr.mF yY
          rw [if_pos hk,eb,vb _ (by omega) (by omega)]
        refine ⟨o1,?_,.inr ⟨p,q,up _ _ hp,hqc.fd,⟨hk,h7,h8,h3,h4,h5,ec⟩⟩⟩
        rw [ec]
        exact ⟨by show 0≤p.level+1;omega,by show p.level+1+(o.depth:Int)≤8;omega⟩
      · have hk0:o.kind=0:=by omega
        have ec:o.dU=o.dot:=by rcases hr.1 with h | h;exact absurd hk0 h;exact h
        have ecr:c=sY o:=by rw [← hc];unfold Tr.mF;rw [if_neg hk]
        refine ⟨o1,?_,.inl ⟨hk0,ec,ecr⟩⟩
        rw [ecr]
        exact ⟨by show (0:Int)≤0;omega,by show (0:Int)+((8:Nat):Int)≤8;omega⟩
    · rw [if_neg e] at hc
      obtain ⟨x,hx,hxc⟩:=cr d c hc
      refine ⟨x,by rw [gm,if_neg e];exact hx,hxc.fd,hxc.lv,?_⟩
      rcases hxc.how with h | ⟨p,q,h1,h2,h3⟩
      · exact .inl h
      · exact .inr ⟨p,q,up _ _ h1,h2,h3⟩
  · obtain ⟨a1,a2,a3⟩:=w1 x (by
      rcases List.mem_append.1 hx with h | h
      · exact List.mem_append_left _ h
      · exact List.mem_append_right _ (List.mem_cons_of_mem _ h))
    exact ⟨a1,a2,by rw [ga,if_neg (hne x hx)];exact a3⟩
  · rw [List.map_append,List.nodup_append]
    exact ⟨n1,n3,fun a ha b hb=>n4 a ha b (List.mem_cons_of_mem _ hb)⟩
  · rcases all d x hd hk with h | ⟨c,hc⟩
    · by_cases e:x.dot=o.dot
      · refine .inr ⟨T.mF o,?_⟩
        rw [ga,if_pos (by rw [← kE hd];exact e)]
      · rcases List.mem_append.1 h with h | h
        · exact .inl (List.mem_append_left _ h)
        · rcases List.mem_cons.1 h with h | h
          · rw [h] at e;exact absurd rfl e
          · exact .inl (List.mem_append_right _ h)
    · exact .inr ⟨c,up _ _ hc⟩
theorem xq (s:TS)(o:aq):(j5.step s o).2= !s.T.bG o∧(s.T.bG o=true→(j5.step s o).1.T=s.T):=by
 show (s.T.put o).2=_∧(_→(s.T.put o).1=s.T)
 unfold Tr.put
 cases h:s.T.bG o with
 | true=>exact ⟨rfl,fun _=>rfl⟩
 | false=>exact ⟨rfl,fun h=>by cases h⟩
theorem tO.keep {l:List aq}:∀ (W K:List aq) (s:TS),tO l s.T (K++W)→tO l (bw j5.step s W).2.T (K++(bw j5.step s W).1)
 | [],K,s,h=>h
 | x ::W,K,s,h=>by
  obtain ⟨p1,p2⟩:=xq s x
  simp only [bw]
  cases hr:s.T.bG x with
  | false=>
   rw [p1,hr,if_pos (by rfl)]
   exact tO.keep W K _ (h.put hr)
  | true=>
   rw [p1,hr,if_neg (by decide)]
   have:=tO.keep W (K++[x]) (j5.step s x).1 (by rw [p2 hr,List.append_assoc];exact h)
   rw [List.append_assoc] at this
   exact this
theorem xu:∀ (W:List aq) (s:TS),¬ (bw j5.step s W).1.length<W.length→(bw j5.step s W).1=W∧(bw j5.step s W).2.T=s.T∧∀ o,o∈W→s.T.bG o=true
 | [],s,_=>⟨rfl,rfl,fun o h=>by cases h⟩
 | x ::W,s,h=>by
  obtain ⟨p1,p2⟩:=xq s x
  have hl:=mT j5.step W (j5.step s x).1
  simp only [bw] at h ⊢
  cases hr:s.T.bG x with
  | false=>
   rw [p1,hr,if_pos (by rfl)] at h
   exact absurd (by simp;omega) h
  | true=>
   rw [p1,hr,if_neg (by decide)] at h ⊢
   obtain ⟨a1,a2,a3⟩:=xu W (j5.step s x).1 (by simpa using h)
   rw [p2 hr] at a2 a3
   exact ⟨by rw [a1],a2,fun o ho=>by
    rcases List.mem_cons.1 ho with rfl | ho
    ·exact hr
    ·exact a3 o ho⟩
structure iT (l:List aq)(T:Tr):Prop where
 cr:∀ d c,MM.get T.at_ d=some c→∃ o,MM.get T.made d=some o∧EX l T.at_ d o c
 no:∀ d o,cZ l d=some o→o.kind≤1→T.bG o=true∨∃ c,MM.get T.at_ d=some c
theorem zZ {l:List aq}:∀ (f:Nat) (s:TS) (W:List aq),W.length<f→tO l s.T W→iT l (grow f s W).T
 | 0,s,W,hf,h=>by omega
 | f +1,s,W,hf,h=>by
  simp only [grow]
  split
  ·rename_i hlt
   exact zZ f _ _ (by omega) (tO.keep W [] s h)
  ·rename_i hlt
   obtain ⟨a1,a2,a3⟩:=xu W s hlt
   rw [a2]
   refine ⟨h.cr,fun d o hd hk=> ?_⟩
   rcases h.all d o hd hk with h' | h'
   ·exact .inl (a3 o h')
   ·exact .inr h'
theorem uL (l:List aq):iT l (mG l):=by
 refine zZ _ _ _ (Nat.lt_succ_self _) ⟨fun d c h=>(by cases h),fun o ho=> ?_,A3 l,fun d o hd hk=> .inl ((s5 l o).2 ⟨by rw [kE hd];exact hd,hk⟩)⟩
 obtain ⟨h1,h2⟩:=(s5 l o).1 ho
 exact ⟨h1,h2,rfl⟩
theorem y4 (l:List aq)(k:Nat):iT l (cU l k):=⟨(uL l).cr,(uL l).no⟩
theorem iT.Jl {l:List aq}{T:Tr}(h:iT l T):Il T.at_:=fun d c p hc hl hp=>by
 obtain ⟨o,_,ho⟩:=h.cr d c hc
 rcases ho.how with ⟨_,_,e⟩ | ⟨p',q,h1,_,hb⟩
 ·rw [e] at hl;exact absurd hl (by show ¬ (0:Int)<0;omega)
 ·have ec:c.par=o.aQ:=by rw [hb.is]
  rw [ec,h1] at hp
  injection hp with hp
  subst hp
  rw [hb.is]
  show p'.level<p'.level+1
  omega
theorem iT.level {l:List aq}{T:Tr}(h:iT l T){d:Dt}{c:Cr}(hc:MM.get T.at_ d=some c):0≤c.level∧c.level≤8:=by
 obtain ⟨o,_,ho⟩:=h.cr d c hc
 have:=ho.lv
 omega
theorem iT.Im {l:List aq}{T:Tr}(h:iT l T){p:Cr}{o:aq}(hp:MM.get T.at_ o.aQ=some p):(gT l (p,true) o).2=T.why o:=by
 obtain ⟨q,hq,hc⟩:=h.cr _ _ hp
 have eb:T.by o=p:=by unfold Tr.by;rw [hp];rfl
 have em:T.sW o=q:=by unfold Tr.sW;rw [hq];rfl
 have ei:T.is o=true:=by unfold Tr.is MM.has;rw [hp];rfl
 unfold gT Tr.why
 rw [C8,qD,eb]
 have en:lK l (p,true) o=T.gG o:=by
  unfold lK Tr.gG
  rw [eb,em,ei,hc.fd];rfl
 rw [en]
 by_cases hk:o.kind≠1
 ·rw [if_pos hk,if_pos hk]
 ·rw [if_neg hk,if_neg hk]
  cases hasB p.bn 1 <;> rfl
theorem s6 {l:List aq}{p c:Cr}{o q:aq}(h2:cZ l o.aQ=some q)(hb:By o p q c):gT l (p,true) o=(p,0):=by
 have e:lK l (p,true) o=false:=by
  unfold lK
  rw [h2]
  simp [hb.dU,hb.Jy]
 unfold gT
 rw [if_neg (by rw [hb.kind];decide),e]
 simp [hb.hold,hb.own,hb.Jk]
theorem iT.sound {l:List aq}{T:Tr}(h:iT l T):∀ (n:Nat) (d:Dt) (c:Cr),MM.get T.at_ d=some c→c.level<(n:Int)→dA l n d=(c,true)
 | 0,d,c,hc,hn=>by have:=(h.level hc).1;omega
 | n +1,d,c,hc,hn=>by
  obtain ⟨o,hm,ho⟩:=h.cr d c hc
  simp only [dA,ho.fd]
  have ed:=kE ho.fd
  have hlv:=h.level hc
  rcases ho.how with ⟨h1,h2,h3⟩ | ⟨p,q,h1,h2,hb⟩
  ·rw [if_pos h1,h3,decide_eq_true h2]
   unfold sY
   rw [ed]
  ·have hl:c.level=p.level+1:=by rw [hb.is]
   have hg:=iT.sound h n o.aQ p h1 (by omega)
   rw [if_neg (by rw [hb.kind];decide),hg,s6 h2 hb,if_neg (fun h=>h rfl)]
   rw [hb.is,ed]
   show (_,true)=(_,true)
   rw [vb _ (by show -9223372036854775808≤p.level+1;omega) (by show p.level+1<9223372036854775808;omega)]
theorem iT.full {l:List aq}{T:Tr}(h:iT l T):∀ (m:Nat) (d:Dt),(dA l m d).2=true→∃ c,MM.get T.at_ d=some c∧dA l m d=(c,true)
 | 0,d,hd=>by cases hd
 | m + 1, d, hd=>by
  cases hf:cZ l d with
  | none=>simp only [dA,hf] at hd;cases hd
  | some o=>
   have ed:=kE hf
   by_cases hk:o.kind=0
   ·simp only [dA,hf,if_pos hk] at hd ⊢
    have hcart:o.dU=d:=by simpa using hd
    have hr:T.bG o=false:=by
     unfold Tr.bG
     simp [hk,hcart,ed]
    rcases h.no d o hf (by omega) with h1 | ⟨c,hc⟩
    ·rw [hr] at h1;cases h1
    ·refine ⟨c,hc,?_⟩
     obtain ⟨o',hm,ho⟩:=h.cr d c hc
     have eo:o=o':=by have:=ho.fd;rw [hf] at this;injection this
     subst eo
     rcases ho.how with ⟨_,_,e⟩ | ⟨p,q,_,_,hb⟩
     ·rw [e,decide_eq_true hcart]
      unfold sY
      rw [ed]
     ·have:=hb.kind;omega
   ·simp only [dA,hf,if_neg hk] at hd ⊢
    by_cases hw:(gT l (dA l m o.aQ) o).2≠0
    ·rw [if_pos hw] at hd;cases hd
    ·have hw0:(gT l (dA l m o.aQ) o).2=0:=Decidable.not_not.1 hw
     rw [if_neg hw]
     have hk1:o.kind=1:=by
      by_cases e:o.kind=1
      ·exact e
      ·unfold gT at hw0;rw [if_pos e] at hw0;cases hw0
     have hg2:(dA l m o.aQ).2=true:=by
      cases e:(dA l m o.aQ).2 with
      | true=>rfl
      | false=>
       unfold gT lK at hw0
       rw [if_neg (by omega),e] at hw0
       cases hw0
     obtain ⟨p,hp,hgp⟩:=iT.full h m o.aQ hg2
     rw [hgp] at hw0 ⊢
     rw [h.Im hp] at hw0
     have hr:T.bG o=false:=by
      unfold Tr.bG
      simp [hk1,hw0]
     rcases h.no d o hf (by omega) with h1 | ⟨c,hc⟩
     ·rw [hr] at h1;cases h1
     ·refine ⟨c,hc,?_⟩
      obtain ⟨o',hm,ho⟩:=h.cr d c hc
      have eo:o=o':=by have:=ho.fd;rw [hf] at this;injection this
      subst eo
      rcases ho.how with ⟨h0,_,_⟩ | ⟨p',q,h1,h2,hb⟩
      ·omega
      ·have ep:p=p':=by rw [hp] at h1;injection h1
       subst ep
       have hl:=h.level hp
       rw [s6 h2 hb,hb.is,ed]
       show (_,true)=(_,true)
       rw [vb _ (by show -9223372036854775808≤p.level+1;omega) (by show p.level+1<9223372036854775808;omega)]
theorem iT.get {l:List aq}{T:Tr}(h:iT l T)(d:Dt):((dA l 10 d).2=MM.has T.at_ d)∧∀ c,MM.get T.at_ d=some c→dA l 10 d=(c,true):=by
 have hs:∀ c,MM.get T.at_ d=some c→dA l 10 d=(c,true):=fun c hc=>h.sound 10 d c hc (by have:=(h.level hc).2;show c.level<10;omega)
 refine ⟨?_,hs⟩
 cases hg:MM.get T.at_ d with
 | some c=>rw [hs c hg];show true=(MM.get T.at_ d).isSome;rw [hg];rfl
 | none=>
  show _=(MM.get T.at_ d).isSome
  rw [hg]
  cases e:(dA l 10 d).2 with
  | false=>rfl
  | true=>
   obtain ⟨c,hc,_⟩:=h.full 10 d e
   rw [hg] at hc;cases hc
theorem iT.above {l:List aq}{T:Tr}(h:iT l T){d:Dt}{c:Cr}(hc:MM.get T.at_ d=some c)(hl:0<c.level):∃ o p q,cZ l d=some o∧cZ l c.par=some q∧MM.get T.at_ c.par=some p∧By o p q c:=by
 obtain ⟨o,_,ho⟩:=h.cr d c hc
 rcases ho.how with ⟨_,_,e⟩ | ⟨p,q,h1,h2,hb⟩
 ·rw [e] at hl;exact absurd hl (by show ¬ (0:Int)<0;omega)
 ·have ec:c.par=o.aQ:=by rw [hb.is]
  exact ⟨o,p,q,ho.fd,by rw [ec];exact h2,by rw [ec];exact h1,hb⟩
theorem iT.root {l:List aq}{T:Tr}(h:iT l T){d:Dt}{c:Cr}(hc:MM.get T.at_ d=some c)(hl: ¬ 0<c.level):c.dot=c.dU∧c.level=0:=by
 obtain ⟨o,_,ho⟩:=h.cr d c hc
 rcases ho.how with ⟨_,_,e⟩ | ⟨p,q,h1,h2,hb⟩
 ·rw [e];exact ⟨rfl,rfl⟩
 ·have:=(h.level h1).1
  rw [hb.is] at hl
  exact absurd (show 0<p.level+1 by omega) hl
theorem iT.z6 {l:List aq}{T:Tr}(h:iT l T){d:Dt}{c:Cr}(hc:MM.get T.at_ d=some c):c.dot=d:=by
 obtain ⟨o,_,ho⟩:=h.cr d c hc
 exact ho.dot
theorem iT.FL {l:List aq}{T:Tr}(h:iT l T):∀ (n:Nat) (d:Dt) (c:Cr),MM.get T.at_ d=some c→c.level=(n:Int)→∃ L,lZ T.at_ (some c) L∧L.length=n+1
 | 0,d,c,hc,hn=>⟨[c],.root c (by omega),rfl⟩
 | n+1,d,c,hc,hn=>by
  have hl:0<c.level:=by omega
  obtain ⟨o,p,q,_,_,hp,hb⟩:=h.above hc hl
  have e:c.level=p.level+1:=by rw [hb.is]
  obtain ⟨L,h1,h2⟩:=iT.FL h n c.par p hp (by omega)
  exact ⟨c::L,.more c L hl (by rw [hp];exact h1),by simp [h2]⟩
theorem iT.I9 {l:List aq}{T:Tr}(h:iT l T)(d:Dt):∃ L,lZ T.at_ (MM.get T.at_ d) L∧L.length≤9∧∀ c,MM.get T.at_ d=some c→(L.length:Int)=c.level+1:=by
 cases hg:MM.get T.at_ d with
 | none=>exact ⟨[],.none,by simp,fun c hc=>by cases hc⟩
 | some c=>
  have hl:=h.level hg
  obtain ⟨L,h1,h2⟩:=h.FL c.level.toNat d c hg (by omega)
  exact ⟨L,h1,by omega,fun c' hc'=>by injection hc' with hc';subst hc';omega⟩
theorem lZ.mem {a:MM Dt Cr}{oc:Option Cr}{L:List Cr}(h:lZ a oc L)(x:Cr)(hx:x∈L):oc=some x∨∃ y,y∈L∧0<y.level∧MM.get a y.par=some x:=by
 induction h with
 | none=>cases hx
 | root c hc=>simp at hx;exact .inl (by rw [hx])
 | more c L hc hL ih=>
  rcases List.mem_cons.1 hx with e | hx
  ·exact .inl (by rw [e])
  ·rcases ih hx with h1 | ⟨y,hy,h2,h3⟩
   ·exact .inr ⟨c,by simp,hc,h1⟩
   ·exact .inr ⟨y,List.mem_cons_of_mem _ hy,h2,h3⟩
theorem lZ.head {a:MM Dt Cr}{c:Cr}{L:List Cr}(h:lZ a (some c) L):L[0]? =some c:=by
 cases h <;> rfl
theorem lZ.next {a:MM Dt Cr}{oc:Option Cr}{L:List Cr}(h:lZ a oc L):∀ (i:Nat) (x y:Cr),L[i]? =some x→L[i+1]? =some y→0<x.level∧MM.get a x.par=some y:=by
 induction h with
 | none=>intro i x y hx;cases hx
 | root c hc=>intro i x y hx hy;simp at hy
 | more c L hc hL ih=>
  intro i x y hx hy
  cases i with
  | zero=>
   have e:c=x:=by simpa using hx
   subst e
   refine ⟨hc,?_⟩
   have hy':L[0]? =some y:=by simpa using hy
   revert hL hy'
   generalize MM.get a c.par=oc
   intro hL hy'
   cases hL with
   | none=>cases hy'
   | root d _=>simpa using hy'
   | more d M _ _=>simpa using hy'
  | succ i=>exact ih i x y (by simpa using hx) (by simpa using hy)
theorem lZ.last {a:MM Dt Cr}{oc:Option Cr}{L:List Cr}(h:lZ a oc L)(hall:∀ x,x∈L→0<x.level→(MM.get a x.par).isSome=true):∀ x,L[L.length - 1]? =some x→ ¬ 0<x.level:=by
 induction h with
 | none=>intro x hx;cases hx
 | root c hc=>intro x hx;simp at hx;rw [← hx];exact hc
 | more c L hc hL ih=>
  intro x hx
  cases L with
  | nil=>
   have:=hall c (by simp) hc
   revert hL this
   generalize MM.get a c.par=oc
   intro hL this
   cases hL
   cases this
  | cons y M=>
   refine ih (fun x hx=>hall x (List.mem_cons_of_mem _ hx)) x ?_
   simpa using hx
theorem iT.jE {l:List aq}{T:Tr}(h:iT l T){d:Dt}{L:List Cr}(hL:lZ T.at_ (MM.get T.at_ d) L)(x:Cr)(hx:x∈L):MM.get T.at_ x.dot=some x:=by
 rcases hL.mem x hx with h1 | ⟨y,_,_,h1⟩
 ·rw [h.z6 h1];exact h1
 ·rw [h.z6 h1];exact h1
theorem iT.s8 {l:List aq}{T:Tr}(h:iT l T){d:Dt}{L:List Cr}(hL:lZ T.at_ (MM.get T.at_ d) L):∀ (i:Nat) (x c:Cr),MM.get T.at_ d=some c→L[i]? =some x→x.level=c.level - (i:Int)
 | 0,x,c,hc,hx=>by
  rw [hc] at hL
  rw [hL.head] at hx
  injection hx with hx
  subst hx
  simp
 | i+1,x,c,hc,hx=>by
  obtain ⟨hlt,_⟩:=List.getElem?_eq_some_iff.1 hx
  obtain ⟨y,hy⟩:=aL (show i<L.length by omega)
  have ih:=iT.s8 h hL i y c hc hy
  obtain ⟨h1,h2⟩:=hL.next i y x hy hx
  obtain ⟨o,p,q,_,_,hp,hb⟩:=h.above (h.jE hL y (List.mem_of_getElem? hy)) h1
  rw [hp] at h2
  injection h2 with h2
  subst h2
  have e:y.level=p.level+1:=by rw [hb.is]
  omega
theorem iT.C_ {l:List aq}{T:Tr}(h:iT l T){d:Dt}{L:List Cr}(hL:lZ T.at_ (MM.get T.at_ d) L){i j:Nat}{x y:Cr}(hx:L[i]? =some x)(hy:L[j]? =some y)(e:x.dot=y.dot):i=j:=by
 cases hg:MM.get T.at_ d with
 | none=>rw [hg] at hL;cases hL;cases hx
 | some c=>
  have e1:=h.jE hL x (List.mem_of_getElem? hx)
  have e2:=h.jE hL y (List.mem_of_getElem? hy)
  rw [e,e2] at e1
  injection e1 with e1
  have l1:=h.s8 hL i x c hg hx
  have l2:=h.s8 hL j y c hg hy
  rw [e1] at l2
  omega
end
section
theorem iT.GY {l:List aq}{T:Tr}(h:iT l T){d:Dt}{L:List Cr}(hL:lZ T.at_ (MM.get T.at_ d) L){x:Cr}(hx:L[L.length - 1]? =some x):x.level=0∧x.dot=x.dU:=by
 have hn:=hL.last (fun y hy hl=>by
  obtain ⟨o,p,q,_,_,hp,_⟩:=h.above (h.jE hL y hy) hl
  rw [hp];rfl) x hx
 obtain ⟨a,b⟩:=h.root (h.jE hL x (List.mem_of_getElem? hx)) hn
 exact ⟨b,a⟩
def gO:aq:=⟨⟨0,1⟩,aS.zero,1,1,⟨0,1⟩,0,⟨0,0⟩,0,0,0,0,⟨0,0⟩,⟨0,0⟩,0,0,0,.ay⟩
def Io (n:Nat):aS:=⟨n,0,0,0,0,0,0,0⟩
def aO:aq:=⟨⟨0,2⟩,Io 1,2,1,⟨0,1⟩,1,⟨0,1⟩,2,3,3,500,⟨0,0⟩,⟨0,0⟩,0,0,0,.ay⟩
def bO:aq:=⟨⟨0,3⟩,Io 2,3,2,⟨0,1⟩,1,⟨0,2⟩,3,2,0,500,⟨0,0⟩,⟨0,0⟩,0,0,0,.ay⟩
abbrev Hg:List aq:=[bO,gO,aO]
def c1:Cr:=⟨⟨0,1⟩,⟨0,1⟩,⟨0,0⟩,1,7,8,1099511627776,0⟩
def c2:Cr:=⟨⟨0,2⟩,⟨0,1⟩,⟨0,1⟩,2,3,3,500,1⟩
def c3:Cr:=⟨⟨0,3⟩,⟨0,1⟩,⟨0,2⟩,3,2,0,500,2⟩
end
section
attribute [local irreducible] SW RW bp SC af aa
abbrev Hs (a:MM Dt Cr)(ca:Nat)(m:MM Dt aq)(cm:Nat):Tr:=⟨2,0,1,a,ca,m,cm⟩
abbrev H2 (a:MM Dt Cr)(ca:Nat)(m:MM Dt aq)(cm:Nat):Hp:=[(2,.box 71 [.mp 0,.mp 1]),(0,.map (aH Dt.cells cv a) ca),(1,.map (aH Dt.cells ov m) cm)]
theorem uM (a:MM Dt Cr)(ca:Nat)(m:MM Dt aq)(cm:Nat){k:Nat}(h:3≤k):(H2 a ca m cm).ok (fun n=>decide (n<k))=true:=Tr.CL (T:=Hs a ca m cm) ⟨by show 2<k;omega,by show 0<k;omega,by show 1<k;omega⟩
structure Tn (l:List aq)(a:MM Dt Cr)(ca:Nat)(m:MM Dt aq)(cm:Nat):Prop where
 new:cU l 0=Hs a ca m cm
theorem z7 (l:List aq):∃ a ca m cm,Tn l a ca m cm:=by
 refine ⟨(cU l 0).at_,(cU l 0).ca,(cU l 0).made,(cU l 0).cm,⟨?_⟩⟩
 have e1:(cU l 0).bx=2:=by show 0+_=2;rw [Nat.zero_add];exact j5.e1 _
 have e2:(cU l 0).ma=0:=by show 0+_=0;rw [Nat.zero_add];exact j5.e2 _
 have e3:(cU l 0).mm=1:=by show 0+_=1;rw [Nat.zero_add];exact j5.e3 _
 revert e1 e2 e3
 generalize cU l 0=T
 obtain ⟨b,x,y,a,ca,m,cm⟩:=T
 rintro rfl rfl rfl
 rfl
section
variable {l:List aq} {a:MM Dt Cr} {ca:Nat} {m:MM Dt aq} {cm:Nat} (h:Tn l a ca m cm)
include h
theorem Tn.tok:iT l (Hs a ca m cm):=by rw [← h.new];exact y4 l 0
theorem Tn.sep:(Hs a ca m cm).sep:=by rw [← h.new];exact (CY l 0).1
theorem Tn.I_ (d:Dt)(k:Nat):bp Try.prog tree_Tree_Get.f [.ptr 2 0,.agg d.cells] (H2 a ca m cm) k 3 (.cg [.agg ((MM.get a d).getD Cr.zero).cells,i64 (if MM.has a d then 0 else 7)]) (H2 a ca m cm):=get_at h.sep d k
end
end
end Go.Proofs.Ytefjaphfnkbbkaa
