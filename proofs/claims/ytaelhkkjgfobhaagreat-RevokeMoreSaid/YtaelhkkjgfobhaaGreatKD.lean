/-
 Trees of credentials: what New has made, plainly: each credential is by one that is there, and what is not there is refused; the document's answer is the same.
-/
import Derived.Test.YtaelhkkjgfobhaaGreatKC
import Derived.Test.YtaelhkkjgfobhaaGreatK5
set_option linter.unusedSectionVars false
set_option linter.unusedVariables false
set_option linter.unusedSimpArgs false
namespace Go.Proofs.YtaelhkkjgfobhaaGreat
open Go.Sl Go.Proofs
section
theorem xJ (r i:Nat):hasB r (2 ^ i)=r.testBit i:=by
 unfold hasB;rw [Nat.testBit_eq_decide_div_mod_eq]
theorem pR (r o:Nat):∀ n,jT r o n=true↔∀ i,i<n→r.testBit i=true→o.testBit i=true
 | 0=>by simp [jT]
 | n + 1=>by
  simp only [jT,Bool.and_eq_true,pR r o n,xJ,Bool.or_eq_true,Bool.not_eq_true']
  constructor
  ·rintro ⟨h1,h2⟩ i hi hr
   by_cases e:i=n
   ·subst e
    rcases h2 with h2 | h2
    ·rw [h2] at hr;cases hr
    ·exact h2
   ·exact h1 i (by omega) hr
  ·intro h
   refine ⟨fun i hi=>h i (by omega),?_⟩
   cases hr:r.testBit n with
   | false=>exact .inl rfl
   | true=>exact .inr (h n (by omega) hr)
theorem zR (v:BitVec 8):IntKind.u8.wrap ((v.toNat:Nat):Int)=v.toNat:=wrap_u8 _ v.isLt
theorem AZ (r o:Nat):bits .andNot .u8 (r:Int) (o:Int)=((BitVec.ofNat 8 r &&& ~~~BitVec.ofNat 8 o).toNat:Int):=by
 show IntKind.u8.wrap (((BitVec.ofInt 8 (r:Int) &&& ~~~BitVec.ofInt 8 (o:Int)).toNat:Nat):Int)=_
 rw [zR,BitVec.ofInt_natCast,BitVec.ofInt_natCast]
theorem and_eq (r o:Nat):bits .and .u8 (r:Int) (o:Int)=((BitVec.ofNat 8 r &&& BitVec.ofNat 8 o).toNat:Int):=by
 show IntKind.u8.wrap (((BitVec.ofInt 8 (r:Int) &&& BitVec.ofInt 8 (o:Int)).toNat:Nat):Int)=_
 rw [zR,BitVec.ofInt_natCast,BitVec.ofInt_natCast]
theorem xK (r o:Nat):bits .andNot .u8 (r:Int) (o:Int)=0↔∀ i,i<8→r.testBit i=true→o.testBit i=true:=by
 rw [AZ]
 constructor
 ·intro h i hi hr
  have h0:BitVec.ofNat 8 r &&& ~~~BitVec.ofNat 8 o=0#8:=BitVec.eq_of_toNat_eq (by simpa using h)
  have h1:(BitVec.ofNat 8 r &&& ~~~BitVec.ofNat 8 o).getLsbD i=false:=by rw [h0];simp
  rw [BitVec.getLsbD_and,BitVec.getLsbD_not,BitVec.getLsbD_ofNat,BitVec.getLsbD_ofNat] at h1
  simpa [hi,hr] using h1
 ·intro h
  have h0:BitVec.ofNat 8 r &&& ~~~BitVec.ofNat 8 o=0#8:=by
   apply BitVec.eq_of_getLsbD_eq
   intro i hi
   rw [BitVec.getLsbD_and,BitVec.getLsbD_not,BitVec.getLsbD_ofNat,BitVec.getLsbD_ofNat]
   have:=h i hi
   cases hr:r.testBit i with
   | false=>simp
   | true=>simp [hi,this hr]
  rw [h0];rfl
theorem CO (r:Nat):(bits .and .u8 (r:Int) 1 == 0)= !hasB r 1:=by
 have h:=and_eq r 1
 have e:hasB r 1=r.testBit 0:=xJ r 0
 rw [show ((1:Nat):Int)=1 from rfl] at h
 rw [h,e,BitVec.toNat_and,BitVec.toNat_ofNat,BitVec.toNat_ofNat]
 rw [show (1 % 2 ^ 8:Nat)=1 from rfl,Nat.and_one_is_mod,Nat.testBit_zero,Bool.eq_iff_iff]
 simp only [beq_iff_eq,Bool.not_eq_true',decide_eq_false_iff_not]
 omega
theorem rD (o:ag)(c:Cr):gd o c=j6 o c:=by
 unfold gd j6 v7
 have h:(bits .andNot .u8 (o.bp:Int) (c.bp:Int) != 0)= !jT o.bp c.bp 8:=by
  rw [Bool.eq_iff_iff,bne_iff_ne,Bool.not_eq_true',ne_eq,xK,← pR,Bool.not_eq_true]
 rw [h]
 congr 3
 cases jT o.bp c.bp 8 <;> by_cases e:o.bp=0 <;> simp [e]
theorem tB (x:ag)(l:List ag)(d:Dt):aD (x::l) d=if x.dot=d then some x else aD l d:=by
 unfold aD
 rw [List.find?_cons]
 by_cases h:x.dot=d <;> simp [h]
theorem dS {l:List ag}{d:Dt}{o:ag}(h:aD l d=some o):o.dot=d:=by
 have:=List.find?_some h
 simpa using this
theorem vr {l:List ag}{d:Dt}{o:ag}(h:aD l d=some o):o∈l:=List.mem_of_find?_eq_some h
theorem On.pS (s:On)(x:ag)(d:Dt):(On.step s x).1.cnt d=if d=x.dot then s.cnt x.dot+1 else s.cnt d:=by
 show (MM.get (MM.put s.L s.c x.dot (s.cnt x.dot+1)) d).getD 0=_
 rw [MM.fB]
 by_cases h:d=x.dot
 ·rw [if_pos h,if_pos h];rfl
 ·rw [if_neg h,if_neg h];rfl
theorem qM:∀ (l:List ag) (s:On),(∀ d,0≤s.cnt d)→(∀ o,o∈(bG On.step s l).1↔s.cnt o.dot=0∧aD l o.dot=some o∧o.kind≤1)∧((bG On.step s l).1.map (·.dot)).Nodup
 | [],s,h=>⟨fun o=>by simp [bG,aD],by simp [bG]⟩
 | x :: l, s,h=>by
  have hs:∀ d,0≤(On.step s x).1.cnt d:=fun d=>by
   rw [On.pS];have:=h x.dot;have:=h d;split <;> omega
  obtain ⟨ih1,ih2⟩:=qM l (On.step s x).1 hs
  have hb:(On.step s x).2=(decide (s.cnt x.dot+1>1) || decide (x.kind>1)):=rfl
  have hx:=h x.dot
  simp only [bG]
  by_cases e:(On.step s x).2=true
  ·rw [if_pos e]
   refine ⟨fun o=> ?_,ih2⟩
   rw [ih1 o,On.pS,tB]
   rw [hb] at e
   simp only [Bool.or_eq_true,decide_eq_true_eq] at e
   by_cases ed:x.dot=o.dot
   ·rw [if_pos ed.symm,if_pos ed]
    constructor
    ·rintro ⟨h1,_⟩;omega
    ·rintro ⟨h1,h2,h3⟩
     injection h2 with h2
     subst h2
     omega
   ·rw [if_neg (Ne.symm ed),if_neg ed]
  ·rw [if_neg e]
   rw [hb] at e
   simp only [Bool.or_eq_true,decide_eq_true_eq,not_or,Int.not_lt,Nat.not_lt,gt_iff_lt] at e
   refine ⟨fun o=> ?_,?_⟩
   ·rw [List.mem_cons,ih1 o,On.pS,tB]
    by_cases ed:x.dot=o.dot
    ·rw [if_pos ed.symm,if_pos ed]
     constructor
     ·rintro (rfl | ⟨h1,_⟩)
      ·exact ⟨by omega,rfl,by omega⟩
      ·omega
     ·rintro ⟨h1,h2,h3⟩
      injection h2 with h2
      exact .inl h2.symm
    ·rw [if_neg (Ne.symm ed),if_neg ed]
     constructor
     ·rintro (rfl | h1)
      ·exact absurd rfl ed
      ·exact h1
     ·exact .inr
   ·rw [List.map_cons,List.nodup_cons]
    refine ⟨fun hm=> ?_,ih2⟩
    obtain ⟨o,ho,hod⟩:=List.mem_map.1 hm
    have:=((ih1 o).1 ho).1
    rw [On.pS,if_pos hod] at this
    omega
theorem tC (l:List ag)(o:ag):o∈firsts l↔aD l o.dot=some o∧o.kind≤1:=by
 have h:=(qM l ⟨[],0⟩ (fun d=>Int.le_refl 0)).1 o
 rw [firsts,h]
 exact ⟨fun ⟨_,h⟩=>h,fun h=>⟨rfl,h⟩⟩
theorem A1 (l:List ag):((firsts l).map (·.dot)).Nodup:=(qM l ⟨[],0⟩ (fun d=>Int.le_refl 0)).2
structure By (o:ag)(p:Cr)(q:ag)(c:Cr):Prop where
 kind:o.kind=1
 aG:p.aG=o.aG
 r9:q.before o=true
 hold:p.hold=o.who
 own:hasB p.bp 1=true
 Lr:j6 o p=false
 is:c=⟨o.dot,o.aG,o.aK,o.to,o.bp,o.depth,o.cap,p.level+1⟩
structure Jz (l:List ag)(a:MM Dt Cr)(d:Dt)(o:ag)(c:Cr):Prop where
 fd:aD l d=some o
 lv:0≤c.level∧c.level+(c.depth:Int)≤8
 how:(o.kind=0∧o.aG=d∧c=tA o)∨∃ p q,MM.get a o.aK=some p∧aD l o.aK=some q∧By o p q c
structure uq (l:List ag)(T:Tr)(W:List ag):Prop where
 cr:∀ d c,MM.get T.at_ d=some c→∃ o,MM.get T.made d=some o∧Jz l T.at_ d o c
 w1:∀ o,o∈W→aD l o.dot=some o∧o.kind≤1∧MM.get T.at_ o.dot=none
 w2:(W.map (·.dot)).Nodup
 all:∀ d o,aD l d=some o→o.kind≤1→o∈W∨∃ c,MM.get T.at_ d=some c
theorem ur {o:ag}{c:Cr}(h:j6 o c=false):o.depth<c.depth∧o.cap≤c.cap∧o.to≠0∧v7 o.bp c.bp=true:=by
 unfold j6 at h
 simp only [Bool.or_eq_false_iff,Bool.not_eq_false',beq_eq_false_iff_ne,decide_eq_false_iff_not] at h
 obtain ⟨⟨⟨h1,h2⟩,h3⟩,h4⟩:=h
 exact ⟨by omega,by omega,by omega,h1⟩
theorem CP {T:Tr}{o:ag}(h:T.why o=0):o.kind=1∧T.fP o=false∧(T.by o).hold=o.who∧hasB (T.by o).bp 1=true∧j6 o (T.by o)=false:=by
 unfold Tr.why at h
 rw [CO,rD] at h
 by_cases h1:o.kind=1
 ·rw [if_neg (by omega)] at h
  by_cases h2:T.fP o=true
  ·rw [if_pos h2] at h;omega
  ·rw [if_neg h2] at h
   by_cases h3:(T.by o).hold=o.who
   ·rw [if_neg (by omega)] at h
    by_cases h4:(!hasB (T.by o).bp 1)=true
    ·rw [if_pos h4] at h;omega
    ·rw [if_neg h4] at h
     by_cases h5:j6 o (T.by o)=true
     ·rw [if_pos h5] at h;omega
     ·exact ⟨h1,by simpa using h2,h3,by simpa using h4,by simpa using h5⟩
   ·rw [if_pos h3] at h;omega
 ·rw [if_pos h1] at h;omega
theorem uq.put {l:List ag}{T:Tr}{K W:List ag}{o:ag}(h:uq l T (K++o::W))(hr:T.bN o=false):uq l (T.put o).1 (K++W):=by
  obtain ⟨cr,w1,w2,all⟩:=h
  obtain ⟨o1,o2,o3⟩:=w1 o (by simp)
  have ep:(T.put o).1={ T with at_:=MM.put T.at_ T.ca o.dot (T.mR o),ca:=MM.iU T.at_ T.ca o.dot,made:=MM.put T.made T.cm o.dot o,cm:=MM.iU T.made T.cm o.dot}:=by
    unfold Tr.put;rw [if_neg (by rw [hr];decide)]
  have ga:∀ d,MM.get (T.put o).1.at_ d=if d=o.dot then some (T.mR o) else MM.get T.at_ d:=fun d=>by
    rw [ep];exact MM.fB
  have gm:∀ d,MM.get (T.put o).1.made d=if d=o.dot then some o else MM.get T.made d:=fun d=>by
    rw [ep];exact MM.fB
  have up:∀ d c,MM.get T.at_ d=some c→MM.get (T.put o).1.at_ d=some c:=fun d c hc=>by
    rw [ga,if_neg (fun e=>by rw [e,o3] at hc;cases hc)];exact hc
  have w2':(K++o::W).map (·.dot)=K.map (·.dot)++o.dot::W.map (·.dot):=by simp
  rw [w2',List.nodup_append,List.nodup_cons] at w2
  obtain ⟨n1,⟨n2,n3⟩,n4⟩:=w2
  have hne:∀ x,x∈K++W→x.dot≠o.dot:=fun x hx e=>by
    rcases List.mem_append.1 hx with hx | hx
    · exact n4 _ (List.mem_map.2 ⟨x,hx,rfl⟩) _ (List.mem_cons_self ..) e
    · exact n2 (List.mem_map.2 ⟨x,hx,e⟩)
  refine ⟨fun d c hc=> ?_,fun x hx=> ?_,?_,fun d x hd hk=> ?_⟩
  · rw [ga] at hc
    by_cases e:d=o.dot
    · rw [if_pos e] at hc
      injection hc with hc
      refine ⟨o,by rw [gm,if_pos e],?_⟩
      subst e
      unfold Tr.bN at hr
      simp only [Bool.or_eq_false_iff,Bool.and_eq_false_iff,decide_eq_false_iff_not,Bool.not_eq_false',decide_eq_true_eq] at hr
      by_cases hk:o.kind=1
      · have hw:T.why o=0:=by rcases hr.2 with h | h;exact absurd hk h;exact Decidable.not_not.1 h
        obtain ⟨_,h2,h3,h4,h5⟩:=CP hw
        unfold Tr.fP at h2
        simp only [Bool.or_eq_false_iff,Bool.not_eq_false',decide_eq_true_eq] at h2
        obtain ⟨⟨h6,h7⟩,h8⟩:=h2
        obtain ⟨p,hp⟩:=Option.isSome_iff_exists.1 (show (MM.get T.at_ o.aK).isSome=true from h6)
        have eb:T.by o=p:=by unfold Tr.by;rw [hp];rfl
        obtain ⟨q,hq,hqc⟩:=cr _ _ hp
        have em:T.tw o=q:=by unfold Tr.tw;rw [hq];rfl
        rw [eb] at h3 h4 h5 h7
        rw [em] at h8
        obtain ⟨l1,l2⟩:=hqc.lv
        obtain ⟨n1,_⟩:=ur h5
        have ec:c=⟨o.dot,o.aG,o.aK,o.to,o.bp,o.depth,o.cap,p.level+1⟩:=by
          rw [← hc]
          unfold Tr.mR yD
          rw [if_pos hk,eb,vP _ (by omega) (by omega)]
        refine ⟨o1,?_,.inr ⟨p,q,up _ _ hp,hqc.fd,⟨hk,h7,h8,h3,h4,h5,ec⟩⟩⟩
        rw [ec]
        exact ⟨by show 0≤p.level+1;omega,by show p.level+1+(o.depth:Int)≤8;omega⟩
      · have mH:o.kind=0:=by omega
        have ec:o.aG=o.dot:=by rcases hr.1 with h | h;exact absurd mH h;exact h
        have ecr:c=tA o:=by rw [← hc];unfold Tr.mR;rw [if_neg hk]
        refine ⟨o1,?_,.inl ⟨mH,ec,ecr⟩⟩
        rw [ecr]
        exact ⟨by show (0:Int)≤0;omega,by show (0:Int)+((8:Nat):Int)≤8;omega⟩
    · rw [if_neg e] at hc
      obtain ⟨x,hx,hxc⟩:=cr d c hc
      refine ⟨x,by rw [gm,if_neg e];exact hx,hxc.fd,hxc.lv,?_⟩
      rcases hxc.how with h | ⟨p,q,h1,h2,h3⟩
      · exact .inl h
      · exact .inr ⟨p,q,up _ _ h1,h2,h3⟩
  · obtain ⟨a1,a2,a3⟩:=w1 x (by
      rcases List.mem_append.1 hx with h | h
      · exact List.mem_append_left _ h
      · exact List.mem_append_right _ (List.mem_cons_of_mem _ h))
    exact ⟨a1,a2,by rw [ga,if_neg (hne x hx)];exact a3⟩
  · rw [List.map_append,List.nodup_append]
    exact ⟨n1,n3,fun a ha b hb=>n4 a ha b (List.mem_cons_of_mem _ hb)⟩
  · rcases all d x hd hk with h | ⟨c,hc⟩
    · by_cases e:x.dot=o.dot
      · refine .inr ⟨T.mR o,?_⟩
        rw [ga,if_pos (by rw [← dS hd];exact e)]
      · rcases List.mem_append.1 h with h | h
        · exact .inl (List.mem_append_left _ h)
        · rcases List.mem_cons.1 h with h | h
          · rw [h] at e;exact absurd rfl e
          · exact .inl (List.mem_append_right _ h)
    · exact .inr ⟨c,up _ _ hc⟩
theorem xL (s:TS)(o:ag):(kI.step s o).2= !s.T.bN o∧(s.T.bN o=true→(kI.step s o).1.T=s.T):=by
 show (s.T.put o).2=_∧(_→(s.T.put o).1=s.T)
 unfold Tr.put
 cases h:s.T.bN o with
 | true=>exact ⟨rfl,fun _=>rfl⟩
 | false=>exact ⟨rfl,fun h=>by cases h⟩
theorem uq.keep {l:List ag}:∀ (W K:List ag) (s:TS),uq l s.T (K++W)→uq l (bG kI.step s W).2.T (K++(bG kI.step s W).1)
 | [],K,s,h=>h
 | x ::W,K,s,h=>by
  obtain ⟨p1,p2⟩:=xL s x
  simp only [bG]
  cases hr:s.T.bN x with
  | false=>
   rw [p1,hr,if_pos (by rfl)]
   exact uq.keep W K _ (h.put hr)
  | true=>
   rw [p1,hr,if_neg (by decide)]
   have:=uq.keep W (K++[x]) (kI.step s x).1 (by rw [p2 hr,List.append_assoc];exact h)
   rw [List.append_assoc] at this
   exact this
theorem xM:∀ (W:List ag) (s:TS),¬ (bG kI.step s W).1.length<W.length→(bG kI.step s W).1=W∧(bG kI.step s W).2.T=s.T∧∀ o,o∈W→s.T.bN o=true
 | [],s,_=>⟨rfl,rfl,fun o h=>by cases h⟩
 | x ::W,s,h=>by
  obtain ⟨p1,p2⟩:=xL s x
  have hl:=nU kI.step W (kI.step s x).1
  simp only [bG] at h ⊢
  cases hr:s.T.bN x with
  | false=>
   rw [p1,hr,if_pos (by rfl)] at h
   exact absurd (by simp;omega) h
  | true=>
   rw [p1,hr,if_neg (by decide)] at h ⊢
   obtain ⟨a1,a2,a3⟩:=xM W (kI.step s x).1 (by simpa using h)
   rw [p2 hr] at a2 a3
   exact ⟨by rw [a1],a2,fun o ho=>by
    rcases List.mem_cons.1 ho with rfl | ho
    ·exact hr
    ·exact a3 o ho⟩
structure nX (l:List ag)(T:Tr):Prop where
 cr:∀ d c,MM.get T.at_ d=some c→∃ o,MM.get T.made d=some o∧Jz l T.at_ d o c
 no:∀ d o,aD l d=some o→o.kind≤1→T.bN o=true∨∃ c,MM.get T.at_ d=some c
theorem zS {l:List ag}:∀ (f:Nat) (s:TS) (W:List ag),W.length<f→uq l s.T W→nX l (grow f s W).T
 | 0,s,W,hf,h=>by omega
 | f +1,s,W,hf,h=>by
  simp only [grow]
  split
  ·rename_i hlt
   exact zS f _ _ (by omega) (uq.keep W [] s h)
  ·rename_i hlt
   obtain ⟨a1,a2,a3⟩:=xM W s hlt
   rw [a2]
   refine ⟨h.cr,fun d o hd hk=> ?_⟩
   rcases h.all d o hd hk with h' | h'
   ·exact .inl (a3 o h')
   ·exact .inr h'
theorem gU (l:List ag):nX l (a_ l):=by
 refine zS _ _ _ (Nat.lt_succ_self _) ⟨fun d c h=>(by cases h),fun o ho=> ?_,A1 l,fun d o hd hk=> .inl ((tC l o).2 ⟨by rw [dS hd];exact hd,hk⟩)⟩
 obtain ⟨h1,h2⟩:=(tC l o).1 ho
 exact ⟨h1,h2,rfl⟩
theorem yG (l:List ag)(k:Nat):nX l (iR l k):=⟨(gU l).cr,(gU l).no⟩
theorem nX.Lf {l:List ag}{T:Tr}(h:nX l T):Jy T.at_:=fun d c p hc hl hp=>by
 obtain ⟨o,_,ho⟩:=h.cr d c hc
 rcases ho.how with ⟨_,_,e⟩ | ⟨p',q,h1,_,hb⟩
 ·rw [e] at hl;exact absurd hl (by show ¬ (0:Int)<0;omega)
 ·have ec:c.par=o.aK:=by rw [hb.is]
  rw [ec,h1] at hp
  injection hp with hp
  subst hp
  rw [hb.is]
  show p'.level<p'.level+1
  omega
theorem nX.level {l:List ag}{T:Tr}(h:nX l T){d:Dt}{c:Cr}(hc:MM.get T.at_ d=some c):0≤c.level∧c.level≤8:=by
 obtain ⟨o,_,ho⟩:=h.cr d c hc
 have:=ho.lv
 omega
theorem nX.GK {l:List ag}{T:Tr}(h:nX l T){p:Cr}{o:ag}(hp:MM.get T.at_ o.aK=some p):(eL l (p,true) o).2=T.why o:=by
 obtain ⟨q,hq,hc⟩:=h.cr _ _ hp
 have eb:T.by o=p:=by unfold Tr.by;rw [hp];rfl
 have em:T.tw o=q:=by unfold Tr.tw;rw [hq];rfl
 have ei:T.is o=true:=by unfold Tr.is MM.has;rw [hp];rfl
 unfold eL Tr.why
 rw [CO,rD,eb]
 have en:fD l (p,true) o=T.fP o:=by
  unfold fD Tr.fP
  rw [eb,em,ei,hc.fd];rfl
 rw [en]
 by_cases hk:o.kind≠1
 ·rw [if_pos hk,if_pos hk]
 ·rw [if_neg hk,if_neg hk]
  cases hasB p.bp 1 <;> rfl
theorem nX.JA {l:List ag}{T:Tr}{c:Cr}{o:ag}(hp:MM.get T.at_ o.aK=none):(eL l (c,false) o).2=T.why o:=by
 have ei:T.is o=false:=by unfold Tr.is MM.has;rw [hp];rfl
 have e1:T.fP o=true:=by unfold Tr.fP;rw [ei];rfl
 have e2:fD l (c,false) o=true:=rfl
 unfold eL Tr.why
 rw [e1,e2]
 by_cases hk:o.kind≠1
 ·rw [if_pos hk,if_pos hk]
 ·rw [if_neg hk,if_neg hk];rfl
theorem tD {l:List ag}{p c:Cr}{o q:ag}(h2:aD l o.aK=some q)(hb:By o p q c):eL l (p,true) o=(p,0):=by
 have e:fD l (p,true) o=false:=by
  unfold fD
  rw [h2]
  simp [hb.aG,hb.r9]
 unfold eL
 rw [if_neg (by rw [hb.kind];decide),e]
 simp [hb.hold,hb.own,hb.Lr]
theorem nX.sound {l:List ag}{T:Tr}(h:nX l T):∀ (n:Nat) (d:Dt) (c:Cr),MM.get T.at_ d=some c→c.level<(n:Int)→dD l n d=(c,true)
 | 0,d,c,hc,hn=>by have:=(h.level hc).1;omega
 | n +1,d,c,hc,hn=>by
  obtain ⟨o,hm,ho⟩:=h.cr d c hc
  simp only [dD,ho.fd]
  have ed:=dS ho.fd
  have hlv:=h.level hc
  rcases ho.how with ⟨h1,h2,h3⟩ | ⟨p,q,h1,h2,hb⟩
  ·rw [if_pos h1,h3,decide_eq_true h2]
   unfold tA
   rw [ed]
  ·have hl:c.level=p.level+1:=by rw [hb.is]
   have hg:=nX.sound h n o.aK p h1 (by omega)
   rw [if_neg (by rw [hb.kind];decide),hg,tD h2 hb,if_neg (fun h=>h rfl)]
   rw [hb.is,ed]
   show (_,true)=(_,true)
   rw [vP _ (by show -9223372036854775808≤p.level+1;omega) (by show p.level+1<9223372036854775808;omega)]
theorem nX.full {l:List ag}{T:Tr}(h:nX l T):∀ (m:Nat) (d:Dt),(dD l m d).2=true→∃ c,MM.get T.at_ d=some c∧dD l m d=(c,true)
 | 0,d,hd=>by cases hd
 | m + 1, d, hd=>by
  cases hf:aD l d with
  | none=>simp only [dD,hf] at hd;cases hd
  | some o=>
   have ed:=dS hf
   by_cases hk:o.kind=0
   ·simp only [dD,hf,if_pos hk] at hd ⊢
    have hcart:o.aG=d:=by simpa using hd
    have hr:T.bN o=false:=by
     unfold Tr.bN
     simp [hk,hcart,ed]
    rcases h.no d o hf (by omega) with h1 | ⟨c,hc⟩
    ·rw [hr] at h1;cases h1
    ·refine ⟨c,hc,?_⟩
     obtain ⟨o',hm,ho⟩:=h.cr d c hc
     have eo:o=o':=by have:=ho.fd;rw [hf] at this;injection this
     subst eo
     rcases ho.how with ⟨_,_,e⟩ | ⟨p,q,_,_,hb⟩
     ·rw [e,decide_eq_true hcart]
      unfold tA
      rw [ed]
     ·have:=hb.kind;omega
   ·simp only [dD,hf,if_neg hk] at hd ⊢
    by_cases hw:(eL l (dD l m o.aK) o).2≠0
    ·rw [if_pos hw] at hd;cases hd
    ·have hw0:(eL l (dD l m o.aK) o).2=0:=Decidable.not_not.1 hw
     rw [if_neg hw]
     have hk1:o.kind=1:=by
      by_cases e:o.kind=1
      ·exact e
      ·unfold eL at hw0;rw [if_pos e] at hw0;cases hw0
     have hg2:(dD l m o.aK).2=true:=by
      cases e:(dD l m o.aK).2 with
      | true=>rfl
      | false=>
       unfold eL fD at hw0
       rw [if_neg (by omega),e] at hw0
       cases hw0
     obtain ⟨p,hp,hgp⟩:=nX.full h m o.aK hg2
     rw [hgp] at hw0 ⊢
     rw [h.GK hp] at hw0
     have hr:T.bN o=false:=by
      unfold Tr.bN
      simp [hk1,hw0]
     rcases h.no d o hf (by omega) with h1 | ⟨c,hc⟩
     ·rw [hr] at h1;cases h1
     ·refine ⟨c,hc,?_⟩
      obtain ⟨o',hm,ho⟩:=h.cr d c hc
      have eo:o=o':=by have:=ho.fd;rw [hf] at this;injection this
      subst eo
      rcases ho.how with ⟨h0,_,_⟩ | ⟨p',q,h1,h2,hb⟩
      ·omega
      ·have ep:p=p':=by rw [hp] at h1;injection h1
       subst ep
       have hl:=h.level hp
       rw [tD h2 hb,hb.is,ed]
       show (_,true)=(_,true)
       rw [vP _ (by show -9223372036854775808≤p.level+1;omega) (by show p.level+1<9223372036854775808;omega)]
theorem nX.get {l:List ag}{T:Tr}(h:nX l T)(d:Dt):((dD l 10 d).2=MM.has T.at_ d)∧∀ c,MM.get T.at_ d=some c→dD l 10 d=(c,true):=by
 have hs:∀ c,MM.get T.at_ d=some c→dD l 10 d=(c,true):=fun c hc=>h.sound 10 d c hc (by have:=(h.level hc).2;show c.level<10;omega)
 refine ⟨?_,hs⟩
 cases hg:MM.get T.at_ d with
 | some c=>rw [hs c hg];show true=(MM.get T.at_ d).isSome;rw [hg];rfl
 | none=>
  show _=(MM.get T.at_ d).isSome
  rw [hg]
  cases e:(dD l 10 d).2 with
  | false=>rfl
  | true=>
   obtain ⟨c,hc,_⟩:=h.full 10 d e
   rw [hg] at hc;cases hc
theorem nX.why {l:List ag}{T:Tr}(h:nX l T)(o:ag):(eL l (dD l 10 o.aK) o).2=T.why o:=by
 obtain ⟨h1,h2⟩:=h.get o.aK
 cases hg:MM.get T.at_ o.aK with
 | some p=>rw [h2 p hg];exact h.GK hg
 | none=>
  have e:dD l 10 o.aK=((dD l 10 o.aK).1,false):=by
   have:(dD l 10 o.aK).2=false:=by rw [h1];show (MM.get T.at_ o.aK).isSome=false;rw [hg];rfl
   rw [← this]
  rw [e]
  exact nX.JA hg
theorem nX.above {l:List ag}{T:Tr}(h:nX l T){d:Dt}{c:Cr}(hc:MM.get T.at_ d=some c)(hl:0<c.level):∃ o p q,aD l d=some o∧aD l c.par=some q∧MM.get T.at_ c.par=some p∧By o p q c:=by
 obtain ⟨o,_,ho⟩:=h.cr d c hc
 rcases ho.how with ⟨_,_,e⟩ | ⟨p,q,h1,h2,hb⟩
 ·rw [e] at hl;exact absurd hl (by show ¬ (0:Int)<0;omega)
 ·have ec:c.par=o.aK:=by rw [hb.is]
  exact ⟨o,p,q,ho.fd,by rw [ec];exact h2,by rw [ec];exact h1,hb⟩
theorem nX.GL {l:List ag}{T:Tr}(h:nX l T):∀ (n:Nat) (d:Dt) (c:Cr),MM.get T.at_ d=some c→c.level=(n:Int)→∃ L,rS T.at_ (some c) L∧L.length=n+1
 | 0,d,c,hc,hn=>⟨[c],.root c (by omega),rfl⟩
 | n+1,d,c,hc,hn=>by
  have hl:0<c.level:=by omega
  obtain ⟨o,p,q,_,_,hp,hb⟩:=h.above hc hl
  have e:c.level=p.level+1:=by rw [hb.is]
  obtain ⟨L,h1,h2⟩:=nX.GL h n c.par p hp (by omega)
  exact ⟨c::L,.more c L hl (by rw [hp];exact h1),by simp [h2]⟩
theorem nX.ue {l:List ag}{T:Tr}(h:nX l T)(d:Dt):∃ L,rS T.at_ (MM.get T.at_ d) L∧L.length≤9∧∀ c,MM.get T.at_ d=some c→(L.length:Int)=c.level+1:=by
 cases hg:MM.get T.at_ d with
 | none=>exact ⟨[],.none,by simp,fun c hc=>by cases hc⟩
 | some c=>
  have hl:=h.level hg
  obtain ⟨L,h1,h2⟩:=h.GL c.level.toNat d c hg (by omega)
  exact ⟨L,h1,by omega,fun c' hc'=>by injection hc' with hc';subst hc';omega⟩
end
section
def gO:ag:=⟨⟨0,1⟩,aL.zero,1,1,⟨0,1⟩,0,⟨0,0⟩,0,0,0,0,⟨0,0⟩,⟨0,0⟩,0,0,0,.aU⟩
def yH (n:Nat):aL:=⟨n,0,0,0,0,0,0,0⟩
def aO:ag:=⟨⟨0,2⟩,yH 1,2,1,⟨0,1⟩,1,⟨0,1⟩,2,3,3,500,⟨0,0⟩,⟨0,0⟩,0,0,0,.aU⟩
def bO:ag:=⟨⟨0,3⟩,yH 2,3,2,⟨0,1⟩,1,⟨0,2⟩,3,2,0,500,⟨0,0⟩,⟨0,0⟩,0,0,0,.aU⟩
abbrev ID:List ag:=[bO,gO,aO]
def c1:Cr:=⟨⟨0,1⟩,⟨0,1⟩,⟨0,0⟩,1,7,8,1099511627776,0⟩
def c2:Cr:=⟨⟨0,2⟩,⟨0,1⟩,⟨0,1⟩,2,3,3,500,1⟩
def c3:Cr:=⟨⟨0,3⟩,⟨0,1⟩,⟨0,2⟩,3,2,0,500,2⟩
end
section
structure Part (t l:List ag):Prop where
 uniq:fL l
 A2:fL t
 sub:∀ o,o∈t→o∈l
 Kr:∀ o a,o∈t→a∈l→a.before o=true→a∈t
section
variable {t l:List ag} (h:Part t l)
include h
theorem Part.find {d:Dt}{o:ag}(hf:aD t d=some o):aD l d=some o:=by
 obtain ⟨h1,rfl⟩:=cT hf
 exact h.uniq.find (h.sub o h1)
end
theorem vV.begin {n:Int}{l:List ag}(h:vV n l)(k:Nat):Part ((aT l).take k) l:=by
 have hp:(aT l).Perm l:=h.uniq.tf
 have hu:fL (aT l):=h.uniq.perm hp
 refine ⟨h.uniq,hu.sub (List.take_sublist _ _),fun o ho=>hp.mem_iff.1 (List.mem_of_mem_take ho),fun o a ho ha hb=> ?_⟩
 have hlt:=h.lt ha (hp.mem_iff.1 (List.mem_of_mem_take ho)) hb
 obtain ⟨i,hi⟩:=List.mem_iff_getElem?.1 ho
 obtain ⟨j,hj⟩:=List.mem_iff_getElem?.1 (hp.mem_iff.2 ha)
 have hik:i<k:=by
  have:=bu hi
  rw [List.length_take] at this;omega
 rw [List.getElem?_take_of_lt hik] at hi
 have hji:j<i:=by
  rcases Nat.lt_or_ge j i with h1 | h1
  ·exact h1
  ·exfalso
   rcases Nat.eq_or_lt_of_le h1 with e | h2
   ·subst e
    rw [hi] at hj;injection hj with hj
    rw [hj,ag.lt_irrefl] at hlt;cases hlt
   ·have hr:=List.pairwise_iff_getElem.1 (mP l) i j (bu hi) (bu hj) h2
    rw [List.getElem?_eq_getElem (bu hi)] at hi
    rw [List.getElem?_eq_getElem (bu hj)] at hj
    injection hi with hi;injection hj with hj
    rw [hi,hj,ag.lt_asymm hlt] at hr;cases hr
 exact List.mem_of_getElem? (i:=j) (by rw [List.getElem?_take_of_lt (by omega)];exact hj)
end
end Go.Proofs.YtaelhkkjgfobhaaGreat
