/-
 Trees of credentials: what New has made, plainly: each credential is by one that is there, and what is not there is refused; the document's answer is the same.
-/
import Derived.Test.YtaelhkkjgfobhaaGreatPC
import Derived.Test.YtaelhkkjgfobhaaGreatP5
set_option linter.unusedSectionVars false
set_option linter.unusedVariables false
set_option linter.unusedSimpArgs false
namespace Go.Proofs.YtaelhkkjgfobhaaGreat
open Go.Sl Go.Proofs
section
theorem xO (r i:Nat):hasB r (2 ^ i)=r.testBit i:=by
 unfold hasB;rw [Nat.testBit_eq_decide_div_mod_eq]
theorem qd (r o:Nat):∀ n,j4 r o n=true↔∀ i,i<n→r.testBit i=true→o.testBit i=true
 | 0=>by simp [j4]
 | n + 1=>by
  simp only [j4,Bool.and_eq_true,qd r o n,xO,Bool.or_eq_true,Bool.not_eq_true'];constructor
  ·rintro ⟨h1,h2⟩ i hi hr
   by_cases e:i=n
   ·subst e
    rcases h2 with h2 | h2
    ·rw [h2] at hr;cases hr
    ·exact h2
   ·exact h1 i (by omega) hr
  ·intro h
   refine ⟨fun i hi=>h i (by omega),?_⟩
   cases hr:r.testBit n with
   | false=>exact .inl rfl
   | true=>exact .inr (h n (by omega) hr)
theorem Am (v:BitVec 8):IntKind.u8.wrap ((v.toNat:Nat):Int)=v.toNat:=wrap_u8 _ v.isLt
theorem Bt (r o:Nat):bits .andNot .u8 (r:Int) (o:Int)=((BitVec.ofNat 8 r &&& ~~~BitVec.ofNat 8 o).toNat:Int):=by
 show IntKind.u8.wrap (((BitVec.ofInt 8 (r:Int) &&& ~~~BitVec.ofInt 8 (o:Int)).toNat:Nat):Int)=_;rw [Am,BitVec.ofInt_natCast,BitVec.ofInt_natCast]
theorem and_eq (r o:Nat):bits .and .u8 (r:Int) (o:Int)=((BitVec.ofNat 8 r &&& BitVec.ofNat 8 o).toNat:Int):=by
 show IntKind.u8.wrap (((BitVec.ofInt 8 (r:Int) &&& BitVec.ofInt 8 (o:Int)).toNat:Nat):Int)=_;rw [Am,BitVec.ofInt_natCast,BitVec.ofInt_natCast]
theorem xP (r o:Nat):bits .andNot .u8 (r:Int) (o:Int)=0↔∀ i,i<8→r.testBit i=true→o.testBit i=true:=by
 rw [Bt];constructor
 ·intro h i hi hr
  have h0:BitVec.ofNat 8 r &&& ~~~BitVec.ofNat 8 o=0#8:=BitVec.eq_of_toNat_eq (by simpa using h)
  have h1:(BitVec.ofNat 8 r &&& ~~~BitVec.ofNat 8 o).getLsbD i=false:=by rw [h0];simp
  rw [BitVec.getLsbD_and,BitVec.getLsbD_not,BitVec.getLsbD_ofNat,BitVec.getLsbD_ofNat] at h1
  simpa [hi,hr] using h1
 ·intro h
  have h0:BitVec.ofNat 8 r &&& ~~~BitVec.ofNat 8 o=0#8:=by
   apply BitVec.eq_of_getLsbD_eq;intro i hi;rw [BitVec.getLsbD_and,BitVec.getLsbD_not,BitVec.getLsbD_ofNat,BitVec.getLsbD_ofNat];have:=h i hi;cases hr:r.testBit i with
   | false=>simp
   | true=>simp [hi,this hr]
  rw [h0];rfl
theorem I2 (r:Nat):(bits .and .u8 (r:Int) 1 == 0)= !hasB r 1:=by
 have h:=and_eq r 1;have e:hasB r 1=r.testBit 0:=xO r 0;rw [show ((1:Nat):Int)=1 from rfl] at h;rw [h,e,BitVec.toNat_and,BitVec.toNat_ofNat,BitVec.toNat_ofNat];rw [show (1 % 2 ^ 8:Nat)=1 from rfl,Nat.and_one_is_mod,Nat.testBit_zero,Bool.eq_iff_iff];simp only [beq_iff_eq,Bool.not_eq_true',decide_eq_false_iff_not];omega
theorem xQ (o:ag)(c:Cr):gp o c=ku o c:=by
 unfold gp ku vT;have h:(bits .andNot .u8 (o.bn:Int) (c.bn:Int) != 0)= !j4 o.bn c.bn 8:=by
  rw [Bool.eq_iff_iff,bne_iff_ne,Bool.not_eq_true',ne_eq,xP,← qd,Bool.not_eq_true]
 rw [h]
 congr 3
 cases j4 o.bn c.bn 8 <;> by_cases e:o.bn=0 <;> simp [e]
theorem s7 (x:ag)(l:List ag)(d:Dt):bB (x::l) d=if x.dot=d then some x else bB l d:=by
 unfold bB;rw [List.find?_cons]
 by_cases h:x.dot=d <;> simp [h]
theorem jL {l:List ag}{d:Dt}{o:ag}(h:bB l d=some o):o.dot=d:=by
 have:=List.find?_some h
 simpa using this
theorem q_ {l:List ag}{d:Dt}{o:ag}(h:bB l d=some o):o∈l:=List.mem_of_find?_eq_some h
theorem On.qe (s:On)(x:ag)(d:Dt):(On.step s x).1.cnt d=if d=x.dot then s.cnt x.dot+1 else s.cnt d:=by
 show (MM.get (MM.put s.L s.c x.dot (s.cnt x.dot+1)) d).getD 0=_;rw [MM.cQ]
 by_cases h:d=x.dot
 ·rw [if_pos h,if_pos h];rfl
 ·rw [if_neg h,if_neg h];rfl
theorem rj:∀ (l:List ag) (s:On),(∀ d,0≤s.cnt d)→(∀ o,o∈(bH On.step s l).1↔s.cnt o.dot=0∧bB l o.dot=some o∧o.kind≤1)∧((bH On.step s l).1.map (·.dot)).Nodup
 | [],s,h=>⟨fun o=>by simp [bH,bB],by simp [bH]⟩
 | x :: l, s,h=>by
  have hs:∀ d,0≤(On.step s x).1.cnt d:=fun d=>by
   rw [On.qe];have:=h x.dot;have:=h d;split <;> omega
  obtain ⟨ih1,ih2⟩:=rj l (On.step s x).1 hs;have hb:(On.step s x).2=(decide (s.cnt x.dot+1>1) || decide (x.kind>1)):=rfl
  have hx:=h x.dot;simp only [bH]
  by_cases e:(On.step s x).2=true
  ·rw [if_pos e]
   refine ⟨fun o=> ?_,ih2⟩
   rw [ih1 o,On.qe,s7];rw [hb] at e;simp only [Bool.or_eq_true,decide_eq_true_eq] at e
   by_cases ed:x.dot=o.dot
   ·rw [if_pos ed.symm,if_pos ed]
    constructor
    ·rintro ⟨h1,_⟩;omega
    ·rintro ⟨h1,h2,h3⟩
     injection h2 with h2;subst h2;omega
   ·rw [if_neg (Ne.symm ed),if_neg ed]
  ·rw [if_neg e]
   rw [hb] at e;simp only [Bool.or_eq_true,decide_eq_true_eq,not_or,Int.not_lt,Nat.not_lt,gt_iff_lt] at e;refine ⟨fun o=> ?_,?_⟩
   ·rw [List.mem_cons,ih1 o,On.qe,s7]
    by_cases ed:x.dot=o.dot
    ·rw [if_pos ed.symm,if_pos ed]
     constructor
     ·rintro (rfl | ⟨h1,_⟩)
      ·exact ⟨by omega,rfl,by omega⟩
      ·omega
     ·rintro ⟨h1,h2,h3⟩
      injection h2 with h2;exact .inl h2.symm
    ·rw [if_neg (Ne.symm ed),if_neg ed]
     constructor
     ·rintro (rfl | h1)
      ·exact absurd rfl ed
      ·exact h1
     ·exact .inr
   ·rw [List.map_cons,List.nodup_cons]
    refine ⟨fun hm=> ?_,ih2⟩
    obtain ⟨o,ho,hod⟩:=List.mem_map.1 hm;have:=((ih1 o).1 ho).1;rw [On.qe,if_pos hod] at this;omega
theorem s8 (l:List ag)(o:ag):o∈firsts l↔bB l o.dot=some o∧o.kind≤1:=by
 have h:=(rj l ⟨[],0⟩ (fun d=>Int.le_refl 0)).1 o
 rw [firsts,h];exact ⟨fun ⟨_,h⟩=>h,fun h=>⟨rfl,h⟩⟩
theorem Bu (l:List ag):((firsts l).map (·.dot)).Nodup:=(rj l ⟨[],0⟩ (fun d=>Int.le_refl 0)).2
structure By (o:ag)(p:Cr)(q:ag)(c:Cr):Prop where
 kind:o.kind=1
 aR:p.aR=o.aR
 wM:q.before o=true
 hold:p.hold=o.who
 own:hasB p.bn 1=true
 Nr:ku o p=false
 is:c=⟨o.dot,o.aR,o.br,o.to,o.bn,o.depth,o.cap,p.level+1⟩
structure Gi (l:List ag)(a:MM Dt Cr)(d:Dt)(o:ag)(c:Cr):Prop where
 fd:bB l d=some o
 lv:0≤c.level∧c.level+(c.depth:Int)≤8
 how:(o.kind=0∧o.aR=d∧c=xM o)∨∃ p q,MM.get a o.br=some p∧bB l o.br=some q∧By o p q c
theorem Gi.dot {l:List ag}{a:MM Dt Cr}{d:Dt}{o:ag}{c:Cr}(h:Gi l a d o c):c.dot=d:=by
 have hd:=jL h.fd;rcases h.how with ⟨_,_,e⟩ | ⟨p,q,_,_,hb⟩
 ·rw [e];exact hd
 ·rw [hb.is];exact hd
structure tZ (l:List ag)(T:Tr)(W:List ag):Prop where
 cr:∀ d c,MM.get T.at_ d=some c→∃ o,MM.get T.made d=some o∧Gi l T.at_ d o c
 w1:∀ o,o∈W→bB l o.dot=some o∧o.kind≤1∧MM.get T.at_ o.dot=none
 w2:(W.map (·.dot)).Nodup
 all:∀ d o,bB l d=some o→o.kind≤1→o∈W∨∃ c,MM.get T.at_ d=some c
theorem t_ {o:ag}{c:Cr}(h:ku o c=false):o.depth<c.depth∧o.cap≤c.cap∧o.to≠0∧vT o.bn c.bn=true:=by
 unfold ku at h;simp only [Bool.or_eq_false_iff,Bool.not_eq_false',beq_eq_false_iff_ne,decide_eq_false_iff_not] at h;obtain ⟨⟨⟨h1,h2⟩,h3⟩,h4⟩:=h;exact ⟨by omega,by omega,by omega,h1⟩
theorem DB {T:Tr}{o:ag}(h:T.why o=0):o.kind=1∧T.iW o=false∧(T.by o).hold=o.who∧hasB (T.by o).bn 1=true∧ku o (T.by o)=false:=by
 unfold Tr.why at h;rw [I2,xQ] at h
 by_cases h1:o.kind=1
 ·rw [if_neg (by omega)] at h
  by_cases h2:T.iW o=true
  ·rw [if_pos h2] at h;omega
  ·rw [if_neg h2] at h
   by_cases h3:(T.by o).hold=o.who
   ·rw [if_neg (by omega)] at h
    by_cases h4:(!hasB (T.by o).bn 1)=true
    ·rw [if_pos h4] at h;omega
    ·rw [if_neg h4] at h
     by_cases h5:ku o (T.by o)=true
     ·rw [if_pos h5] at h;omega
     ·exact ⟨h1,by simpa using h2,h3,by simpa using h4,by simpa using h5⟩
   ·rw [if_pos h3] at h;omega
 ·rw [if_pos h1] at h;omega
theorem tZ.put {l:List ag}{T:Tr}{K W:List ag}{o:ag}(h:tZ l T (K++o::W))(hr:T.cu o=false):tZ l (T.put o).1 (K++W):=by
  obtain ⟨cr,w1,w2,all⟩:=h;obtain ⟨o1,o2,o3⟩:=w1 o (by simp)
  have ep:(T.put o).1={ T with at_:=MM.put T.at_ T.ca o.dot (T.mZ o),ca:=MM.iw T.at_ T.ca o.dot,made:=MM.put T.made T.cm o.dot o,cm:=MM.iw T.made T.cm o.dot}:=by
    unfold Tr.put;rw [if_neg (by rw [hr];decide)]
  have ga:∀ d,MM.get (T.put o).1.at_ d=if d=o.dot then some (T.mZ o) else MM.get T.at_ d:=fun d=>by
    rw [ep];exact MM.cQ
  have gm:∀ d,MM.get (T.put o).1.made d=if d=o.dot then some o else MM.get T.made d:=fun d=>by
    rw [ep];exact MM.cQ
  have up:∀ d c,MM.get T.at_ d=some c→MM.get (T.put o).1.at_ d=some c:=fun d c hc=>by
    rw [ga,if_neg (fun e=>by rw [e,o3] at hc;cases hc)];exact hc
  have w2':(K++o::W).map (·.dot)=K.map (·.dot)++o.dot::W.map (·.dot):=by simp
  rw [w2',List.nodup_append,List.nodup_cons] at w2;obtain ⟨n1,⟨n2,n3⟩,n4⟩:=w2;have hne:∀ x,x∈K++W→x.dot≠o.dot:=fun x hx e=>by
    rcases List.mem_append.1 hx with hx | hx
    · exact n4 _ (List.mem_map.2 ⟨x,hx,rfl⟩) _ (List.mem_cons_self ..) e
    · exact n2 (List.mem_map.2 ⟨x,hx,e⟩)
  refine ⟨fun d c hc=> ?_,fun x hx=> ?_,?_,fun d x hd hk=> ?_⟩
  · rw [ga] at hc
    by_cases e:d=o.dot
    · rw [if_pos e] at hc
      injection hc with hc;refine ⟨o,by rw [gm,if_pos e],?_⟩
      subst e;unfold Tr.cu at hr;simp only [Bool.or_eq_false_iff,Bool.and_eq_false_iff,decide_eq_false_iff_not,Bool.not_eq_false',decide_eq_true_eq] at hr
      by_cases hk:o.kind=1
      · have hw:T.why o=0:=by rcases hr.2 with h | h;exact absurd hk h;exact Decidable.not_not.1 h
        obtain ⟨_,h2,h3,h4,h5⟩:=DB hw;unfold Tr.iW at h2;simp only [Bool.or_eq_false_iff,Bool.not_eq_false',decide_eq_true_eq] at h2;obtain ⟨⟨h6,h7⟩,h8⟩:=h2;obtain ⟨p,hp⟩:=Option.isSome_iff_exists.1 (show (MM.get T.at_ o.br).isSome=true from h6);have eb:T.by o=p:=by unfold Tr.by;rw [hp];rfl
        obtain ⟨q,hq,hqc⟩:=cr _ _ hp;have em:T.xL o=q:=by unfold Tr.xL;rw [hq];rfl
        rw [eb] at h3 h4 h5 h7;rw [em] at h8;obtain ⟨l1,l2⟩:=hqc.lv;obtain ⟨n1,_⟩:=t_ h5;have ec:c=⟨o.dot,o.aR,o.br,o.to,o.bn,o.depth,o.cap,p.level+1⟩:=by
          rw [← hc];unfold Tr.mZ y9;rw [if_pos hk,eb,CK _ (by omega) (by omega)]
        refine ⟨o1,?_,.inr ⟨p,q,up _ _ hp,hqc.fd,⟨hk,h7,h8,h3,h4,h5,ec⟩⟩⟩;rw [ec];exact ⟨by show 0≤p.level+1;omega,by show p.level+1+(o.depth:Int)≤8;omega⟩
      · have mR:o.kind=0:=by omega
        have ec:o.aR=o.dot:=by rcases hr.1 with h | h;exact absurd mR h;exact h
        have ecr:c=xM o:=by rw [← hc];unfold Tr.mZ;rw [if_neg hk]
        refine ⟨o1,?_,.inl ⟨mR,ec,ecr⟩⟩;rw [ecr];exact ⟨by show (0:Int)≤0;omega,by show (0:Int)+((8:Nat):Int)≤8;omega⟩
    · rw [if_neg e] at hc
      obtain ⟨x,hx,hxc⟩:=cr d c hc;refine ⟨x,by rw [gm,if_neg e];exact hx,hxc.fd,hxc.lv,?_⟩
      rcases hxc.how with h | ⟨p,q,h1,h2,h3⟩
      · exact .inl h
      · exact .inr ⟨p,q,up _ _ h1,h2,h3⟩
  · obtain ⟨a1,a2,a3⟩:=w1 x (by
      rcases List.mem_append.1 hx with h | h
      · exact List.mem_append_left _ h
      · exact List.mem_append_right _ (List.mem_cons_of_mem _ h))
    exact ⟨a1,a2,by rw [ga,if_neg (hne x hx)];exact a3⟩
  · rw [List.map_append,List.nodup_append]
    exact ⟨n1,n3,fun a ha b hb=>n4 a ha b (List.mem_cons_of_mem _ hb)⟩
  · rcases all d x hd hk with h | ⟨c,hc⟩
    · by_cases e:x.dot=o.dot
      · refine .inr ⟨T.mZ o,?_⟩
        rw [ga,if_pos (by rw [← jL hd];exact e)]
      · rcases List.mem_append.1 h with h | h
        · exact .inl (List.mem_append_left _ h)
        · rcases List.mem_cons.1 h with h | h
          · rw [h] at e;exact absurd rfl e
          · exact .inl (List.mem_append_right _ h)
    · exact .inr ⟨c,up _ _ hc⟩
theorem xR (s:TS)(o:ag):(kO.step s o).2= !s.T.cu o∧(s.T.cu o=true→(kO.step s o).1.T=s.T):=by
 show (s.T.put o).2=_∧(_→(s.T.put o).1=s.T);unfold Tr.put;cases h:s.T.cu o with
 | true=>exact ⟨rfl,fun _=>rfl⟩
 | false=>exact ⟨rfl,fun h=>by cases h⟩
theorem tZ.keep {l:List ag}:∀ (W K:List ag) (s:TS),tZ l s.T (K++W)→tZ l (bH kO.step s W).2.T (K++(bH kO.step s W).1)
 | [],K,s,h=>h
 | x ::W,K,s,h=>by
  obtain ⟨p1,p2⟩:=xR s x;simp only [bH];cases hr:s.T.cu x with
  | false=>
   rw [p1,hr,if_pos (by rfl)]
   exact tZ.keep W K _ (h.put hr)
  | true=>
   rw [p1,hr,if_neg (by decide)]
   have:=tZ.keep W (K++[x]) (kO.step s x).1 (by rw [p2 hr,List.append_assoc];exact h)
   rw [List.append_assoc] at this;exact this
theorem xS:∀ (W:List ag) (s:TS),¬ (bH kO.step s W).1.length<W.length→(bH kO.step s W).1=W∧(bH kO.step s W).2.T=s.T∧∀ o,o∈W→s.T.cu o=true
 | [],s,_=>⟨rfl,rfl,fun o h=>by cases h⟩
 | x ::W,s,h=>by
  obtain ⟨p1,p2⟩:=xR s x;have hl:=oh kO.step W (kO.step s x).1;simp only [bH] at h ⊢;cases hr:s.T.cu x with
  | false=>
   rw [p1,hr,if_pos (by rfl)] at h
   exact absurd (by simp;omega) h
  | true=>
   rw [p1,hr,if_neg (by decide)] at h ⊢
   obtain ⟨a1,a2,a3⟩:=xS W (kO.step s x).1 (by simpa using h)
   rw [p2 hr] at a2 a3;exact ⟨by rw [a1],a2,fun o ho=>by
    rcases List.mem_cons.1 ho with rfl | ho
    ·exact hr
    ·exact a3 o ho⟩
structure o9 (l:List ag)(T:Tr):Prop where
 cr:∀ d c,MM.get T.at_ d=some c→∃ o,MM.get T.made d=some o∧Gi l T.at_ d o c
 no:∀ d o,bB l d=some o→o.kind≤1→T.cu o=true∨∃ c,MM.get T.at_ d=some c
theorem An {l:List ag}:∀ (f:Nat) (s:TS) (W:List ag),W.length<f→tZ l s.T W→o9 l (grow f s W).T
 | 0,s,W,hf,h=>by omega
 | f +1,s,W,hf,h=>by
  simp only [grow]
  split
  ·rename_i hlt
   exact An f _ _ (by omega) (tZ.keep W [] s h)
  ·rename_i hlt
   obtain ⟨a1,a2,a3⟩:=xS W s hlt;rw [a2];refine ⟨h.cr,fun d o hd hk=> ?_⟩
   rcases h.all d o hd hk with h' | h'
   ·exact .inl (a3 o h')
   ·exact .inr h'
theorem lI (l:List ag):o9 l (cU l):=by
 refine An _ _ _ (Nat.lt_succ_self _) ⟨fun d c h=>(by cases h),fun o ho=> ?_,Bu l,fun d o hd hk=> .inl ((s8 l o).2 ⟨by rw [jL hd];exact hd,hk⟩)⟩
 obtain ⟨h1,h2⟩:=(s8 l o).1 ho;exact ⟨h1,h2,rfl⟩
theorem zc (l:List ag)(k:Nat):o9 l (iX l k):=⟨(lI l).cr,(lI l).no⟩
theorem o9.MC {l:List ag}{T:Tr}(h:o9 l T):KJ T.at_:=fun d c p hc hl hp=>by
 obtain ⟨o,_,ho⟩:=h.cr d c hc;rcases ho.how with ⟨_,_,e⟩ | ⟨p',q,h1,_,hb⟩
 ·rw [e] at hl;exact absurd hl (by show ¬ (0:Int)<0;omega)
 ·have ec:c.par=o.br:=by rw [hb.is]
  rw [ec,h1] at hp;injection hp with hp;subst hp;rw [hb.is];show p'.level<p'.level+1;omega
theorem o9.level {l:List ag}{T:Tr}(h:o9 l T){d:Dt}{c:Cr}(hc:MM.get T.at_ d=some c):0≤c.level∧c.level≤8:=by
 obtain ⟨o,_,ho⟩:=h.cr d c hc;have:=ho.lv;omega
theorem o9.above {l:List ag}{T:Tr}(h:o9 l T){d:Dt}{c:Cr}(hc:MM.get T.at_ d=some c)(hl:0<c.level):∃ o p q,bB l d=some o∧bB l c.par=some q∧MM.get T.at_ c.par=some p∧By o p q c:=by
 obtain ⟨o,_,ho⟩:=h.cr d c hc;rcases ho.how with ⟨_,_,e⟩ | ⟨p,q,h1,h2,hb⟩
 ·rw [e] at hl;exact absurd hl (by show ¬ (0:Int)<0;omega)
 ·have ec:c.par=o.br:=by rw [hb.is]
  exact ⟨o,p,q,ho.fd,by rw [ec];exact h2,by rw [ec];exact h1,hb⟩
theorem o9.DC {l:List ag}{T:Tr}(h:o9 l T){d:Dt}{c:Cr}(hc:MM.get T.at_ d=some c):c.dot=d:=by
 obtain ⟨o,_,ho⟩:=h.cr d c hc;exact ho.dot
theorem o9.HQ {l:List ag}{T:Tr}(h:o9 l T):∀ (n:Nat) (d:Dt) (c:Cr),MM.get T.at_ d=some c→c.level=(n:Int)→∃ L,oD T.at_ (some c) L∧L.length=n+1
 | 0,d,c,hc,hn=>⟨[c],.root c (by omega),rfl⟩
 | n+1,d,c,hc,hn=>by
  have hl:0<c.level:=by omega
  obtain ⟨o,p,q,_,_,hp,hb⟩:=h.above hc hl;have e:c.level=p.level+1:=by rw [hb.is]
  obtain ⟨L,h1,h2⟩:=o9.HQ h n c.par p hp (by omega)
  exact ⟨c::L,.more c L hl (by rw [hp];exact h1),by simp [h2]⟩
theorem o9.tP {l:List ag}{T:Tr}(h:o9 l T)(d:Dt):∃ L,oD T.at_ (MM.get T.at_ d) L∧L.length≤9∧∀ c,MM.get T.at_ d=some c→(L.length:Int)=c.level+1:=by
 cases hg:MM.get T.at_ d with
 | none=>exact ⟨[],.none,by simp,fun c hc=>by cases hc⟩
 | some c=>
  have hl:=h.level hg;obtain ⟨L,h1,h2⟩:=h.HQ c.level.toNat d c hg (by omega)
  exact ⟨L,h1,by omega,fun c' hc'=>by injection hc' with hc';subst hc';omega⟩
theorem oD.mem {a:MM Dt Cr}{oc:Option Cr}{L:List Cr}(h:oD a oc L)(x:Cr)(hx:x∈L):oc=some x∨∃ y,y∈L∧0<y.level∧MM.get a y.par=some x:=by
 induction h with
 | none=>cases hx
 | root c hc=>simp at hx;exact .inl (by rw [hx])
 | more c L hc hL ih=>
  rcases List.mem_cons.1 hx with e | hx
  ·exact .inl (by rw [e])
  ·rcases ih hx with h1 | ⟨y,hy,h2,h3⟩
   ·exact .inr ⟨c,by simp,hc,h1⟩
   ·exact .inr ⟨y,List.mem_cons_of_mem _ hy,h2,h3⟩
theorem oD.head {a:MM Dt Cr}{c:Cr}{L:List Cr}(h:oD a (some c) L):L[0]? =some c:=by
 cases h <;> rfl
theorem oD.next {a:MM Dt Cr}{oc:Option Cr}{L:List Cr}(h:oD a oc L):∀ (i:Nat) (x y:Cr),L[i]? =some x→L[i+1]? =some y→0<x.level∧MM.get a x.par=some y:=by
 induction h with
 | none=>intro i x y hx;cases hx
 | root c hc=>intro i x y hx hy;simp at hy
 | more c L hc hL ih=>
  intro i x y hx hy;cases i with
  | zero=>
   have e:c=x:=by simpa using hx
   subst e;refine ⟨hc,?_⟩;have hy':L[0]? =some y:=by simpa using hy
   revert hL hy'
   generalize MM.get a c.par=oc;intro hL hy';cases hL with
   | none=>cases hy'
   | root d _=>simpa using hy'
   | more d M _ _=>simpa using hy'
  | succ i=>exact ih i x y (by simpa using hx) (by simpa using hy)
theorem o9.DD {l:List ag}{T:Tr}(h:o9 l T){d:Dt}{L:List Cr}(hL:oD T.at_ (MM.get T.at_ d) L)(x:Cr)(hx:x∈L):MM.get T.at_ x.dot=some x:=by
 rcases hL.mem x hx with h1 | ⟨y,_,_,h1⟩
 ·rw [h.DC h1];exact h1
 ·rw [h.DC h1];exact h1
theorem o9.xT {l:List ag}{T:Tr}(h:o9 l T){d:Dt}{L:List Cr}(hL:oD T.at_ (MM.get T.at_ d) L):∀ (i:Nat) (x c:Cr),MM.get T.at_ d=some c→L[i]? =some x→x.level=c.level - (i:Int)
 | 0,x,c,hc,hx=>by
  rw [hc] at hL;rw [hL.head] at hx;injection hx with hx;subst hx;simp
 | i+1,x,c,hc,hx=>by
  obtain ⟨hlt,_⟩:=List.getElem?_eq_some_iff.1 hx;obtain ⟨y,hy⟩:=bF (show i<L.length by omega)
  have ih:=o9.xT h hL i y c hc hy;obtain ⟨h1,h2⟩:=hL.next i y x hy hx
  obtain ⟨o,p,q,_,_,hp,hb⟩:=h.above (h.DD hL y (List.mem_of_getElem? hy)) h1;rw [hp] at h2;injection h2 with h2;subst h2;have e:y.level=p.level+1:=by rw [hb.is]
  omega
end
section
def gO:ag:=⟨⟨0,1⟩,av.zero,1,1,⟨0,1⟩,0,⟨0,0⟩,0,0,0,0,⟨0,0⟩,⟨0,0⟩,0,0,0,.aP⟩
def gB (n:Nat):av:=⟨n,0,0,0,0,0,0,0⟩
def aO:ag:=⟨⟨0,2⟩,gB 1,2,1,⟨0,1⟩,1,⟨0,1⟩,2,3,3,500,⟨0,0⟩,⟨0,0⟩,0,0,0,.aP⟩
def bO:ag:=⟨⟨0,3⟩,gB 2,3,2,⟨0,1⟩,1,⟨0,2⟩,3,2,0,500,⟨0,0⟩,⟨0,0⟩,0,0,0,.aP⟩
abbrev JS:List ag:=[bO,gO,aO]
def c1:Cr:=⟨⟨0,1⟩,⟨0,1⟩,⟨0,0⟩,1,7,8,1099511627776,0⟩
def c2:Cr:=⟨⟨0,2⟩,⟨0,1⟩,⟨0,1⟩,2,3,3,500,1⟩
def c3:Cr:=⟨⟨0,3⟩,⟨0,1⟩,⟨0,2⟩,3,2,0,500,2⟩
end
section
structure Part (t l:List ag):Prop where
 uniq:F7 l
 L2:F7 t
 sub:∀ o,o∈t→o∈l
 Gj:∀ o a,o∈t→a∈l→a.before o=true→a∈t
section
variable {t l:List ag} (h:Part t l)
include h
end
end
end Go.Proofs.YtaelhkkjgfobhaaGreat
