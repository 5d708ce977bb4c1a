/-
 Ranging over a function: a round's contract from the loop's body.
-/
import Derived.Test.YtaelhkkjgfobhaaGreatP4
set_option linter.unusedVariables false
set_option linter.unusedSimpArgs false
set_option linter.unusedSectionVars false
namespace Go.Sl
open Go.RowKit
section
set_option maxHeartbeats 1000000
variable {P:Program}
theorem ew {n:Nat}{ob:Ob}{h:Hp}:lk ((n,ob)::h) n=some ob:=by rw [aa,if_pos rfl]
theorem bM {n m:Nat}{ob:Ob}{h:Hp}(e:m≠n):lk ((n,ob)::h) m=lk h m:=by rw [aa,if_neg e]
mutual
theorem SV.gu {q q':Nat→Bool}(h:∀ n,q n=true→q' n=true):∀ s:SV,s.ok q=true→s.ok q'=true
 | .d _,_=>rfl
 | .ptr n _,hs=>h n hs
 | .gs n _,hs=>h n hs
 | .vp _ _,_=>rfl
 | .bs n _ _,hs=>h n hs
 | .mp n,hs=>h n hs
 | .it n,hs=>h n hs
 | .yl n,hs=>h n hs
 | .fn _ a c,hs=>by
  simp only [SV.ok,Bool.and_eq_true] at hs ⊢;exact ⟨SV.jW h a hs.1,SV.jW h c hs.2⟩
 | .agg cs,hs=>SV.jW h cs hs
 | .dm cs,hs=>SV.jW h cs hs
 | .any,_=>rfl
theorem SV.jW {q q':Nat→Bool}(h:∀ n,q n=true→q' n=true):∀ s:List SV,SV.ax q s=true→SV.ax q' s=true
 | [],_=>rfl
 | c::cs,hs=>by
  simp only [SV.ax,Bool.and_eq_true] at hs ⊢;exact ⟨SV.gu h c hs.1,SV.jW h cs hs.2⟩
end
theorem Ep {k nk K:Nat}{F hp F':Hp}{μ xk:Nat→Nm}{M M1:Mem}{w w':World}(vo:bU (· <K) xk M1 (lk hp) w')(pW:Ev (lk F) (fun n=>k≤n∧n<K) μ M w (lk hp) xk M1 w')
    (h3:HSub F' hp) (h6:F'.ok (fun n=>decide (n<k+nk))=true):
    bU (· <k+nk) (fun n=>if n<k+nk then xk n else μ n) M1 (lk F') w'∧Ev (lk F) (fun n=>k≤n∧n<k+nk) μ M w (lk F') (fun n=>if n<k+nk then xk n else μ n) M1 w':=by
  refine ⟨⟨vo.mem,fun n ob hn=> ?_,fun n m hn hm ln lm e=> ?_⟩,⟨fun n hn=> ?_,pW.mem,pW.frame,pW.size,fun n hn=> ?_,pW.os,pW.tape,pW.output⟩⟩
  · obtain ⟨a1,a2⟩:=Hp.eW h6 hn
    simp only [decide_eq_true_eq] at a1;obtain ⟨_,b1,b2⟩:=vo.obs n ob (h3 n ob hn);simp only [if_pos a1];refine ⟨a1,?_,b2⟩;have hb':cE (· <K) (fun n=>xk (id n)) M1 w' (xk n) (ob.aC id):=by rw [Ob.ow];exact b1
    exact cE.to a2 (fun m hm=>by simpa using hm) (fun m hm=>by simp only [decide_eq_true_eq] at hm;simp [hm]) hb'
  · obtain ⟨o1,ho1⟩:=Option.ne_none_iff_exists'.1 hn
    obtain ⟨o2,ho2⟩:=Option.ne_none_iff_exists'.1 hm;have a1:=(Hp.eW h6 ho1).1;have a2:=(Hp.eW h6 ho2).1;simp only [decide_eq_true_eq] at a1 a2;rw [if_pos a1] at e ln;rw [if_pos a2] at e lm;exact vo.inj n m (by rw [h3 n o1 ho1];simp) (by rw [h3 m o2 ho2];simp) ln lm e
  · by_cases hnk:n<k+nk
    · simp only [if_pos hnk]
      by_cases hK:k≤n
      · exact absurd ⟨hK,hnk⟩ hn
      · exact pW.old n (fun hh=>hK hh.1)
    · simp only [if_neg hnk]
  · obtain ⟨o1,ho1⟩:=Option.ne_none_iff_exists'.1 hn
    have a1:=(Hp.eW h6 ho1).1;simp only [decide_eq_true_eq] at a1;simp only [if_pos a1];rcases pW.names n (by rw [h3 n o1 ho1];simp) with ⟨b1,b2⟩ | ⟨b1,b2⟩
    · exact .inl ⟨⟨b1.1,a1⟩,b2⟩
    · exact .inr ⟨fun hh=>b1 ⟨hh.1,by
        by_cases hK:n<K
        · exact hK
        · exact absurd (vo.obs n o1 (h3 n o1 ho1)).1 hK⟩,b2⟩
theorem yN {p:Nat→Prop}{μ:Nat→Nm}{M:Mem}:∀ (ps:List Nat) (args:List SV) (vals:List Value) (tm:Array Value) (env:List (Nat×SV)),aU p μ M args vals→ps.length=args.length→
  (∀ t s,env.lookup t=some s→Rp p μ M s (tm.getD t undef))→(∀ q,q∈ps→q<tm.size)→
  ∀ t s,((ps.zip args).reverse++env).lookup t=some s→Rp p μ M s (((ps.zip vals).foldl (fun tmps (x:Nat×Value)=>tmps.setIfInBounds x.1 x.2) tm).getD t undef)
 | [],args,vals,tm,env,hr,hl,he,hq,t,s,h=>by simpa using he t s (by simpa using h)
 | q::ps,[],vals,tm,env,hr,hl,he,hq,t,s,h=>by simp at hl
 | q ::ps,x::args,vals,tm,env,hr,hl,he,hq,t,s,h=>by
  obtain ⟨u,us,rfl,h1,h2⟩:=aU.aD.1 hr;simp only [List.zip_cons_cons,List.reverse_cons,List.append_assoc,List.singleton_append] at h;simp only [List.zip_cons_cons,List.foldl_cons];refine yN ps args us (tm.setIfInBounds q u) ((q,x)::env) h2 (by simpa using hl) (fun t' s' h'=> ?_) (fun q' hq'=>by simpa using hq q' (by simp [hq'])) t s h;have hqs:=hq q (by simp);simp only [List.lookup] at h'
  split at h'
  ·rename_i e
   have e:t'=q:=by simpa using e
   subst e;injection h' with h';subst h';have:(tm.setIfInBounds t' u).getD t' undef=u:=by simp [Array.getD,hqs]
   rw [this];exact h1
  ·rename_i e
   have e:t'≠q:=by simpa using e
   have:(tm.setIfInBounds q u).getD t' undef=tm.getD t' undef:=by
    simp [Array.getD_eq_getD_getElem?,Array.getElem?_setIfInBounds_ne (Ne.symm e)]
   rw [this];exact he t' s' h'
theorem wm:∀ (xs:List (Nat×Value)) (tm:Array Value),(xs.foldl (fun tmps (x:Nat×Value)=>tmps.setIfInBounds x.1 x.2) tm).size=tm.size
 | [],tm=>rfl
 | x::xs,tm=>by simp [wm xs]
def Left:Exit→Option Code→Bool→Prop
 | .normal,pe,b=>pe=none∧b=true
 | .ret,pe,b=>pe=some .ret∧b=false
 | .exit id,pe,b=>pe=some (.exit id)∧b=false
 | _,_,_=>False
def mA (pe:Option Code):LoopState:=if pe.isNone then .ready else .done
def O4 (nl N:Nat)(ts:List Nat)(cs:List SV)(ps:List Nat)(ca cb:Code)(k nk:Nat)(Q:SV→Hp→Prop)(e:Exit)(st2:St):Prop:=
 ∃ pe b F',Left e pe b∧HSub F' st2.hp∧F'.ok (fun n=>decide (n<k+nk))=true∧k+nk≤st2.k∧Q (.d (.bool b)) ((nl,.pT N ts cs ps ca cb (mA pe) pe)::F')
theorem uF {p:Nat→Prop}{μ:Nat→Nm}{M:Mem}{f:Nat→Value}:∀ {ts:List Nat} {cs:List SV},aU p μ M cs (ts.map f)→∀ t s,(ts.zip cs).lookup t=some s→Rp p μ M s (f t)
 | [],_,_,t,s,h=>by simp at h
 | t'::ts,[],_,t,s,h=>by simp at h
 | t'::ts,c::cs,hr,t,s,h=>by
  obtain ⟨u,us,e,h1,h2⟩:=aU.aD.1 hr;injection e with e1 e2;subst e1;subst e2;simp only [List.zip_cons_cons,List.lookup] at h
  split at h
  ·rename_i e
   have e:t=t':=by simpa using e
   injection h with h;subst h;subst e;exact h1
  ·exact uF h2 t s h
theorem DN.tF {nl N k nk:Nat}{ts:List Nat}{cs:List SV}{ps:List Nat}{ca cb:Code}{sa sb:bP}{args:List SV}{H:Hp}{Q:SV→Hp→Prop}
    (hca:cK P N ca=some sa) (hcb:cK P N cb=some sb) (O5:sa.rf=false) (hrb:sb.rf=false) (hlen:ps.length=args.length) (O6:∀ q,q∈ps→q<N) (hnl:nl<k) (hH:lk H nl=none)
    (hargs:SV.ax (fun n=>decide (n<k)) args=true) (O7:H.ok (fun n=>decide (n<k))=true) (hcs:SV.ax (fun n=>decide (n<k)) cs=true)
    (h:SW P N k sa ⟨(ps.zip args).reverse++ts.zip cs,H,k⟩ fun e st1=>e= .normal∧SW P N k sb st1 (O4 nl N ts cs ps ca cb k nk Q)):
    DN P nl args ((nl,.pT N ts cs ps ca cb .ready none)::H) k nk Q:=by
  refine ⟨hargs,by simp only [Hp.ok,List.all_cons,Ob.ok,hcs,Bool.and_eq_true];exact ⟨by simpa using hnl,O7⟩,fun μ M w vals hr hS=> ?_⟩;obtain ⟨_,⟨hlive,r,hb,hcsr,hN,hps,has,hbd,hst,hpe⟩,hMn⟩:=hS.obs nl _ ew;generalize hl:(μ nl).blk=l at*;have hMn:=hMn hlive;have hsub:∀ n ob,lk H n=some ob→lk ((nl,.pT N ts cs ps ca cb .ready none)::H) n=some ob:=fun n ob hn=>by
    rw [bM (fun e=>by rw [e,hH] at hn;cases hn)];exact hn
  have hSH:bU (· <k) μ M (lk H) w:=hS.sub hsub;have hltl:l<w.heap.size:=(Array.getElem?_eq_some_iff.1 hb).1;have hnot:∀ n,lk H n≠none→(μ n).live=true→(μ n).blk≠l:=fun n hn ln e=>by
    obtain ⟨ob,ho⟩:=Option.ne_none_iff_exists'.1 hn;have:=hS.inj n nl (by rw [hsub n ob ho];simp) (by rw [ew];simp) ln hlive (by rw [hl];exact e);subst this;rw [hH] at hn;exact hn rfl
  have hvs:vals.size=r.params.size:=by
    have h1:vals.size=args.length:=by simpa using hr.length
    have h2:r.params.size=ps.length:=by rw [← hps];simp
    omega
  refine ⟨_,_,_,_,run_yield hb hvs,roundIn_of_wpIn trivial ?_⟩;have hfold:(r.params.zip vals).foldl (fun tmps (x:Nat×Value)=>tmps.setIfInBounds x.1 x.2) r.tmps=(ps.zip vals.toList).foldl (fun tmps (x:Nat×Value)=>tmps.setIfInBounds x.1 x.2) r.tmps:=by
    rw [← hps,← Array.foldl_toList,Array.toList_zip]
  have fP:iC N μ M w (lk H) k ⟨(ps.zip args).reverse++ts.zip cs,H,k⟩ { tmps:=(ps.zip vals.toList).foldl (fun tmps (x:Nat×Value)=>tmps.setIfInBounds x.1 x.2) r.tmps,defers:=[]} w:=by
    refine ⟨Nat.le_refl _,trivial,by rw [wm];exact hN,μ,M,?_,hSH,Ev.refl _ _ _ _ _ fun n hn hh=>absurd hh.2 (Nat.not_lt.2 hh.1)⟩;exact yN ps args vals.toList r.tmps (ts.zip cs) hr hlen (uF (f:=fun t=>r.tmps.getD t undef) hcsr) (fun q hq=>by rw [hN];exact O6 q hq)
  have hfold':(r.params.zip vals).foldl (fun tmps (x:Tmp×Value)=>match x with | (t,a)=>tmps.setIfInBounds t a) r.tmps=(ps.zip vals.toList).foldl (fun tmps (x:Nat×Value)=>tmps.setIfInBounds x.1 x.2) r.tmps:=hfold;rw [hfold',has,hbd];show ca.wpIn (jP (some l)) 0 P _ _ w;refine wpIn_mono (h ca hca (some l) (fun e=>by rw [O5] at e;cases e) μ M w (lk H) _ w fP) ?_;rintro e a1 w1 ⟨st1,⟨rfl,hbody⟩,hk1,hdf1,hsz1,xk,M1,hsl1,vo,pW⟩;have hw1:w1.heap[l]? =some (.loop r):=by rw [(pW.frame l hltl hnot).1];exact hb
  refine ⟨_,run_beginRound hw1 hst,?_⟩;have hnot1:∀ n,lk st1.hp n≠none→(xk n).live=true→(xk n).blk≠l:=fun n hn ln e=>by
    rcases pW.names n hn with ⟨_,hh⟩ | ⟨h1,h2⟩
    · rcases hh ln with h' | ⟨m,hm,lm,e'⟩
      · omega
      · exact hnot m hm lm (e'.trans e)
    · rw [pW.old n h1] at e ln
      exact hnot n h2 ln e
  have hM1:∀ o,M1 l o=none:=fun o=>by rw [(pW.frame l hltl hnot).2];exact hMn o
  have hS2:bU (· <st1.k) xk M1 (lk st1.hp) (w1.putObj l (.loop { r with state:= .busy})):=by
    refine ⟨⟨fun b o v hv=> ?_,vo.mem.kF⟩,fun n ob hn=> ?_,vo.inj⟩
    · have hbl:b≠l:=fun e=>by rw [e,hM1] at hv;cases hv
      have:=vo.mem b o v hv;simp only [World.cell?,World.putObj_heap_other hbl] at this ⊢;exact this
    · obtain ⟨q1,q2,q3⟩:=vo.obs n ob hn
      exact ⟨q1,q2.more (fun _ h=>h) (fun _ _=>rfl) (Mem.le_refl _) (fun ln=>World.putObj_heap_other (hnot1 n (by rw [hn];simp) ln)),q3⟩
  have hE2:Ev (lk H) (fun n=>k≤n∧n<st1.k) μ M (w.putObj l (.loop { r with state:= .busy})) (lk st1.hp) xk M1 (w1.putObj l (.loop { r with state:= .busy})):=by
    refine ⟨pW.old,pW.mem,fun b hb' hn=> ?_,by simpa using pW.size,by simpa using pW.names,pW.os,pW.tape,pW.output⟩;rw [World.putObj_size] at hb';refine ⟨?_,(pW.frame b hb' hn).2⟩
    by_cases e:b=l
    · subst e
      rw [World.putObj_heap_same hltl,World.putObj_heap_same (Array.getElem?_eq_some_iff.1 hw1).1]
    · rw [World.putObj_heap_other e,World.putObj_heap_other e];exact (pW.frame b hb' hn).1
  have hdf2:Marks (w.putObj l (.loop { r with state:= .busy})) (w1.putObj l (.loop { r with state:= .busy})) a1.defers:=by
    have key:∀ df,Marks w w1 df→Marks (w.putObj l (.loop { r with state:= .busy})) (w1.putObj l (.loop { r with state:= .busy})) df:=by
      intro df
      induction df with
      | nil=>intro _;trivial
      | cons d ds ih=>
        rintro ⟨⟨q,g1,g2,g3,g4⟩,g5⟩;refine ⟨⟨q,g1,by simpa using g2,?_,g4⟩,ih g5⟩;rw [World.putObj_heap_other (fun e=>by rw [e,hw1] at g3;cases g3)];exact g3
    exact key _ hdf1
  show cb.wpIn (jP (some l)) 0 P _ _ _;refine wpIn_mono (hbody cb hcb (some l) (fun e=>by rw [hrb] at e;cases e) μ M _ (lk H) a1 _ ⟨hk1,hdf2,hsz1,xk,M1,hsl1,hS2,hE2⟩) ?_;rintro e a2 w3 ⟨st2,⟨pe,b,F',hleft,hF',DM,hkk,hQ⟩,hk2,_,_,Js,M2,_,hS3,hE3⟩;have hlt':l<(w.putObj l (.loop { r with state:= .busy})).heap.size:=by simpa using hltl
  have hw3:w3.heap[l]? =some (.loop { r with state:= .busy}):=by rw [(hE3.frame l hlt' hnot).1];exact World.putObj_heap_same hltl
  have hnot3:∀ n,lk st2.hp n≠none→(Js n).live=true→(Js n).blk≠l:=fun n hn ln e=>by
    rcases hE3.names n hn with ⟨_,hh⟩ | ⟨h1,h2⟩
    · rcases hh ln with h' | ⟨m,hm,lm,e'⟩
      · omega
      · exact hnot m hm lm (e'.trans e)
    · rw [hE3.old n h1] at e ln
      exact hnot n h2 ln e
  have hM3:∀ o,M2 l o=none:=fun o=>by rw [(hE3.frame l hlt' hnot).2];exact hMn o
  have hnl2:lk st2.hp nl=none:=by
    cases hc:lk st2.hp nl with
    | none=>rfl
    | some ob=>
      rcases hE3.names nl (by rw [hc];simp) with ⟨h1,_⟩ | ⟨_,h2⟩
      · omega
      · exact absurd hH h2
  have hmu:Js nl=μ nl:=hE3.old nl (by omega)
  have fin:∃ w4,(Instr.endRound l pe).run P w3= .ok (.bool pe.isNone) w4∧∃ r F' a_ M' u,Ending.returned (.bool pe.isNone)= .returned u∧Q r F'∧r.ok (fun n=>decide (n<k+nk))=true∧F'.ok (fun n=>decide (n<k+nk))=true∧dy a_ M' r u∧bU (· <k+nk) a_ M' (lk F') w4∧
      Ev (lk ((nl,.pT N ts cs ps ca cb .ready none)::H)) (fun n=>k≤n∧n<k+nk) μ M w (lk F') a_ M' w4:=by
    refine ⟨_,run_endRound pe hw3,?_⟩;have hbp:b=pe.isNone:=by cases e <;> simp only [Left] at hleft <;> first | (obtain ⟨rfl,rfl⟩:=hleft;rfl) | exact hleft.elim
    have hS4:bU (· <st2.k) Js M2 (lk ((nl,.pT N ts cs ps ca cb (mA pe) pe)::st2.hp)) (w3.putObj l (.loop { r with state:=if pe.isNone then .ready else .done,pending:=pe})):=by
      refine ⟨⟨fun b o v hv=> ?_,hS3.mem.kF⟩,fun n ob hn=> ?_,fun n m hn hm ln lm e=> ?_⟩
      · have hbl:b≠l:=fun e=>by rw [e,hM3] at hv;cases hv
        have:=hS3.mem b o v hv;simp only [World.cell?,World.putObj_heap_other hbl] at this ⊢;exact this
      · by_cases en:n=nl
        · subst en
          rw [ew] at hn;injection hn with hn;subst hn;rw [hmu];refine ⟨by omega,⟨hlive,{ r with state:=if pe.isNone then .ready else .done,pending:=pe},by rw [hl];exact World.putObj_heap_same (Array.getElem?_eq_some_iff.1 hw3).1,?_,hN,hps,has,hbd,rfl,rfl⟩,fun _=>by rw [hl];exact hM3⟩;exact hcsr.more (fun n hn=>by show n<st2.k;have:n<k:=hn;omega) (fun n hn=>hE3.old n (by have:n<k:=hn;omega)) hE3.mem
        · rw [bM en] at hn
          obtain ⟨q1,q2,q3⟩:=hS3.obs n ob hn;exact ⟨q1,q2.more (fun _ h=>h) (fun _ _=>rfl) (Mem.le_refl _) (fun ln=>World.putObj_heap_other (hnot3 n (by rw [hn];simp) ln)),q3⟩
      · by_cases en:n=nl <;> by_cases em:m=nl
        · rw [en,em]
        · subst en
          rw [bM em] at hm;rw [hmu,hl] at e;exact absurd e.symm (hnot3 m hm lm)
        · subst em
          rw [bM en] at hn;rw [hmu,hl] at e;exact absurd e (hnot3 n hn ln)
        · rw [bM en] at hn
          rw [bM em] at hm;exact hS3.inj n m hn hm ln lm e
    have hE4:Ev (lk ((nl,.pT N ts cs ps ca cb .ready none)::H)) (fun n=>k≤n∧n<st2.k) μ M w (lk ((nl,.pT N ts cs ps ca cb (mA pe) pe)::st2.hp)) Js M2 (w3.putObj l (.loop { r with state:=if pe.isNone then .ready else .done,pending:=pe})):=by
      have hsz:=hE3.size;rw [World.putObj_size] at hsz;refine ⟨hE3.old,hE3.mem,fun b hb' hn=> ?_,by simpa using hsz,fun n hn=> ?_,hE3.os,hE3.tape,hE3.output⟩
      · have hbl:b≠l:=fun e=>hn nl (by rw [ew];simp) hlive (by rw [hl];exact e.symm)
        have hnH:∀ n,lk H n≠none→(μ n).live=true→(μ n).blk≠b:=fun n h1 h2=>by
          obtain ⟨ob,ho⟩:=Option.ne_none_iff_exists'.1 h1;exact hn n (by rw [hsub n ob ho];simp) h2
        have:=hE3.frame b (by simpa using hb') hnH;refine ⟨?_,this.2⟩;rw [World.putObj_heap_other hbl,this.1,World.putObj_heap_other hbl]
      · by_cases en:n=nl
        · subst en
          exact .inr ⟨by omega,by rw [ew];simp⟩
        · rw [bM en] at hn
          rw [bM en];rcases hE3.names n hn with ⟨h1,h2⟩ | h1
          · refine .inl ⟨h1,fun ln=> ?_⟩
            rcases h2 ln with h2 | ⟨m,hm,lm,e⟩
            · exact .inl (by simpa using h2)
            · obtain ⟨ob,ho⟩:=Option.ne_none_iff_exists'.1 hm
              exact .inr ⟨m,by rw [hsub m ob ho];simp,lm,e⟩
          · exact .inr h1
    have hsub':HSub ((nl,.pT N ts cs ps ca cb (mA pe) pe)::F') ((nl,.pT N ts cs ps ca cb (mA pe) pe)::st2.hp):=fun n ob hn=>by
      by_cases en:n=nl
      · subst en;rw [ew] at hn ⊢;exact hn
      · rw [bM en] at hn ⊢;exact hF' n ob hn
    have hok':Hp.ok (fun n=>decide (n<k+nk)) ((nl,.pT N ts cs ps ca cb (mA pe) pe)::F')=true:=by
      have hcs':SV.ax (fun n=>decide (n<k+nk)) cs=true:=by
        rw [SV.xu] at hcs ⊢;intro c hc;exact SV.gu (fun n hn=>by simp only [decide_eq_true_eq] at hn ⊢;omega) c (hcs c hc)
      simp only [Hp.ok,List.all_cons,Ob.ok,hcs',Bool.and_eq_true];exact ⟨⟨by simp;omega,trivial⟩,DM⟩
    obtain ⟨z1,z2⟩:=Ep (nk:=nk) hS4 hE4 hsub' hok';exact ⟨_,_,_,M2,_,rfl,hQ,rfl,hok',by rw [hbp];simp [dy,bX],z1,z2⟩
  obtain ⟨w4,he,hfin⟩:=fin;cases e <;> simp only [Left] at hleft <;> first
    | exact hleft.elim
    | (obtain ⟨rfl,rfl⟩:=hleft;exact ⟨_,w4,he,hfin⟩)
def Ck (env:List (Nat×SV)):List Nat→List SV→Prop
 | [],[]=>True
 | t::ts,c::cs=>env.lookup t=some c∧Ck env ts cs
 | _,_=>False
theorem Ck.rep {p:Nat→Prop}{μ:Nat→Nm}{M:Mem}{env:List (Nat×SV)}{f:Nat→Value}(h:∀ t s,env.lookup t=some s→Rp p μ M s (f t)):∀ {ts:List Nat} {cs:List SV},Ck env ts cs→aU p μ M cs (ts.map f)
 | [],[],_=>aU.aR.2 rfl
 | t::ts,c::cs,⟨h1,h2⟩=>aU.aD.2 ⟨_,_,rfl,h t c h1,Ck.rep h h2⟩
 | [],_::_,h=>h.elim
 | _::_,[],h=>h.elim
def RQ (Q:Exit→St→Prop)(pe:Option Code)(st:St):Prop:=
 match pe with
 | none=>Q .normal st
 | some .ret=>Q .ret st
 | some (.exit id)=>Q (.exit id) st
 | _=>False
theorem Marks.lt {w0 w:World}:∀ {df:List Deferred},Marks w0 w df→∀ d,d∈df→∃ r,d=⟨.collected r,#[]⟩∧r<w.heap.size
 | [],_,d,h=>by simp at h
 | d::ds,⟨⟨r,h1,h2,h3,h4⟩,h5⟩,d',h=>by
  rcases List.mem_cons.1 h with rfl | h
  ·exact ⟨r,h1,(Array.getElem?_eq_some_iff.1 h3).1⟩
  ·exact Marks.lt h5 d' h
theorem Marks.alloc {w0 w:World}(o:Obj):∀ {df:List Deferred},Marks w0 w df→Marks w0 (w.alloc o) df
 | [],_=>trivial
 | d::ds,⟨⟨r,h1,h2,h3,h4⟩,h5⟩=>⟨⟨r,h1,h2,(jQ w o (Array.getElem?_eq_some_iff.1 h3).1).trans h3,h4⟩,Marks.alloc o h5⟩
theorem SW.sn {N k0 nk:Nat}{st:St}{Q:Exit→St→Prop}{g:X}{ps:List Nat}{sa sb:bP}{f:FuncId}{first cap:List SV}(ts:List Nat)(cs:List SV)(hg:ev (fun t=>st.env.lookup t) g=some (.fn (.func f) first cap))(hts:Ck st.env ts cs)
    (h:∀ ca cb,cK P N ca=some sa→cK P N cb=some sb→SC P f (first++[.yl st.k]++cap) ((st.k,.pT N ts cs ps ca cb .ready none)::st.hp) (st.k+1) nk fun _ F'=>
      ∃ pe,lk F' st.k=some (.pT N ts cs ps ca cb (mA pe) pe)∧RQ Q pe ⟨st.env,cM F' st.k,st.k+1+nk⟩):SW P N k0 (.sn g ps sa sb) st Q:=by
  intro c hc rd hrf dg M0 w0 c0 a w fP;obtain rfl:=hrf rfl;cases c <;> simp only [cK] at hc <;> first
    | (cases hc;done)
    | (exfalso;obtain ⟨_,_,hh⟩:=Option.map_eq_some_iff.1 hc;cases hh;done)
    | skip
  case rangeFunc g' ps' ca cb=>
    split at hc <;> first | (cases hc;done) | skip
    rename_i g'' sa' sb' hg' hca hcb;injection hc with hc;injection hc with e1 e2 e3 e4;subst e1;subst e2;subst e3;subst e4;obtain ⟨l7,hdf,hsz,μ,M,fc,hS,hE⟩:=fP;have hk:ig (fun t=>st.env.lookup t) #[g'] (· <st.k) μ M a:=⟨fun t _ s hs=>fc t s hs,hS.mem.kF⟩;obtain ⟨as,cs',ef,r1,r2⟩:=Rp.rX.1 (hk.get (by simp) hg' hg);have hlt:∀ n,lk st.hp n≠none→n<st.k:=fun n hn=>by
      obtain ⟨ob,ho⟩:=Option.ne_none_iff_exists'.1 hn;exact (hS.obs n ob ho).1
    refine wpIn_rangeFunc fun fn _=> ?_
    let rr:Loop:={ state:= .ready,pending:=none,fn:=fn,tmps:=a.tmps,params:=ps',assign:=ca,body:=cb,defers:=w.heap.size}
    let wA:=w.alloc (.deferred (some []))
    let wB:=wA.alloc (.loop rr)
    have hAs:wA.heap.size=w.heap.size+1:=World.size_alloc _ _;have hBs:wB.heap.size=w.heap.size+2:=by show (wA.alloc _).heap.size=_;rw [World.size_alloc,hAs]
    have hB1:wB.heap[w.heap.size+1]? =some (.loop rr):=by rw [← hAs];exact gz wA _
    have hB0:wB.heap[w.heap.size]? =some (.deferred (some [])):=by rw [jQ wA _ (by omega)];exact gz w _
    have hBo:∀ b,b<w.heap.size→wB.heap[b]? =w.heap[b]? :=fun b hb=>by rw [jQ wA _ (by omega),jQ w _ hb]
    let nm:Nm:=⟨w.heap.size+1,0,true⟩
    let μB:=Ae μ st.k nm
    have hold:∀ n,n<st.k→μB n=μ n:=fun n hn=>fD _ _ _ (by omega)
    have hup:∀ n,n<st.k→n<st.k+1:=fun n hn=>by omega
    have hMl:∀ o,M (w.heap.size+1) o=none:=tT hS.mem (by omega);have hSB:bU (· <st.k+1) μB M (lk ((st.k,.pT N ts cs ps'.toList ca cb .ready none)::st.hp)) wB:=by
      refine ⟨mc _ (mc _ hS.mem),fun n ob hn=> ?_,fun n m hn hm ln lm e=> ?_⟩
      · by_cases en:n=st.k
        · subst en
          rw [ew] at hn;injection hn with hn;subst hn;have e:μB st.k=nm:=bN _ _ _;rw [e];refine ⟨Nat.lt_succ_self _,⟨rfl,rr,hB1,?_,hsz,rfl,rfl,rfl,rfl,rfl⟩,fun _=>hMl⟩;exact (Ck.rep (f:=fun t=>a.tmps.getD t undef) fc hts).more hup hold (Mem.le_refl _)
        · rw [bM en] at hn
          obtain ⟨q1,q2,q3⟩:=hS.obs n ob hn;rw [hold n q1];exact ⟨hup n q1,q2.more hup hold (Mem.le_refl _) (fun ln=>hBo _ (q2.lt ln)),q3⟩
      · have far:∀ n,lk st.hp n≠none→(μB n).live=true→(μB n).blk≠w.heap.size+1:=fun n hn ln e=>by
          rw [hold n (hlt n hn)] at ln e;have:=hS.lt hn ln;omega
        have e0:(μB st.k).blk=w.heap.size+1:=by show (Ae μ st.k nm st.k).blk=_;rw [bN]
        by_cases en:n=st.k <;> by_cases em:m=st.k
        · rw [en,em]
        · subst en
          rw [bM em] at hm;exact absurd (e.symm.trans e0) (far m hm lm)
        · subst em
          rw [bM en] at hn;exact absurd (e.trans e0) (far n hn ln)
        · rw [bM en] at hn
          rw [bM em] at hm;rw [hold n (hlt n hn)] at ln e;rw [hold m (hlt m hm)] at lm e;exact hS.inj n m hn hm ln lm e
    have hEB:Ev (lk st.hp) (fun n=>st.k≤n∧n<st.k+1) μ M w (lk ((st.k,.pT N ts cs ps'.toList ca cb .ready none)::st.hp)) μB M wB:=by
      refine ⟨fun n hn=>fD _ _ _ (fun e=>hn (by omega)),Mem.le_refl _,fun b hb _=>⟨hBo b hb,fun _=>rfl⟩,by omega,fun n hn=> ?_,rfl,⟨rfl,Nat.le_refl _⟩,rfl⟩
      by_cases en:n=st.k
      · subst en
        exact .inl ⟨⟨Nat.le_refl _,Nat.lt_succ_self _⟩,fun _=> .inl (by show _≤(Ae μ st.k nm st.k).blk;rw [bN];exact Nat.le_succ _)⟩
      · rw [bM en] at hn
        have:=hlt n hn;exact .inr ⟨by omega,hn⟩
    have hargs:aU (· <st.k+1) μB M (first++[.yl st.k]++cap) (as++ #[Value.func (.yield (w.heap.size+1)) #[] #[]]++cs').toList:=by
      have hy:aU (· <st.k+1) μB M [.yl st.k] [Value.func (.yield (w.heap.size+1)) #[] #[]]:=by
        refine aU.aD.2 ⟨_,_,rfl,fun a_ kf=> ?_,aU.aR.2 rfl⟩;have:a_ st.k=nm:=(kf st.k (Nat.lt_succ_self _)).trans (bN _ _ _);simp [dy,this,nm]
      simpa using ((r1.more hup hold (Mem.le_refl _)).append hy).append (r2.more hup hold (Mem.le_refl _))
    obtain ⟨cu,hcalls⟩:=h ca cb hca hcb;refine ⟨w.heap.size+1,[{ target:= .collected w.heap.size,args:= #[]}],wB,{ target:= .fn (.func f) cs',args:=as++ #[Value.func (.yield (w.heap.size+1)) #[] #[]]},wB,f,as++ #[Value.func (.yield (w.heap.size+1)) #[] #[]]++cs',wB,?_,?_,fun _ _=>trivial,?_,(fun e=>by cases e),?_⟩
    · exact run_enterLoop_outer fn a.tmps ps' ca cb
    · have e1:(#[Operand.const (.func (.yield (w.heap.size+1)) #[] #[])]:Array Operand).map a.eval= #[Value.func (.yield (w.heap.size+1)) #[] #[]]:=by simp [Act.eval]
      simp only [resolve,rangeCall,e1,ef,Deferred.ofValue,Sem.run_pure]
    · simp only [invoke,mV cu]
    · refine rZ.2 ((hcalls (· <st.k+1) μB M wB _ (fun n hn=>by omega) hargs hSB).mono ?_)
      rintro e w3 ⟨r,F',a_,M',u,rfl,⟨pe,hrec,hRQ⟩,_,hS3,hE3⟩;have hp:(fun n=>n<st.k+1∨(st.k+1≤n∧n<st.k+1+nk))=(· <st.k+1+nk):=funext fun n=>propext ⟨fun h=>by rcases h with h | h <;> omega,fun h=>by show n<st.k+1∨_;omega⟩
      rw [hp] at hS3;have hmk:a_ st.k=nm:=(hE3.old st.k (by omega)).trans (bN _ _ _);obtain ⟨_,⟨_,r3,hb3,_,_,_,_,_,hst3,hpe3⟩,hM3⟩:=hS3.obs st.k _ hrec;rw [hmk] at hb3 hM3;have hb3:w3.heap[w.heap.size+1]? =some (.loop r3):=hb3;have hM3:∀ o,M' (w.heap.size+1) o=none:=hM3 rfl;refine ⟨_,_,run_endLoop hb3 (by rw [hst3];unfold mA;split <;> simp),?_⟩;rw [hpe3];have hnot:∀ n,lk (cM F' st.k) n≠none→(a_ n).live=true→(a_ n).blk≠w.heap.size+1:=fun n hn ln e=>by
        rw [dY] at hn
        split at hn
        · exact hn rfl
        · rename_i en
          exact en (hS3.inj n st.k hn (by rw [hrec];simp) ln (by rw [hmk]) (by rw [hmk];exact e))
      have hSt':iC N dg M0 w0 c0 k0 ⟨st.env,cM F' st.k,st.k+1+nk⟩ { a with defers:={ target:= .collected w.heap.size,args:= #[]}::a.defers} (w3.putObj (w.heap.size+1) (.loop { r3 with state:= .exhausted,pending:=pe})):=by
        refine ⟨by show k0≤st.k+1+nk;omega,⟨⟨w.heap.size,rfl,hE.size,?_,fun d' hd e=> ?_⟩,?_⟩,hsz,a_,M',fun t s hs=> ?_,⟨⟨fun b o v hv=> ?_,hS3.mem.kF⟩,fun n ob hn=> ?_,fun n m hn hm=> ?_⟩,?_⟩
        · rw [World.putObj_heap_other (by omega)]
          exact hE3.keeps hSB hB0 rfl
        · obtain ⟨q,e',hq⟩:=hdf.lt d' hd
          rw [e'] at e;injection e with e _;injection e with e;omega
        · refine Marks.put _ _ (fun d' hd e=> ?_) ((hdf.alloc _).alloc _ |>.ev hSB hE3)
          obtain ⟨q,e',hq⟩:=hdf.lt d' hd;rw [e'] at e;injection e with e _;injection e with e;omega
        · exact (fc t s hs).more (fun n hn=>by show n<st.k+1+nk;have:n<st.k:=hn;omega) (fun n hn=>by have:n<st.k:=hn;rw [hE3.old n (by omega),hold n hn]) hE3.mem
        · have hbl:b≠w.heap.size+1:=fun e=>by rw [e,hM3] at hv;cases hv
          have:=hS3.mem b o v hv;simp only [World.cell?,World.putObj_heap_other hbl] at this ⊢;exact this
        · have hn':lk F' n=some ob:=by
            have:=hn;simp only [dY] at this
            split at this
            · cases this
            · exact this
          obtain ⟨q1,q2,q3⟩:=hS3.obs n ob hn';exact ⟨q1,q2.more (fun _ h=>h) (fun _ _=>rfl) (Mem.le_refl _) (fun ln=>World.putObj_heap_other (hnot n (by rw [hn];simp) ln)),q3⟩
        · refine hS3.inj n m (fun e=>hn ?_) (fun e=>hm ?_)
          · show lk (cM F' st.k) n=none;rw [dY,e];split <;> rfl
          · show lk (cM F' st.k) m=none;rw [dY,e];split <;> rfl
        · refine Ev.put ?_ _ (by have:=hE.size;omega)
          refine (((hE.trans hEB).trans hE3).tw fun n=> ?_).yo fun n hn e=>hn ?_
          · show _↔(k0≤n∧n<st.k+1+nk);omega
          · show lk (cM F' st.k) n=none;rw [dY,e];split <;> rfl
      cases pe with
      | none=>exact ⟨_,hRQ,hSt'⟩
      | some c=>
        cases c <;> simp only [RQ] at hRQ <;> first
          | exact hRQ.elim
          | exact wpIn_ret ⟨_,hRQ,hSt'⟩
          | exact wpIn_exit ⟨_,hRQ,hSt'⟩
  all_goals (exfalso;split at hc <;> cases hc)
end
section
open Go.ChangeMaps (setBlock)
variable {P:Program}
theorem gP.mem {p:Nat→Prop}{μ:Nat→Nm}{M:Mem}:∀ {es:List (Nat×SV×SV)} {dP:List MapEntry},gP p μ M es dP→∀ x,x∈dP→∃ e,e∈es∧x.born=e.1∧Rp p μ M e.2.1 x.key∧Rp p μ M e.2.2 x.val
 | [],dP,h,x,hx=>by simp only [gP] at h;subst h;simp at hx
 | (b,k,v)::r,dP,h,x,hx=>by
  obtain ⟨e,es',rfl,h1,h2,h3,h4⟩:=h;rcases List.mem_cons.1 hx with rfl | hx
  ·exact ⟨(b,k,v),by simp,h1,h2,h3⟩
  ·obtain ⟨e,he,h⟩:=gP.mem h4 x hx
   exact ⟨e,by simp [he],h⟩
theorem gP.mem' {p:Nat→Prop}{μ:Nat→Nm}{M:Mem}:∀ {es:List (Nat×SV×SV)} {dP:List MapEntry},gP p μ M es dP→∀ e,e∈es→∃ x,x∈dP∧x.born=e.1
 | [],dP,h,e,he=>by simp at he
 | (b,k,v)::r,dP,h,e,he=>by
  obtain ⟨x,es',rfl,h1,h2,h3,h4⟩:=h;rcases List.mem_cons.1 he with rfl | he
  ·exact ⟨x,by simp,h1⟩
  ·obtain ⟨x',hx,h⟩:=gP.mem' h4 e he
   exact ⟨x',by simp [hx],h⟩
theorem HE {op:Op}{x':X}(hc:cO P op=some (.lH x')):∃ it,op= .next it false∧cX it=some x':=by
 cases op <;> simp only [cO] at hc <;> try (cases hc;done)
 case next it s=>
  cases s
  ·simp only [Bool.false_eq_true,if_false] at hc
   obtain ⟨y,hy,e⟩:=Option.map_eq_some_iff.1 hc;injection e with e;subst e;exact ⟨it,rfl,hy⟩
  ·simp at hc
 all_goals (repeat' (first | contradiction | (cases hc;done) | (obtain ⟨_,_,hh⟩:=Option.map_eq_some_iff.1 hc;cases hh;done) | split at hc))
def JC (n m since:Nat)(seen:List Nat)(st:Nat)(es:List (Nat×SV×SV))(c:Nat)(r:SV)(F':Hp):Prop:=
 (r= .dm [.d (.bool false)]∧F'=[(n,.iter (some m) since seen st),(m,.map es c)]∧∀ e,e∈es→seen.contains e.1=true)∨
 ∃ e,e∈es∧seen.contains e.1=false∧r= .dm [.d (.bool true),e.2.1,e.2.2]∧F'=[(n,.iter (some m) since (seen++[e.1]) c),(m,.map es c)]
theorem Er {o:Oper}{E:Nat→Option SV}{H:Nat→Option Ob}{k:Nat}{x':X}{n m since st c:Nat}{seen:List Nat}{es:List (Nat×SV×SV)}(hc:cO P o.op=some (.lH x'))(h1:ev E x'=some (.it n))
  (hH:H n=some (.iter (some m) since seen st)) (hM:H m=some (.map es c)) (hnm:n≠m) (hold:∀ e,e∈es→e.1<since) (hst:since≤st):
  nJ P o E H k 0 [(n,.iter (some m) since seen st),(m,.map es c)] (JC n m since seen st es c):=by
 obtain ⟨it,ho,hx⟩:=HE hc;refine ⟨?_,?_⟩
 ·intro q ob hq
  rw [aa,cZ] at hq
  split at hq
  ·rename_i e;subst e;simp at hq;subst hq;exact hH
  ·split at hq
   ·rename_i e;subst e;simp at hq;subst hq;exact hM
   ·cases hq
 intro rd p μ M a w K QQ hnew hk hS hK;have ln:lk [(n,Ob.iter (some m) since seen st),(m,.map es c)] n=some (.iter (some m) since seen st):=by simp [aa]
 have lm:lk [(n,Ob.iter (some m) since seen st),(m,.map es c)] m=some (.map es c):=by rw [aa,if_neg (fun h=>hnm h.symm),cZ,if_pos rfl]
 obtain ⟨hpn,⟨hlv,hpm,hb⟩,hMn⟩:=hS.obs n _ ln;obtain ⟨hpm',⟨hlv2,dP,G4,hre⟩,hMm⟩:=hS.obs m _ lm;simp only [Option.map_some] at hb;have e1:=(hk.get (by simp [ho,Op.operands]) hx h1).Jx;have hpk:∀ q,p q→(fun q=>p q∨(k≤q∧q<k+0)) q:=fun q hq=> .inl hq
 have hold':∀ x∈dP.toList,x.born<since:=fun x hx=>by
  obtain ⟨e,he,h,_⟩:=hre.mem x hx;rw [h];exact hold e he
 rcases run_next_at (P:=P) w o.type (μ n).blk (μ m).blk since st seen.toArray dP c hb G4 hold' hst with ⟨h0,hrun⟩ | ⟨x,hx,w1,hw1,hrun⟩
 ·have hrun':(execOp a.eval o).run P w= .ok (.value (.tuple #[.bool false])) w:=by simp [execOp,ho,e1,hrun]
  refine ij hrun' (hK _ _ _ μ M w (.inl ⟨rfl,rfl,fun e he=> ?_⟩) ?_ (hS.more hpk) (Ev.refl _ _ _ _ _ fun q _ h=>by omega))
  ·obtain ⟨x,hx,hb'⟩:=hre.mem' e he
   have hnil:leftOf dP seen.toArray= #[]:=Array.eq_empty_of_size_eq_zero h0;unfold leftOf at hnil;rw [Array.filter_eq_empty_iff] at hnil;have:=hnil x (by simpa using hx)
   simpa [hb'] using this
  ·exact Rp.dX.2 ⟨_,rfl,aU.aD.2 ⟨_,_,rfl,Rp.bG.2 rfl,aU.aR.2 rfl⟩⟩
 ·have hx':x∈dP.toList∧seen.contains x.born=false:=by
   unfold leftOf at hx
   simpa using hx
  obtain ⟨e,he,hb',hrk,LN⟩:=hre.mem x hx'.1;have hrun':(execOp a.eval o).run P w= .ok (.value (.tuple #[.bool true,x.key,x.val])) (setBlock w1 (μ n).blk (.mapIter (some (μ m).blk) since (seen.toArray.push x.born) c)):=by simp [execOp,ho,e1,hrun]
  have hh:w1.heap=w.heap:=by rcases hw1 with rfl | rfl <;> rfl
  have hsz:(setBlock w1 (μ n).blk (.mapIter (some (μ m).blk) since (seen.toArray.push x.born) c)).heap.size=w.heap.size:=by simp [setBlock,hh]
  have hoth:∀ b,b≠(μ n).blk→(setBlock w1 (μ n).blk (.mapIter (some (μ m).blk) since (seen.toArray.push x.born) c)).heap[b]? =w.heap[b]? :=fun b hb=>by
   simp [setBlock,hh,Array.getElem?_setIfInBounds_ne (Ne.symm hb)]
  have hsame:(setBlock w1 (μ n).blk (.mapIter (some (μ m).blk) since (seen.toArray.push x.born) c)).heap[(μ n).blk]? =some (.mapIter (some (μ m).blk) since (seen.toArray.push x.born) c):=by
   have:(μ n).blk<w.heap.size:=(Array.getElem?_eq_some_iff.1 hb).1;simp [setBlock,hh,this]
  have hne:(μ m).blk≠(μ n).blk:=fun e=>hnm (hS.inj n m (by rw [ln];simp) (by rw [lm];simp) hlv hlv2 e.symm)
  refine ij hrun' (hK _ _ _ μ M _ (.inr ⟨e,he,by rw [← hb'];exact hx'.2,rfl,rfl⟩) ?_ ⟨⟨fun b o v hv=> ?_,hS.mem.kF⟩,fun q ob hq=> ?_,fun q q' hq hq' lq lq' ee=> ?_⟩ ⟨fun _ _=>rfl,Mem.le_refl _,fun b hb hf=>⟨hoth b fun ee=>hf n (by rw [ln];simp) hlv ee.symm,fun _=>rfl⟩,by rw [hsz];exact Nat.le_refl _,fun q hq=> ?_,?_,?_,?_⟩)
  ·exact (Rp.dX.2 ⟨_,rfl,aU.aD.2 ⟨_,_,rfl,Rp.bG.2 rfl,aU.aD.2 ⟨_,_,rfl,hrk,aU.aD.2 ⟨_,_,rfl,LN,aU.aR.2 rfl⟩⟩⟩⟩:Rp p μ M _ _).more hpk (fun _ _=>rfl) (Mem.le_refl _)
  ·have hbl:b≠(μ n).blk:=fun ee=>by rw [ee,hMn hlv] at hv;cases hv
   rw [← hS.mem b o v hv];unfold World.cell?;rw [hoth b hbl]
  ·rw [aa,cZ] at hq
   split at hq
   ·rename_i e';subst e';simp at hq;subst hq
    refine ⟨.inl hpn,⟨hlv,fun q hq=> .inl (hpm q hq),?_⟩,hMn⟩
    simpa [hb'] using hsame
   ·split at hq
    ·rename_i e';subst e';simp at hq;subst hq
     refine ⟨.inl hpm',⟨hlv2,dP,(hoth _ hne).trans G4,hre.more hpk (fun _ _=>rfl) (Mem.le_refl _)⟩,hMm⟩
    ·cases hq
  ·have dom:∀ q,lk [(n,Ob.iter (some m) since (seen++[e.1]) c),(m,.map es c)] q≠none→lk [(n,Ob.iter (some m) since seen st),(m,.map es c)] q≠none:=fun q hq=>by
    rw [aa,cZ] at hq ⊢
    split at hq
    ·rename_i e';rw [if_pos e'];simp
    ·rename_i e';rw [if_neg e'];split at hq <;> simp_all
   exact hS.inj q q' (dom q hq) (dom q' hq') lq lq' ee
  ·refine .inr ⟨by omega,?_⟩
   rw [aa,cZ] at hq ⊢
   split at hq
   ·rename_i e';rw [if_pos e'];simp
   ·rename_i e';rw [if_neg e'];split at hq <;> simp_all
  ·rcases hw1 with rfl | rfl <;> rfl
  ·rcases hw1 with rfl | rfl
   ·exact ⟨rfl,Nat.le_refl _⟩
   ·exact ⟨rfl,Nat.le_succ _⟩
  ·rcases hw1 with rfl | rfl <;> rfl
theorem yO {o:Oper}{E:Nat→Option SV}{H:Nat→Option Ob}{k nk:Nat}{f:X}{args:List X}{nl:Nat}{as:List SV}{F:Hp}{Q:SV→Hp→Prop}(hc:cO P o.op=some (.call f args))
  (h1:ev E f=some (.yl nl)) (h2:pY E args=some as) (hF:lk F nl≠none) (Ml:SY P nl as F k nk Q) (hsub:∀ n ob,lk F n=some ob→H n=some ob):nJ P o E H k nk F Q:=by
 obtain ⟨c,fo,hop,cu,hf,ha⟩:=qS hc;exact ⟨hsub,fun rd p μ M a w K QQ hnew hk hS hK=>yB hop cu hf ha h1 h2 hF Ml hnew hk hS hK⟩
theorem bu.yield {N k0:Nat}{st:St}{K:St→Prop}{d:Option Nat}{r:List SI}{f:X}{args:List X}{nl:Nat}{as:List SV}{F:Hp}{nk:Nat}{Q:SV→Hp→Prop}
  (h1:ev (fun t=>st.env.lookup t) f=some (.yl nl)) (h2:pY (fun t=>st.env.lookup t) args=some as) (hF:lk F nl≠none) (Ml:SY P nl as F st.k nk Q) (hsub:HSub F st.hp)
  (h:∀ v F',Q v F'→bu P N k0 r (lN st ⟨d,.call f args,none⟩ ⟨v,F,F',nk,True⟩) K):bu P N k0 (⟨d,.call f args,none⟩::r) st K:=
 bu.many rfl (fun o hc=>yO hc h1 h2 hF Ml hsub) rfl h
theorem bu.lH {N k0:Nat}{st:St}{K:St→Prop}{d:Option Nat}{r:List SI}{x:X}{n m since s c:Nat}{seen:List Nat}{es:List (Nat×SV×SV)}
  (h1:ev (fun t=>st.env.lookup t) x=some (.it n)) (hH:lk st.hp n=some (.iter (some m) since seen s)) (hM:lk st.hp m=some (.map es c)) (hnm:n≠m) (hold:∀ e,e∈es→e.1<since) (hs:since≤s)
  (h:∀ v F',JC n m since seen s es c v F'→bu P N k0 r (lN st ⟨d,.lH x,none⟩ ⟨v,[(n,.iter (some m) since seen s),(m,.map es c)],F',0,True⟩) K):bu P N k0 (⟨d,.lH x,none⟩::r) st K:=
 bu.many rfl (fun o hc=>Er hc h1 hH hM hnm hold hs) rfl h
end
section
variable {P:Program}
theorem wq {args:List SV}{F:Hp}{k nk:Nat}{Q:SV→Hp→Prop}(q:Nat→Bool)(hao:SV.ax q args=true)(DM:F.ok q=true)(hk:F.ok (fun n=>decide (n<k))=true)(JD:∀ n,q n=true→lk F n≠none)
    (hQ:∀ r F',Q r F'→r.ok (fun n=>decide (n<k+nk))=true→F'.ok (fun n=>decide (n<k+nk))=true→r.ok (fun n=>q n || (decide (k≤n) && decide (n<k+nk)))=true∧F'.ok (fun n=>q n || (decide (k≤n) && decide (n<k+nk)))=true)
    {p:Nat→Prop} {μ:Nat→Nm} {M:Mem} {w:World} {vals:Array Value} (hp:∀ n,(k≤n∧n<k+nk)→ ¬ p n) (hr:aU p μ M args vals.toList) (hS:bU p μ M (lk F) w):
    aU (· <k) μ M args vals.toList∧bU (· <k) μ M (lk F) w∧∀ e w',
      (∃ r F' a_ M' u,e=Ending.returned u∧Q r F'∧r.ok (fun n=>decide (n<k+nk))=true∧F'.ok (fun n=>decide (n<k+nk))=true∧dy a_ M' r u∧bU (· <k+nk) a_ M' (lk F') w'∧
        Ev (lk F) (fun n=>k≤n∧n<k+nk) μ M w (lk F') a_ M' w')→
      ∃ r F' a_ M' u,e=Ending.returned u∧Q r F'∧Rp (fun n=>p n∨(k≤n∧n<k+nk)) a_ M' r u∧bU (fun n=>p n∨(k≤n∧n<k+nk)) a_ M' (lk F') w'∧
        Ev (lk F) (fun n=>k≤n∧n<k+nk) μ M w (lk F') a_ M' w':=by
  have hlt:∀ n,q n=true→n<k:=fun n h=>by
    obtain ⟨ob,ho⟩:=Option.ne_none_iff_exists'.1 (JD n h)
    simpa using (Hp.eW hk ho).1
  have hqP:∀ n,q n=true→p n:=fun n h=>by
    obtain ⟨ob,ho⟩:=Option.ne_none_iff_exists'.1 (JD n h);exact (hS.obs n ob ho).1
  refine ⟨aU.Bn hao hlt hr.vt,⟨hS.mem,fun n ob hn=> ?_,hS.inj⟩,?_⟩
  · obtain ⟨a1,a2⟩:=Hp.eW DM hn
    obtain ⟨_,b1,b2⟩:=hS.obs n ob hn;have hb':cE p (fun n=>μ (id n)) M w (μ n) (ob.aC id):=by rw [Ob.ow];exact b1
    exact ⟨hlt n a1,cE.to a2 hlt (fun _ _=>rfl) hb',b2⟩
  · rintro e w' ⟨r,F',a_,M',u,rfl,hq,hr1,hr2,hru,rY,hE⟩
    obtain ⟨h1,h2⟩:=hQ r F' hq hr1 hr2;have hq2:∀ n,(q n || (decide (k≤n) && decide (n<k+nk)))=true→(p n∨(k≤n∧n<k+nk)):=fun n hn=>by
      simp only [Bool.or_eq_true,Bool.and_eq_true,decide_eq_true_eq] at hn;exact hn.imp (hqP n) id
    refine ⟨r,F',a_,M',u,rfl,hq,Rp.D_ h1 hq2 hru,⟨rY.mem,fun n ob hn=> ?_,rY.inj⟩,hE⟩;obtain ⟨a1,a2⟩:=Hp.eW h2 hn;obtain ⟨_,b1,b2⟩:=rY.obs n ob hn;have hb':cE (· <k+nk) (fun n=>a_ (id n)) M' w' (a_ n) (ob.aC id):=by rw [Ob.ow];exact b1
    exact ⟨hq2 n a1,cE.to a2 hq2 (fun _ _=>rfl) hb',b2⟩
theorem SB.here {f:FuncId}{args:List SV}{F:Hp}{k nk:Nat}{Q:SV→Hp→Prop}(q:Nat→Bool)(h:SB P f args F k nk Q)(JD:∀ n,q n=true→lk F n≠none)(hao:SV.ax q args=true)(DM:F.ok q=true)
  (hQ:∀ r F',Q r F'→r.ok (fun n=>decide (n<k+nk))=true→F'.ok (fun n=>decide (n<k+nk))=true→r.ok (fun n=>q n || (decide (k≤n) && decide (n<k+nk)))=true∧F'.ok (fun n=>q n || (decide (k≤n) && decide (n<k+nk)))=true):SC P f args F k nk Q:=by
 refine ⟨h.1,fun p μ M w vals hp hr hS=> ?_⟩;obtain ⟨h1,h2,h3⟩:=wq q hao DM h.2.2.1 JD hQ hp hr hS;exact (h.2.2.2 μ M w vals h1 h2).mono h3
theorem DN.here {nl:Nat}{args:List SV}{F:Hp}{k nk:Nat}{Q:SV→Hp→Prop}(q:Nat→Bool)(h:DN P nl args F k nk Q)(JD:∀ n,q n=true→lk F n≠none)(hao:SV.ax q args=true)(DM:F.ok q=true)
  (hQ:∀ r F',Q r F'→r.ok (fun n=>decide (n<k+nk))=true→F'.ok (fun n=>decide (n<k+nk))=true→r.ok (fun n=>q n || (decide (k≤n) && decide (n<k+nk)))=true∧F'.ok (fun n=>q n || (decide (k≤n) && decide (n<k+nk)))=true):SY P nl args F k nk Q:=by
 intro p μ M w vals hp _ hr hS;obtain ⟨h1,h2,h3⟩:=wq q hao DM h.2.1 JD hQ hp hr hS;obtain ⟨fn,tmps,assign,body,hy,hround⟩:=h.2.2 μ M w vals h1 h2;exact ⟨fn,tmps,assign,body,hy,hround.mono h3⟩
theorem SC.frame {f:FuncId}{args:List SV}{F H:Hp}{k nk:Nat}{Q:SV→Hp→Prop}(h:SC P f args F k nk Q)(hs:HSub F H):SC P f args H k nk fun r F'=>∃ F1,Q r F1∧F'=bS false H F F1:=by
 refine ⟨h.1,fun p μ M w vals hp hr hS=>(h.2 p μ M w vals hp hr (hS.sub hs)).mono ?_⟩;rintro e w' ⟨r,F1,a_,M',u,rfl,hq,hru,rY,hE⟩;obtain ⟨z1,z2⟩:=hS.Ad hs hp hE rY fun n h=> .inl h
 have hlk:lk (bS false H F F1)=zY (lk H) (lk F) (lk F1):=iy hs (fun h=>by cases h);exact ⟨r,_,a_,M',u,rfl,⟨F1,hq,rfl⟩,hru,by rw [hlk];exact z1,by rw [hlk];exact z2⟩
theorem wu:∀ {h:Hp} {n:Nat} {ob:Ob},lk h n=some ob→fK h n ob=h
 | [],n,ob,h=>by simp [bE] at h
 | (m,o)::h,n,ob,hl=>by
  rw [aa] at hl;simp only [fK]
  by_cases e:m=n
  ·subst e
   simp only [if_true] at hl ⊢;injection hl with hl;rw [hl]
  ·rw [if_neg (fun h=>e h.symm)] at hl
   rw [if_neg e,wu hl]
theorem sy {h:Hp}{n:Nat}{ob:Ob}(hl:lk h n=some ob):fC h n ob=h:=by
 unfold fC;rw [hl];exact wu hl
theorem jD {h:Hp}{n:Nat}{o o':Ob}:fC ((n,o)::h) n o'=(n,o')::h:=by
 have:lk ((n,o)::h) n=some o:=ew;unfold fC;rw [this];simp [fK]
theorem Bu {h F F':Hp}:bS true h F F'=h:=rfl
def jd (es:List (Nat×SV×SV))(seen:List Nat):Nat:=(es.filter fun e=> !seen.contains e.1).length
theorem mB {es:List (Nat×SV×SV)}{seen:List Nat}{e:Nat×SV×SV}(he:e∈es)(hs:seen.contains e.1=false):jd es (seen++[e.1])<jd es seen:=by
 induction es with
 | nil=>cases he
 | cons x es ih=>
  have hle:∀ l:List (Nat×SV×SV),jd l (seen++[e.1])≤jd l seen:=fun l=>by
   induction l with
   | nil=>exact Nat.le_refl _
   | cons y l ihl=>
    simp only [jd,List.filter,List.contains_append] at ihl ⊢;cases h1:seen.contains y.1
    ·cases h2:[e.1].contains y.1
     ·simp only [Bool.or_self,Bool.not_false,List.length_cons];omega
     ·simp only [Bool.false_or,Bool.not_true,Bool.not_false,List.length_cons];omega
    ·simp only [Bool.true_or,Bool.not_true];omega
  rcases List.mem_cons.1 he with rfl | he
  ·have:=hle es
   simp only [jd,List.filter,List.contains_append,hs,Bool.false_or,List.contains_cons,List.contains_nil,BEq.rfl,Bool.true_or,Bool.not_true,Bool.not_false,List.length_cons] at this ⊢;omega
  ·have:=ih he
   simp only [jd,List.filter,List.contains_append] at this ⊢;cases h1:seen.contains x.1
   ·cases h2:[e.1].contains x.1
    ·simp only [Bool.or_self,Bool.not_false,List.length_cons];omega
    ·simp only [Bool.false_or,Bool.not_true,Bool.not_false,List.length_cons];omega
   ·simp only [Bool.true_or,Bool.not_true];omega
theorem Hp.ez {q q':Nat→Bool}(h:∀ n,q n=true→q' n=true){F:Hp}(hF:F.ok q=true):F.ok q'=true:=by
 unfold Hp.ok at hF ⊢;rw [List.all_eq_true] at hF ⊢;intro x hx;have:=hF x hx;simp only [Bool.and_eq_true] at this ⊢;refine ⟨h _ this.1,?_⟩;have h2:=this.2;generalize x.2=ob at h2 ⊢;cases ob <;> simp only [Ob.ok] at h2 ⊢
 ·exact SV.jW h _ h2
 ·exact SV.jW h _ h2
 ·rw [List.all_eq_true] at h2 ⊢
  intro e he;have:=h2 e he;simp only [Bool.and_eq_true] at this ⊢;exact ⟨SV.gu h _ this.1,SV.gu h _ this.2⟩
 ·rename_i mo _ _ _
  cases mo with
  | none=>rfl
  | some n=>exact h n h2
 ·exact SV.jW h _ h2
theorem Hp.bB {k k':Nat}(h:k≤k'){F:Hp}(hF:F.ok (fun n=>decide (n<k))=true):F.ok (fun n=>decide (n<k'))=true:=Hp.ez (fun n hn=>by simp at hn ⊢;omega) hF
theorem Hp.out {k n:Nat}{F:Hp}(hF:F.ok (fun n=>decide (n<k))=true)(h:k≤n):lk F n=none:=by
 cases hh:lk F n with
 | none=>rfl
 | some ob=>have:=(Hp.eW hF hh).1;simp at this;omega
theorem vZ.JE {k:Nat}{hp:Hp}:∀ {h:Hp},h.ok (fun n=>decide (n<k))=true→(∀ x,x∈h→lk hp x.1=some x.2)→vZ id k hp h
 | [],_,_=>trivial
 | (n,ob)::r,hq,hl=>by
  unfold Hp.ok at hq;simp only [List.all_cons,Bool.and_eq_true,decide_eq_true_eq] at hq;refine ⟨?_,hq.1.1,hq.1.2,vZ.JE (by unfold Hp.ok;exact hq.2) fun x hx=>hl x (by simp [hx])⟩;rw [Ob.ow];exact hl (n,ob) (by simp)
theorem aK.same {k0:Nat}{st st1:St}(h1:k0≤st1.k)(h2:bp id st1.k st.env st1.env)(h3:st1.hp.ok (fun n=>decide (n<st1.k))=true)(h4:∀ x,x∈st1.hp→lk st.hp x.1=some x.2):aK k0 st st1 id:=
 ⟨h1,fun _ _=>rfl,h2,vZ.JE h3 h4,fun _ _ _ _ e=>e⟩
theorem cQ {x y:Nat}(h:x≠y):(x == y)=false∧(y == x)=false∧(x=y)=False∧(y=x)=False:=
 ⟨by simpa using h,by simpa using Ne.symm h,eq_false h,eq_false (Ne.symm h)⟩
inductive lF {α σ:Type}(Step:σ→α→σ→Prop)(s:σ):List α→σ→Prop where
 | nil:lF Step s [] s
 | snoc {xs:List α} {s' s'':σ} {x:α}:lF Step s xs s'→Step s' x s''→lF Step s (xs++[x]) s''
structure pE {α σ:Type}(P:Program)(y:Nat)(enc:α→SV)(aQ:Nat)(Fh:σ→Hp)(Step:σ→α→σ→Prop)(go:σ→Bool)(s0:σ)(B:Nat):Prop where
 vD:∀ s,lk (Fh s) y≠none
 nd:∀ s x,x∈Fh s→lk (Fh s) x.1=some x.2
 call:∀ s xs x k,lF Step s0 xs s→xs.length<B→(Fh s).ok (fun n=>decide (n<k))=true→go s=true→SY P y [enc x] (Fh s) k aQ fun r F'=>∃ s',Step s x s'∧r= .d (.bool (go s'))∧F'=Fh s'∧
  (Fh s').ok (fun n=>decide (n<k+aQ))=true∧∀ n,lk (Fh s') n≠none→lk (Fh s) n≠none∨(k≤n∧n<k+aQ)
section
variable {N k0:Nat} {st:St} {Q:Exit→St→Prop}
theorem SW.q_ {it a b id:Nat}{bs:List Nat}{body:bP}{α:Type}(I:α→St)(m:α→Nat)(i0:α)(Kr:Nat→Nat)(uG nm since Bv c:α→Nat)(seen:α→List Nat)(es:α→List (Nat×SV×SV))
  (h0:aK k0 st (I i0) Kr) (hit:∀ i,(I i).env.lookup it=some (.it (uG i))) (hI:∀ i,lk (I i).hp (uG i)=some (.iter (some (nm i)) (since i) (seen i) (Bv i))) (hM:∀ i,lk (I i).hp (nm i)=some (.map (es i) (c i)))
  (hne:∀ i,uG i≠nm i) (hold:∀ i e,e∈es i→e.1<since i) (hst:∀ i,since i≤Bv i)
  (fin:∀ i,(∀ e,e∈es i→(seen i).contains e.1=true)→∃ st1 ρ,aK k0 ⟨(b,.d (.bool false))::(a,.dm [.d (.bool false)])::(I i).env,(I i).hp,(I i).k⟩ st1 ρ∧Q (.exit id) st1)
  (step:∀ i e,e∈es i→(seen i).contains e.1=false→SW P N k0 body ⟨(b,.d (.bool true))::(a,.dm [.d (.bool true),e.2.1,e.2.2])::(I i).env,fC (I i).hp (uG i) (.iter (some (nm i)) (since i) (seen i++[e.1]) (c i)),(I i).k⟩
   fun ex st'=>match ex with | .normal=>∃ j ρ,m j<m i∧aK k0 st' (I j) ρ | e=>Q e st'):
  SW P N k0 (.loop (.seq (.fm [⟨some a,.lH (.t it),none⟩,⟨some b,.ext 0 (.t a),none⟩] bs false) (.seq (.cond (.t b) .skip (.exit id)) body))) st Q:=by
 refine SW.loop I m i0 Kr h0 fun i=>SW.seq (SW.vC (bu.lH (hit i) (hI i) (hM i) (hne i) (hold i) (hst i) fun v F' hv=> ?_))
 have hmm:lk ([(uG i,.iter (some (nm i)) (since i) (seen i) (Bv i)),(nm i,.map (es i) (c i))]:Hp) (uG i)=some (.iter (some (nm i)) (since i) (seen i) (Bv i)):=by simp [aa]
 rcases hv with ⟨rfl,rfl,hall⟩ | ⟨e,he,hs,rfl,rfl⟩
 ·have hh:bS false (I i).hp [(uG i,.iter (some (nm i)) (since i) (seen i) (Bv i)),(nm i,.map (es i) (c i))] [(uG i,.iter (some (nm i)) (since i) (seen i) (Bv i)),(nm i,.map (es i) (c i))]=(I i).hp:=by
   have h1:(lk ([(uG i,.iter (some (nm i)) (since i) (seen i) (Bv i)),(nm i,.map (es i) (c i))]:Hp) (uG i)).isSome=true:=by simp [aa]
   have h2:(lk ([(uG i,.iter (some (nm i)) (since i) (seen i) (Bv i)),(nm i,.map (es i) (c i))]:Hp) (nm i)).isSome=true:=by rw [aa];split <;> simp [aa]
   simp only [bS,b_,h1,h2,if_true,bZ,Bool.false_eq_true,if_false];rw [sy (hM i),sy (hI i)]
  refine bu.runs (dL:=[]) (st':=⟨(b,.d (.bool false))::(a,.dm [.d (.bool false)])::(I i).env,(I i).hp,(I i).k⟩) (ob:=True∧True) (ts:=[(true,[])]) ?_ ⟨trivial,trivial⟩ ?_
  ·simp only [Go.Sl.runs,fU,ff,dH,lN,ev,List.lookup,BEq.rfl,dA,hh,Nat.add_zero,List.getElem?_cons_zero,Bu,gZ,List.map_nil,List.append_nil]
  ·obtain ⟨st1,ρ,hw,hq⟩:=fin i hall
   refine SW.seq (SW.cond (b:=false) ?_ (fun h=>by cases h) (fun _=>SW.weak ρ hw (SW.exit hq)));simp only [ev,List.lookup,BEq.rfl]
 ·have hh:bS false (I i).hp [(uG i,.iter (some (nm i)) (since i) (seen i) (Bv i)),(nm i,.map (es i) (c i))] [(uG i,.iter (some (nm i)) (since i) (seen i++[e.1]) (c i)),(nm i,.map (es i) (c i))]=fC (I i).hp (uG i) (.iter (some (nm i)) (since i) (seen i++[e.1]) (c i)):=by
   have h1:(lk ([(uG i,.iter (some (nm i)) (since i) (seen i++[e.1]) (c i)),(nm i,.map (es i) (c i))]:Hp) (uG i)).isSome=true:=by simp [aa]
   have h2:(lk ([(uG i,.iter (some (nm i)) (since i) (seen i++[e.1]) (c i)),(nm i,.map (es i) (c i))]:Hp) (nm i)).isSome=true:=by rw [aa];split <;> simp [aa]
   simp only [bS,b_,h1,h2,if_true,bZ,Bool.false_eq_true,if_false];rw [sy (hM i)]
  refine bu.runs (dL:=[]) (st':=⟨(b,.d (.bool true))::(a,.dm [.d (.bool true),e.2.1,e.2.2])::(I i).env,fC (I i).hp (uG i) (.iter (some (nm i)) (since i) (seen i++[e.1]) (c i)),(I i).k⟩) (ob:=True∧True) (ts:=[(true,[])]) ?_ ⟨trivial,trivial⟩ ?_
  ·simp only [Go.Sl.runs,fU,ff,dH,lN,ev,List.lookup,BEq.rfl,dA,hh,Nat.add_zero,List.getElem?_cons_zero,Bu,gZ,List.map_nil,List.append_nil]
  ·refine SW.seq (SW.cond (b:=true) ?_ (fun _=>SW.skip ?_) (fun h=>by cases h))
   ·simp only [ev,List.lookup,BEq.rfl]
   ·exact step i e he hs
end
end
end Go.Sl
namespace Go.Sl
theorem aB.LO (v:aB){r:Nat}(hr:r<8):(v.set r (v.get r+1)).count=v.count+1:=by
 match r,hr with
 | 0,_=>simp [aB.count,aB.set,aB.of,aB.get];omega
 | 1,_=>simp [aB.count,aB.set,aB.of,aB.get];omega
 | 2,_=>simp [aB.count,aB.set,aB.of,aB.get];omega
 | 3,_=>simp [aB.count,aB.set,aB.of,aB.get];omega
 | 4,_=>simp [aB.count,aB.set,aB.of,aB.get];omega
 | 5,_=>simp [aB.count,aB.set,aB.of,aB.get];omega
 | 6,_=>simp [aB.count,aB.set,aB.of,aB.get];omega
 | 7,_=>simp [aB.count,aB.set,aB.of,aB.get];omega
theorem xz {P:Program}{d:Nat}{t:TypeId}{k:IntKind}{ds:List DV}(ht:P.underlying t=some (.int k))(h:Fit P (d+1) t ds):∃ n,ds=[.int k n]∧(Lit.int k n).wf=true:=by
 rw [Fit,ht] at h;exact h
theorem wf_u32 {n:Int}(h:(Lit.int .u32 n).wf=true):∃ m:Nat,n=(m:Int)∧m<4294967296:=by
 simp [Lit.wf,IntKind.min,IntKind.max,IntKind.signed,IntKind.bits] at h;exact ⟨n.toNat,by omega,by omega⟩
theorem wf_u64 {n:Int}(h:(Lit.int .u64 n).wf=true):∃ m:Nat,n=(m:Int)∧m<18446744073709551616:=by
 simp [Lit.wf,IntKind.min,IntKind.max,IntKind.signed,IntKind.bits] at h;exact ⟨n.toNat,by omega,by omega⟩
theorem wf_u8 {n:Int}(h:(Lit.int .u8 n).wf=true):∃ m:Nat,n=(m:Int)∧m<256:=by
 simp [Lit.wf,IntKind.min,IntKind.max,IntKind.signed,IntKind.bits] at h;exact ⟨n.toNat,by omega,by omega⟩
theorem nL {P:Program}{d:Nat}{t:TypeId}{ds:List DV}(ht:P.underlying t=some (.int .u32))(h:Fit P (d+1) t ds):∃ m:Nat,m<4294967296∧ds=[.int .u32 m]:=by
 obtain ⟨n,rfl,hw⟩:=xz ht h;obtain ⟨m,rfl,hm⟩:=wf_u32 hw;exact ⟨m,hm,rfl⟩
theorem Bw {P:Program}{d:Nat}{t:TypeId}{ds:List DV}(ht:P.underlying t=some (.int .u64))(h:Fit P (d+1) t ds):∃ m:Nat,m<18446744073709551616∧ds=[.int .u64 m]:=by
 obtain ⟨n,rfl,hw⟩:=xz ht h;obtain ⟨m,rfl,hm⟩:=wf_u64 hw;exact ⟨m,hm,rfl⟩
theorem xA {P:Program}{d:Nat}{t:TypeId}{ds:List DV}(ht:P.underlying t=some (.int .u8))(h:Fit P (d+1) t ds):∃ m:Nat,m<256∧ds=[.int .u8 m]:=by
 obtain ⟨n,rfl,hw⟩:=xz ht h;obtain ⟨m,rfl,hm⟩:=wf_u8 hw;exact ⟨m,hm,rfl⟩
theorem AA {ds:List DV}{o:Nat}{x:DV}(h:(ds.drop o).take 1=[x]):ds[o]? =some x:=by
 have:=congrArg (·[0]?) h
 simpa [List.getElem?_take] using this
theorem HF {P:Program}{d:Nat}{t e:TypeId}{ds:List DV}(ht:P.underlying t=some (.array 8 e))(he:P.underlying e=some (.int .u32))(hc:P.cellsOf t=8)(hce:P.cellsOf e=1)(h:Fit P (d+2) t ds):∃ v:aB,v.wf∧ds=v.ds:=by
 rw [Fit,ht] at h;dsimp only at h;obtain ⟨hl,hi⟩:=h;rw [hc] at hl;rw [hce] at hi;have key:∀ i,i<8→∃ m:Nat,m<4294967296∧ds[i]? =some (.int .u32 m):=fun i hlt=>by
  obtain ⟨m,hm,e1⟩:=nL (d:=d) he (hi i hlt);exact ⟨m,hm,AA (by simpa using e1)⟩
 obtain ⟨m0,h0,e0⟩:=key 0 (by omega);obtain ⟨m1,h1,e1⟩:=key 1 (by omega);obtain ⟨m2,h2,e2⟩:=key 2 (by omega);obtain ⟨m3,h3,e3⟩:=key 3 (by omega);obtain ⟨m4,h4,e4⟩:=key 4 (by omega);obtain ⟨m5,h5,e5⟩:=key 5 (by omega);obtain ⟨m6,h6,e6⟩:=key 6 (by omega);obtain ⟨m7,h7,e7⟩:=key 7 (by omega);refine ⟨⟨m0,m1,m2,m3,m4,m5,m6,m7⟩,fun r hr=> ?_,List.ext_getElem? fun i=> ?_⟩
 ·match r,hr with
  | 0,_=>exact h0
  | 1,_=>exact h1
  | 2,_=>exact h2
  | 3,_=>exact h3
  | 4,_=>exact h4
  | 5,_=>exact h5
  | 6,_=>exact h6
  | 7,_=>exact h7
 ·match i with
  | 0=>rw [e0];rfl
  | 1=>rw [e1];rfl
  | 2=>rw [e2];rfl
  | 3=>rw [e3];rfl
  | 4=>rw [e4];rfl
  | 5=>rw [e5];rfl
  | 6=>rw [e6];rfl
  | 7=>rw [e7];rfl
  | i+8=>rw [List.getElem?_eq_none (by omega),List.getElem?_eq_none (by simp [aB.ds])]
theorem cq {P:Program}{d:Nat}{t:TypeId}{fs:Array Field}{ds:List DV}(ht:P.underlying t=some (.struct fs))(h:Fit P (d+1) t ds)(i:Nat)(f:Field)(hf:fs[i]? =some f):
  Fit P d f.type ((ds.drop f.offset).take (P.cellsOf f.type)):=by
 rw [Fit,ht] at h;dsimp only at h;exact h.2 f (by simpa using Array.mem_of_getElem? hf)
theorem xB {P:Program}{d:Nat}{t:TypeId}{fs:Array Field}{ds:List DV}(ht:P.underlying t=some (.struct fs))(h:Fit P (d+1) t ds):ds.length=P.cellsOf t:=by
 rw [Fit,ht] at h;dsimp only at h;exact h.1
theorem HG {P:Program}{d:Nat}{t:TypeId}{fs:Array Field}{fR fN:Field}{ds:List DV}(ht:P.underlying t=some (.struct fs))(h0:fs[0]? =some fR)(h1:fs[1]? =some fN)(o0:fR.offset=0)(o1:fN.offset=1)
  (t0:P.underlying fR.type=some (.int .u8)) (t1:P.underlying fN.type=some (.int .u32)) (hc:P.cellsOf t=2) (c0:P.cellsOf fR.type=1) (c1:P.cellsOf fN.type=1) (h:Fit P (d+2) t ds):∃ x:Dt,x.wf∧ds=x.ds:=by
 have f0:=cq ht h 0 fR h0;have f1:=cq ht h 1 fN h1;have hl:=xB ht h;rw [hc] at hl;rw [o0,c0] at f0;rw [o1,c1] at f1;obtain ⟨a,ha,ea⟩:=xA t0 f0;obtain ⟨b,hb,eb⟩:=nL t1 f1;have ea:=AA ea;have eb:=AA eb;refine ⟨⟨a,b⟩,⟨ha,hb⟩,List.ext_getElem? fun i=> ?_⟩
 match i with
 | 0=>rw [ea];rfl
 | 1=>rw [eb];rfl
 | i+2=>rw [List.getElem?_eq_none (by omega),List.getElem?_eq_none (by simp)]
theorem wv {P:Program}{d:Nat}{t e:TypeId}{ds:List DV}{α:Type}(f:α→List DV)(ok:α→Prop)(ht:P.underlying t=some (.slice e))(hp:∀ ds,Fit P d e ds→∃ x,ok x∧ds=f x)
  (h:Fit P (d+1) t ds):(ds=[.aJ])∨∃ l:List α,(∀ x∈l,ok x)∧l.length≤9223372036854775807∧ds=[.sl l.length (l.flatMap f)]:=by
 rw [Fit,ht] at h;dsimp only at h;rcases h with h | ⟨n,cs,rfl,hn,hl,hi⟩
 ·exact .inl h
 ·refine .inr ?_
  have key:∀ k,k≤n→∃ l:List α,(∀ x∈l,ok x)∧l.length=k∧cs.take (k*P.cellsOf e)=l.flatMap f:=by
   intro k
   induction k with
   | zero=>intro _;exact ⟨[],by simp,rfl,by simp⟩
   | succ k ih=>
    intro hk;obtain ⟨l,a1,a2,a3⟩:=ih (by omega);obtain ⟨x,b1,b2⟩:=hp _ (hi k hk);refine ⟨l++[x],fun y hy=> ?_,by simp [a2],?_⟩
    ·rcases List.mem_append.1 hy with h | h
     ·exact a1 y h
     ·simp at h;subst h;exact b1
    ·rw [Nat.succ_mul,List.take_add,a3,b2];simp
  obtain ⟨l,a1,a2,a3⟩:=key n (Nat.le_refl _);rw [List.take_of_length_le (by omega)] at a3;exact ⟨l,a1,by omega,by rw [a2,a3]⟩
end Go.Sl
namespace Go.Sl
open Go.RowKit
section
structure Cm where
 line:Dt
 lC:Dt
 deriving DecidableEq
def Cm.ds (x:Cm):List DV:=x.line.ds++x.lC.ds
def Cm.wf (x:Cm):Prop:=x.line.wf∧x.lC.wf
@[simp] theorem HH (l:List Cm):(l.flatMap Cm.ds).length=l.length*4:=eC Cm.ds 4 (fun _=>rfl) l
def yP:List DV→List Cm
 | .int _ a:: .int _ b:: .int _ c:: .int _ d::r=>⟨⟨a.toNat,b.toNat⟩,⟨c.toNat,d.toNat⟩⟩::yP r
 | _=>[]
theorem uH:∀ l:List Cm,yP (l.flatMap Cm.ds)=l
 | []=>rfl
 | x::l=>by
  have:=uH l;show yP (.int .u8 x.line.r:: .int .u32 x.line.n:: .int .u8 x.lC.r:: .int .u32 x.lC.n::l.flatMap Cm.ds)=_;rw [yP,this];rfl
def JF:DV→List Cm
 | .sl _ cs=>yP cs
 | _=>[]
theorem Es (n:Nat)(l:List Cm):JF (.sl n (l.flatMap Cm.ds))=l:=uH l
def ag.cl (o:ag):List Cm:=JF o.lines
structure ag.mN (o:ag):Prop where
 eq:o.lines= .sl o.cl.length (o.cl.flatMap Cm.ds)
 le:o.cl.length≤9223372036854775807
theorem ag.mN.of {o:ag}{l:List Cm}(h:o.lines= .sl l.length (l.flatMap Cm.ds))(hl:l.length≤9223372036854775807):o.mN∧o.cl=l:=by
 have e:o.cl=l:=by unfold ag.cl;rw [h];exact Es _ _
 exact ⟨⟨by rw [e];exact h,by rw [e];exact hl⟩,e⟩
def ag.lt (a b:ag):Bool:=decide (a.time<b.time∨a.time=b.time∧(a.dot.r<b.dot.r∨a.dot.r=b.dot.r∧a.dot.n<b.dot.n))
theorem ag.lt_iff {a b:ag}:a.lt b=true↔a.time<b.time∨a.time=b.time∧(a.dot.r<b.dot.r∨a.dot.r=b.dot.r∧a.dot.n<b.dot.n):=by simp [ag.lt]
def n_ (a b:ag):Int:=if a.lt b then -1 else if b.lt a then 1 else 0
def aS (l:List ag)(d:Dt):Option ag:=l.find? fun o=>decide (o.dot=d)
theorem kZ {l:List ag}{d:Dt}{o:ag}(h:aS l d=some o):o∈l∧o.dot=d:=by
 unfold aS at h;have h2:=List.find?_some h;simp only [decide_eq_true_eq] at h2;exact ⟨List.mem_of_find?_eq_some h,h2⟩
theorem AB {l:List ag}{d:Dt}:aS l d=none↔∀ o,o∈l→o.dot≠d:=by
 unfold aS;rw [List.find?_eq_none];simp
theorem nM {l:List ag}{d:Dt}:(aS l d).isSome=true↔∃ o,o∈l∧o.dot=d:=by
 cases h:aS l d with
 | none=>
  rw [AB] at h;constructor
  ·intro h;cases h
  ·rintro ⟨o,ho,e⟩;exact absurd e (h o ho)
 | some o=>exact ⟨fun _=>⟨o,kZ h⟩,fun _=>rfl⟩
def HI (l:List ag):Prop:=(l.map (·.dot)).Nodup
end
section
def nz:DV→DV
 | .aJ=> .sl 0 []
 | x=>x
theorem bX.nz {M:Mem}{v:Value}{x:DV}(h:bX M x v):bX M (Go.Sl.nz x) v:=by
 cases x with
 | aJ=>exact h.m_
 | _=>exact h
theorem dB.nz {M:Mem}{b:Nat}:∀ (cs:List DV) (o:Nat),dB M b o cs→dB M b o (cs.map Go.Sl.nz)
 | [],o,h=>by simp [dB]
 | c::cs,o,h=>by
  simp only [dB,List.map_cons] at h ⊢;obtain ⟨⟨u,h1,h2⟩,h3⟩:=h;exact ⟨⟨u,h1,h2.nz⟩,dB.nz cs (o+1) h3⟩
theorem bX.OE {M:Mem}{v:Value}{n:Nat}{cs:List DV}(h:bX M (.sl n cs) v):bX M (.sl n (cs.map Go.Sl.nz)) v:=by
 simp only [bX] at h ⊢;obtain ⟨A,c,h1,h2,h3,h4⟩:=h;refine ⟨A,c,h1,h2,fun hn=>by rw [h3 hn];rfl,fun hn=> ?_⟩;obtain ⟨b,o,h5,h6⟩:=h4 hn;exact ⟨b,o,h5,dB.nz cs o h6⟩
theorem HJ {p:Nat→Prop}{μ:Nat→Nm}{M:Mem}{n:Nat}{cs:List DV}{r r':List SV}(hr:∀ vs,aU p μ M r' vs→aU p μ M r vs)(vs:List Value)(h:aU p μ M (.d (.sl n cs)::r') vs):aU p μ M (.d (.sl n (cs.map Go.Sl.nz))::r) vs:=by
 obtain ⟨u,us,rfl,h1,h2⟩:=aU.aD.1 h;exact aU.aD.2 ⟨u,us,rfl,Rp.cU.2 (Rp.cU.1 h1).OE,hr us h2⟩
theorem yQ {p:Nat→Prop}{μ:Nat→Nm}{M:Mem}{r r':List SV}(hr:∀ vs,aU p μ M r' vs→aU p μ M r vs)(vs:List Value)(h:aU p μ M (.d .aJ::r') vs):aU p μ M (.d (.sl 0 [])::r) vs:=by
 obtain ⟨u,us,rfl,h1,h2⟩:=aU.aD.1 h;exact aU.aD.2 ⟨u,us,rfl,m_ p μ M u h1,hr us h2⟩
def ag.nz (o:ag):ag:={ o with lines:=Go.Sl.nz o.lines}
theorem ag.Mm (o:ag):o.nz.ds=o.ds.map Go.Sl.nz:=rfl
theorem Et (l:List ag):((l.map ag.nz).flatMap ag.ds)=(l.flatMap ag.ds).map Go.Sl.nz:=by
 induction l with
 | nil=>rfl
 | cons o l ih=>simp only [List.map_cons,List.flatMap_cons,List.map_append,ih,ag.Mm]
theorem nN {ds x:List DV}{a n b:Nat}(h:(ds.drop a).take n=x)(hb:a+n=b):ds.drop a=x++ds.drop b:=by
 rw [← h,← hb,← List.drop_drop,List.take_append_drop]
end
section
variable {P:Program}
theorem bu.Mn {N k0:Nat}{st:St}{K:St→Prop}{si:SI}{r:List SI}{t:Nat}{b:Bool}{F:Hp}{nk:Nat}{Q:SV→Hp→Prop}(hg:si.g=some (t,b))(NN:st.env.lookup t=some (.d (.bool b)))(hq:∀ o:Oper,cO P o.op=some si.op→nJ P o (fun t=>st.env.lookup t) (lk st.hp) st.k nk F Q)
  (hro:dA si.op=false) (h:∀ v F',Q v F'→bu P N k0 r (lN st si ⟨v,F,F',nk,True⟩) K):bu P N k0 (si::r) st K:=by
 refine bu.cons fun ops o hc hN rd dg M0 w0 c0 a w fP i ho Q' KK Eo=> ?_
 obtain ⟨g1,g2,g3⟩:=gE hc;obtain ⟨l7,hdf,hsz,μ,M,fc,hS,hE⟩:=fP;have fP:iC N dg M0 w0 c0 k0 st a w:=⟨l7,hdf,hsz,μ,M,fc,hS,hE⟩;have hw:Region.wanted o (yielded ops a.tmps)=true:=by
  rcases g3 with ⟨_,h'⟩ | ⟨j,w,t',hg',hd,h'⟩
  ·rw [hg] at h';cases h'
  ·rw [hg] at h'
   injection h' with h';injection h' with e1 e2;subst e1;subst e2;have hv:=Rp.bG.1 (fc t _ NN);simp only [Region.wanted,hg',iA hd hv];simp
 unfold wpOpIn;simp only [ho,hw,if_true];exact (iC.step g2 (fun d hd=>hN d (by rw [g2];exact hd)) (hq o g1) (fun v F' _ hr=>by rw [hro] at hr;cases hr) fP fun v F' hQ a' w' hSt'=>Eo _ a' w' (h v F' hQ) hSt')
theorem bu.AD {N k0:Nat}{st:St}{K:St→Prop}{d:Option Nat}{r:List SI}{f:X}{args:List X}{t:Nat}{b:Bool}{nl:Nat}{as:List SV}{F:Hp}{nk:Nat}{Q:SV→Hp→Prop}(NN:st.env.lookup t=some (.d (.bool b)))
  (h1:ev (fun t=>st.env.lookup t) f=some (.yl nl)) (h2:pY (fun t=>st.env.lookup t) args=some as) (hF:lk F nl≠none) (Ml:SY P nl as F st.k nk Q) (hsub:HSub F st.hp)
  (h:∀ v F',Q v F'→bu P N k0 r (lN st ⟨d,.call f args,some (t,b)⟩ ⟨v,F,F',nk,True⟩) K):bu P N k0 (⟨d,.call f args,some (t,b)⟩::r) st K:=
 bu.Mn rfl NN (fun o hc=>yO hc h1 h2 hF Ml hsub) rfl h
theorem iC.xC {N k0:Nat}{st:St}{dg:Nat→Nm}{M0:Mem}{w0:World}{c0:Nat→Option Ob}{a:Act}{w:World}(x ty:Nat)(e sz:Nat)(ht:lk st.hp x=some (.box ty [.d .aJ]))(h:iC N dg M0 w0 c0 k0 st a w):
    iC N dg M0 w0 c0 k0 ⟨st.env,(x,.box ty [.gs st.k 0])::(st.k,.arr e sz 0 [])::st.hp,st.k+1⟩ a w:=by
  obtain ⟨l7,hdf,hsz,μ,M,fc,hS,hE⟩:=h;have hmu:=vN (μ:=μ) (m:=⟨0,0,false⟩) (p:=(· <st.k)) (k:=st.k) (Nat.lt_irrefl _);have hup:∀ n,n<st.k→n<st.k+1:=fun n h=>by omega
  have hlt:∀ n ob,lk st.hp n=some ob→n<st.k:=fun n ob h=>(hS.obs n ob h).1
  have hxk:=hlt x _ ht;have hne:∀ n,n≠st.k→lk ((x,.box ty [.gs st.k 0])::(st.k,.arr e sz 0 [])::st.hp) n≠none→lk st.hp n≠none:=fun n h1 h2=>by
    rw [aa] at h2
    split at h2
    · rename_i e1;rw [e1,ht];simp
    · rw [aa,if_neg h1] at h2;exact h2
  refine ⟨by show k0≤st.k+1;omega,hdf,hsz,Ae μ st.k ⟨0,0,false⟩,M,fun u s hs=> ?_,⟨hS.mem,fun n ob hn=> ?_,fun n m hn hm ln lm e=> ?_⟩,⟨fun n hn=> ?_,hE.mem,hE.frame,hE.size,fun n hn=> ?_,hE.os,hE.tape,hE.output⟩⟩
  · exact (fc u s hs).more hup hmu (Mem.le_refl M)
  · rw [aa] at hn
    split at hn
    · rename_i e1
      subst e1;injection hn with hn;subst hn;obtain ⟨a1,⟨hl,vs,hb,hr⟩,a3⟩:=hS.obs n _ ht;rw [hmu n a1];refine ⟨hup n a1,⟨hl,vs,hb,?_⟩,a3⟩;obtain ⟨v,vs',e,h1,h2⟩:=aU.aD.1 hr;rw [e];refine aU.aD.2 ⟨v,vs',rfl,?_,aU.aR.2 (aU.aR.1 h2)⟩;have h1:=h1.rep;simp only [dy,bX] at h1;intro ν ic;simp only [dy];rw [ic st.k (Nat.lt_succ_self _),bN];exact .inr ⟨rfl,trivial,none,h1⟩
    · rw [aa] at hn
      split at hn
      · rename_i e1
        subst e1;injection hn with hn;subst hn;rw [bN];exact ⟨Nat.lt_succ_self _,.inl ⟨rfl,rfl,rfl⟩,fun h=>by cases h⟩
      · obtain ⟨a1,a2,a3⟩:=hS.obs n ob hn
        rw [hmu n a1];exact ⟨hup n a1,a2.more hup hmu (Mem.le_refl M) fun _=>rfl,a3⟩
  · by_cases e1:n=st.k
    · subst e1;rw [bN] at ln;cases ln
    · by_cases e2:m=st.k
      · subst e2;rw [bN] at lm;cases lm
      · have hn:=hne n e1 hn
        have hm:=hne m e2 hm;obtain ⟨o1,ho1⟩:=Option.ne_none_iff_exists'.1 hn;obtain ⟨o2,ho2⟩:=Option.ne_none_iff_exists'.1 hm;rw [hmu n (hlt n o1 ho1)] at e ln;rw [hmu m (hlt m o2 ho2)] at e lm;exact hS.inj n m hn hm ln lm e
  · simp only at hn
    by_cases e1:n=st.k
    · subst e1;omega
    · rw [fD _ _ _ e1];exact hE.old n (by omega)
  · by_cases e1:n=st.k
    · subst e1
      rw [bN];exact .inl ⟨⟨by omega,Nat.lt_succ_self _⟩,fun h=>by cases h⟩
    · have hn:=hne n e1 hn
      obtain ⟨o1,ho1⟩:=Option.ne_none_iff_exists'.1 hn;rw [hmu n (hlt n o1 ho1)];rcases hE.names n hn with ⟨b1,b2⟩ | ⟨b1,b2⟩
      · exact .inl ⟨⟨b1.1,by have:=b1.2;show n<st.k+1;omega⟩,b2⟩
      · refine .inr ⟨fun h=> ?_,b2⟩
        have:n<st.k:=hlt n o1 ho1;exact b1 ⟨h.1,this⟩
theorem SW.xC {N k0:Nat}{st:St}{Q:Exit→St→Prop}{s:bP}(x ty:Nat)(e sz:Nat)(ht:lk st.hp x=some (.box ty [.d .aJ]))(h:SW P N k0 s ⟨st.env,(x,.box ty [.gs st.k 0])::(st.k,.arr e sz 0 [])::st.hp,st.k+1⟩ Q):SW P N k0 s st Q:=
 fun c hc rd hrf dg M0 w0 c0 a w fP=>h c hc rd hrf dg M0 w0 c0 a w (fP.xC x ty e sz ht)
end
end Go.Sl
