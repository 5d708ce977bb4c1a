/-
 Ranging over a function: a round's contract from the loop's body.
-/
import Derived.Test.YtaelhkkjgfobhaaGreatK4
set_option linter.unusedVariables false
set_option linter.unusedSimpArgs false
set_option linter.unusedSectionVars false
namespace Go.Sl
open Go.RowKit
section
set_option maxHeartbeats 1000000
variable {P:Program}
theorem dA {n:Nat}{ob:Ob}{h:Hp}:lk ((n,ob)::h) n=some ob:=by rw [aa,if_pos rfl]
theorem bC {n m:Nat}{ob:Ob}{h:Hp}(e:m≠n):lk ((n,ob)::h) m=lk h m:=by rw [aa,if_neg e]
mutual
theorem SV.eT {q q':Nat→Bool}(h:∀ n,q n=true→q' n=true):∀ s:SV,s.ok q=true→s.ok q'=true
 | .d _,_=>rfl
 | .ptr n _,hs=>h n hs
 | .gs n _,hs=>h n hs
 | .vp _ _,_=>rfl
 | .bs n _ _,hs=>h n hs
 | .mp n,hs=>h n hs
 | .it n,hs=>h n hs
 | .yl n,hs=>h n hs
 | .fn _ a c,hs=>by
  simp only [SV.ok,Bool.and_eq_true] at hs ⊢
  exact ⟨SV.jg h a hs.1,SV.jg h c hs.2⟩
 | .agg cs,hs=>SV.jg h cs hs
 | .dM cs,hs=>SV.jg h cs hs
 | .any,_=>rfl
theorem SV.jg {q q':Nat→Bool}(h:∀ n,q n=true→q' n=true):∀ s:List SV,SV.ay q s=true→SV.ay q' s=true
 | [],_=>rfl
 | c::cs,hs=>by
  simp only [SV.ay,Bool.and_eq_true] at hs ⊢
  exact ⟨SV.eT h c hs.1,SV.jg h cs hs.2⟩
end
theorem B8 {k nk K:Nat}{F hp F':Hp}{μ vF:Nat→Nm}{M M1:Mem}{w w':World}(uc:bK (· <K) vF M1 (lk hp) w')(ou:Ev (lk F) (fun n=>k≤n∧n<K) μ M w (lk hp) vF M1 w')
    (h3:HSub F' hp) (h6:F'.ok (fun n=>decide (n<k+nk))=true):
    bK (· <k+nk) (fun n=>if n<k+nk then vF n else μ n) M1 (lk F') w'∧Ev (lk F) (fun n=>k≤n∧n<k+nk) μ M w (lk F') (fun n=>if n<k+nk then vF n else μ n) M1 w':=by
  refine ⟨⟨uc.mem,fun n ob hn=> ?_,fun n m hn hm ln lm e=> ?_⟩,⟨fun n hn=> ?_,ou.mem,ou.frame,ou.size,fun n hn=> ?_,ou.os,ou.tape,ou.output⟩⟩
  · obtain ⟨a1,a2⟩:=Hp.dH h6 hn
    simp only [decide_eq_true_eq] at a1
    obtain ⟨_,b1,b2⟩:=uc.obs n ob (h3 n ob hn)
    simp only [if_pos a1]
    refine ⟨a1,?_,b2⟩
    have hb':bW (· <K) (fun n=>vF (id n)) M1 w' (vF n) (ob.aC id):=by rw [Ob.mM];exact b1
    exact bW.to a2 (fun m hm=>by simpa using hm) (fun m hm=>by simp only [decide_eq_true_eq] at hm;simp [hm]) hb'
  · obtain ⟨o1,ho1⟩:=Option.ne_none_iff_exists'.1 hn
    obtain ⟨o2,ho2⟩:=Option.ne_none_iff_exists'.1 hm
    have a1:=(Hp.dH h6 ho1).1
    have a2:=(Hp.dH h6 ho2).1
    simp only [decide_eq_true_eq] at a1 a2
    rw [if_pos a1] at e ln
    rw [if_pos a2] at e lm
    exact uc.inj n m (by rw [h3 n o1 ho1];simp) (by rw [h3 m o2 ho2];simp) ln lm e
  · by_cases hnk:n<k+nk
    · simp only [if_pos hnk]
      by_cases hK:k≤n
      · exact absurd ⟨hK,hnk⟩ hn
      · exact ou.old n (fun hh=>hK hh.1)
    · simp only [if_neg hnk]
  · obtain ⟨o1,ho1⟩:=Option.ne_none_iff_exists'.1 hn
    have a1:=(Hp.dH h6 ho1).1
    simp only [decide_eq_true_eq] at a1
    simp only [if_pos a1]
    rcases ou.names n (by rw [h3 n o1 ho1];simp) with ⟨b1,b2⟩ | ⟨b1,b2⟩
    · exact .inl ⟨⟨b1.1,a1⟩,b2⟩
    · exact .inr ⟨fun hh=>b1 ⟨hh.1,by
        by_cases hK:n<K
        · exact hK
        · exact absurd (uc.obs n o1 (h3 n o1 ho1)).1 hK⟩,b2⟩
theorem xo {p:Nat→Prop}{μ:Nat→Nm}{M:Mem}:∀ (ps:List Nat) (args:List SV) (vals:List Value) (tm:Array Value) (env:List (Nat×SV)),aR p μ M args vals→ps.length=args.length→
  (∀ t s,env.lookup t=some s→Rp p μ M s (tm.getD t undef))→(∀ q,q∈ps→q<tm.size)→
  ∀ t s,((ps.zip args).reverse++env).lookup t=some s→Rp p μ M s (((ps.zip vals).foldl (fun tmps (x:Nat×Value)=>tmps.setIfInBounds x.1 x.2) tm).getD t undef)
 | [],args,vals,tm,env,hr,hl,he,hq,t,s,h=>by simpa using he t s (by simpa using h)
 | q::ps,[],vals,tm,env,hr,hl,he,hq,t,s,h=>by simp at hl
 | q ::ps,x::args,vals,tm,env,hr,hl,he,hq,t,s,h=>by
  obtain ⟨u,us,rfl,h1,h2⟩:=aR.aF.1 hr
  simp only [List.zip_cons_cons,List.reverse_cons,List.append_assoc,List.singleton_append] at h
  simp only [List.zip_cons_cons,List.foldl_cons]
  refine xo ps args us (tm.setIfInBounds q u) ((q,x)::env) h2 (by simpa using hl) (fun t' s' h'=> ?_) (fun q' hq'=>by simpa using hq q' (by simp [hq'])) t s h
  have hqs:=hq q (by simp)
  simp only [List.lookup] at h'
  split at h'
  ·rename_i e
   have e:t'=q:=by simpa using e
   subst e
   injection h' with h'
   subst h'
   have:(tm.setIfInBounds t' u).getD t' undef=u:=by simp [Array.getD,hqs]
   rw [this];exact h1
  ·rename_i e
   have e:t'≠q:=by simpa using e
   have:(tm.setIfInBounds q u).getD t' undef=tm.getD t' undef:=by
    simp [Array.getD_eq_getD_getElem?,Array.getElem?_setIfInBounds_ne (Ne.symm e)]
   rw [this];exact he t' s' h'
theorem va:∀ (xs:List (Nat×Value)) (tm:Array Value),(xs.foldl (fun tmps (x:Nat×Value)=>tmps.setIfInBounds x.1 x.2) tm).size=tm.size
 | [],tm=>rfl
 | x::xs,tm=>by simp [va xs]
def Left:Exit→Option Code→Bool→Prop
 | .normal,pe,b=>pe=none∧b=true
 | .ret,pe,b=>pe=some .ret∧b=false
 | .exit id,pe,b=>pe=some (.exit id)∧b=false
 | _,_,_=>False
def jQ (pe:Option Code):LoopState:=if pe.isNone then .ready else .done
def Lm (nl N:Nat)(ts:List Nat)(cs:List SV)(ps:List Nat)(ca cb:Code)(k nk:Nat)(Q:SV→Hp→Prop)(e:Exit)(st2:St):Prop:=
 ∃ pe b F',Left e pe b∧HSub F' st2.hp∧F'.ok (fun n=>decide (n<k+nk))=true∧k+nk≤st2.k∧Q (.d (.bool b)) ((nl,.kJ N ts cs ps ca cb (jQ pe) pe)::F')
theorem s6 {p:Nat→Prop}{μ:Nat→Nm}{M:Mem}{f:Nat→Value}:∀ {ts:List Nat} {cs:List SV},aR p μ M cs (ts.map f)→∀ t s,(ts.zip cs).lookup t=some s→Rp p μ M s (f t)
 | [],_,_,t,s,h=>by simp at h
 | t'::ts,[],_,t,s,h=>by simp at h
 | t'::ts,c::cs,hr,t,s,h=>by
  obtain ⟨u,us,e,h1,h2⟩:=aR.aF.1 hr
  injection e with e1 e2
  subst e1;subst e2
  simp only [List.zip_cons_cons,List.lookup] at h
  split at h
  ·rename_i e
   have e:t=t':=by simpa using e
   injection h with h
   subst h;subst e
   exact h1
  ·exact s6 h2 t s h
theorem wL.lY {nl N k nk:Nat}{ts:List Nat}{cs:List SV}{ps:List Nat}{ca cb:Code}{sa sb:bX}{args:List SV}{H:Hp}{Q:SV→Hp→Prop}
    (hca:cK P N ca=some sa) (hcb:cK P N cb=some sb) (Ln:sa.rf=false) (hrb:sb.rf=false) (hlen:ps.length=args.length) (Lo:∀ q,q∈ps→q<N) (hnl:nl<k) (hH:lk H nl=none)
    (hargs:SV.ay (fun n=>decide (n<k)) args=true) (Lp:H.ok (fun n=>decide (n<k))=true) (hcs:SV.ay (fun n=>decide (n<k)) cs=true)
    (h:SW P N k sa ⟨(ps.zip args).reverse++ts.zip cs,H,k⟩ fun e st1=>e= .normal∧SW P N k sb st1 (Lm nl N ts cs ps ca cb k nk Q)):
    wL P nl args ((nl,.kJ N ts cs ps ca cb .ready none)::H) k nk Q:=by
  refine ⟨hargs,by simp only [Hp.ok,List.all_cons,Ob.ok,hcs,Bool.and_eq_true];exact ⟨by simpa using hnl,Lp⟩,fun μ M w vals hr hS=> ?_⟩
  obtain ⟨_,⟨hlive,r,hb,hcsr,hN,hps,has,hbd,hst,hpe⟩,hMn⟩:=hS.obs nl _ dA
  generalize hl:(μ nl).blk=l at*
  have hMn:=hMn hlive
  have hsub:∀ n ob,lk H n=some ob→lk ((nl,.kJ N ts cs ps ca cb .ready none)::H) n=some ob:=fun n ob hn=>by
    rw [bC (fun e=>by rw [e,hH] at hn;cases hn)];exact hn
  have hSH:bK (· <k) μ M (lk H) w:=hS.sub hsub
  have hltl:l<w.heap.size:=(Array.getElem?_eq_some_iff.1 hb).1
  have hnot:∀ n,lk H n≠none→(μ n).live=true→(μ n).blk≠l:=fun n hn ln e=>by
    obtain ⟨ob,ho⟩:=Option.ne_none_iff_exists'.1 hn
    have:=hS.inj n nl (by rw [hsub n ob ho];simp) (by rw [dA];simp) ln hlive (by rw [hl];exact e)
    subst this
    rw [hH] at hn;exact hn rfl
  have hvs:vals.size=r.params.size:=by
    have h1:vals.size=args.length:=by simpa using hr.length
    have h2:r.params.size=ps.length:=by rw [← hps];simp
    omega
  refine ⟨_,_,_,_,run_yield hb hvs,roundIn_of_wpIn trivial ?_⟩
  have hfold:(r.params.zip vals).foldl (fun tmps (x:Nat×Value)=>tmps.setIfInBounds x.1 x.2) r.tmps=(ps.zip vals.toList).foldl (fun tmps (x:Nat×Value)=>tmps.setIfInBounds x.1 x.2) r.tmps:=by
    rw [← hps,← Array.foldl_toList,Array.toList_zip]
  have eO:gH N μ M w (lk H) k ⟨(ps.zip args).reverse++ts.zip cs,H,k⟩ { tmps:=(ps.zip vals.toList).foldl (fun tmps (x:Nat×Value)=>tmps.setIfInBounds x.1 x.2) r.tmps,defers:=[]} w:=by
    refine ⟨Nat.le_refl _,trivial,by rw [va];exact hN,μ,M,?_,hSH,Ev.refl _ _ _ _ _ fun n hn hh=>absurd hh.2 (Nat.not_lt.2 hh.1)⟩
    exact xo ps args vals.toList r.tmps (ts.zip cs) hr hlen (s6 (f:=fun t=>r.tmps.getD t undef) hcsr) (fun q hq=>by rw [hN];exact Lo q hq)
  have hfold':(r.params.zip vals).foldl (fun tmps (x:Tmp×Value)=>match x with | (t,a)=>tmps.setIfInBounds t a) r.tmps=(ps.zip vals.toList).foldl (fun tmps (x:Nat×Value)=>tmps.setIfInBounds x.1 x.2) r.tmps:=hfold
  rw [hfold',has,hbd]
  show ca.wpIn (jc (some l)) 0 P _ _ w
  refine wpIn_mono (h ca hca (some l) (fun e=>by rw [Ln] at e;cases e) μ M w (lk H) _ w eO) ?_
  rintro e a1 w1 ⟨st1,⟨rfl,hbody⟩,hk1,hdf1,hsz1,vF,M1,hsl1,uc,ou⟩
  have hw1:w1.heap[l]? =some (.loop r):=by rw [(ou.frame l hltl hnot).1];exact hb
  refine ⟨_,run_beginRound hw1 hst,?_⟩
  have hnot1:∀ n,lk st1.hp n≠none→(vF n).live=true→(vF n).blk≠l:=fun n hn ln e=>by
    rcases ou.names n hn with ⟨_,hh⟩ | ⟨h1,h2⟩
    · rcases hh ln with h' | ⟨m,hm,lm,e'⟩
      · omega
      · exact hnot m hm lm (e'.trans e)
    · rw [ou.old n h1] at e ln
      exact hnot n h2 ln e
  have hM1:∀ o,M1 l o=none:=fun o=>by rw [(ou.frame l hltl hnot).2];exact hMn o
  have hS2:bK (· <st1.k) vF M1 (lk st1.hp) (w1.putObj l (.loop { r with state:= .busy})):=by
    refine ⟨⟨fun b o v hv=> ?_,uc.mem.j9⟩,fun n ob hn=> ?_,uc.inj⟩
    · have hbl:b≠l:=fun e=>by rw [e,hM1] at hv;cases hv
      have:=uc.mem b o v hv
      simp only [World.cell?,World.putObj_heap_other hbl] at this ⊢
      exact this
    · obtain ⟨q1,q2,q3⟩:=uc.obs n ob hn
      exact ⟨q1,q2.more (fun _ h=>h) (fun _ _=>rfl) (Mem.le_refl _) (fun ln=>World.putObj_heap_other (hnot1 n (by rw [hn];simp) ln)),q3⟩
  have hE2:Ev (lk H) (fun n=>k≤n∧n<st1.k) μ M (w.putObj l (.loop { r with state:= .busy})) (lk st1.hp) vF M1 (w1.putObj l (.loop { r with state:= .busy})):=by
    refine ⟨ou.old,ou.mem,fun b hb' hn=> ?_,by simpa using ou.size,by simpa using ou.names,ou.os,ou.tape,ou.output⟩
    rw [World.putObj_size] at hb'
    refine ⟨?_,(ou.frame b hb' hn).2⟩
    by_cases e:b=l
    · subst e
      rw [World.putObj_heap_same hltl,World.putObj_heap_same (Array.getElem?_eq_some_iff.1 hw1).1]
    · rw [World.putObj_heap_other e,World.putObj_heap_other e];exact (ou.frame b hb' hn).1
  have hdf2:Marks (w.putObj l (.loop { r with state:= .busy})) (w1.putObj l (.loop { r with state:= .busy})) a1.defers:=by
    have key:∀ df,Marks w w1 df→Marks (w.putObj l (.loop { r with state:= .busy})) (w1.putObj l (.loop { r with state:= .busy})) df:=by
      intro df
      induction df with
      | nil=>intro _;trivial
      | cons d ds ih=>
        rintro ⟨⟨q,g1,g2,g3,g4⟩,g5⟩
        refine ⟨⟨q,g1,by simpa using g2,?_,g4⟩,ih g5⟩
        rw [World.putObj_heap_other (fun e=>by rw [e,hw1] at g3;cases g3)];exact g3
    exact key _ hdf1
  show cb.wpIn (jc (some l)) 0 P _ _ _
  refine wpIn_mono (hbody cb hcb (some l) (fun e=>by rw [hrb] at e;cases e) μ M _ (lk H) a1 _ ⟨hk1,hdf2,hsz1,vF,M1,hsl1,hS2,hE2⟩) ?_
  rintro e a2 w3 ⟨st2,⟨pe,b,F',hleft,hF',Bx,hkk,hQ⟩,hk2,_,_,Gq,M2,_,hS3,hE3⟩
  have hlt':l<(w.putObj l (.loop { r with state:= .busy})).heap.size:=by simpa using hltl
  have hw3:w3.heap[l]? =some (.loop { r with state:= .busy}):=by rw [(hE3.frame l hlt' hnot).1];exact World.putObj_heap_same hltl
  have hnot3:∀ n,lk st2.hp n≠none→(Gq n).live=true→(Gq n).blk≠l:=fun n hn ln e=>by
    rcases hE3.names n hn with ⟨_,hh⟩ | ⟨h1,h2⟩
    · rcases hh ln with h' | ⟨m,hm,lm,e'⟩
      · omega
      · exact hnot m hm lm (e'.trans e)
    · rw [hE3.old n h1] at e ln
      exact hnot n h2 ln e
  have hM3:∀ o,M2 l o=none:=fun o=>by rw [(hE3.frame l hlt' hnot).2];exact hMn o
  have hnl2:lk st2.hp nl=none:=by
    cases hc:lk st2.hp nl with
    | none=>rfl
    | some ob=>
      rcases hE3.names nl (by rw [hc];simp) with ⟨h1,_⟩ | ⟨_,h2⟩
      · omega
      · exact absurd hH h2
  have hmu:Gq nl=μ nl:=hE3.old nl (by omega)
  have fin:∃ w4,(Instr.endRound l pe).run P w3= .ok (.bool pe.isNone) w4∧∃ r F' aZ M' u,Ending.returned (.bool pe.isNone)= .returned u∧Q r F'∧r.ok (fun n=>decide (n<k+nk))=true∧F'.ok (fun n=>decide (n<k+nk))=true∧cI aZ M' r u∧bK (· <k+nk) aZ M' (lk F') w4∧
      Ev (lk ((nl,.kJ N ts cs ps ca cb .ready none)::H)) (fun n=>k≤n∧n<k+nk) μ M w (lk F') aZ M' w4:=by
    refine ⟨_,run_endRound pe hw3,?_⟩
    have hbp:b=pe.isNone:=by cases e <;> simp only [Left] at hleft <;> first | (obtain ⟨rfl,rfl⟩:=hleft;rfl) | exact hleft.elim
    have hS4:bK (· <st2.k) Gq M2 (lk ((nl,.kJ N ts cs ps ca cb (jQ pe) pe)::st2.hp)) (w3.putObj l (.loop { r with state:=if pe.isNone then .ready else .done,pending:=pe})):=by
      refine ⟨⟨fun b o v hv=> ?_,hS3.mem.j9⟩,fun n ob hn=> ?_,fun n m hn hm ln lm e=> ?_⟩
      · have hbl:b≠l:=fun e=>by rw [e,hM3] at hv;cases hv
        have:=hS3.mem b o v hv
        simp only [World.cell?,World.putObj_heap_other hbl] at this ⊢
        exact this
      · by_cases en:n=nl
        · subst en
          rw [dA] at hn
          injection hn with hn
          subst hn
          rw [hmu]
          refine ⟨by omega,⟨hlive,{ r with state:=if pe.isNone then .ready else .done,pending:=pe},by rw [hl];exact World.putObj_heap_same (Array.getElem?_eq_some_iff.1 hw3).1,?_,hN,hps,has,hbd,rfl,rfl⟩,fun _=>by rw [hl];exact hM3⟩
          exact hcsr.more (fun n hn=>by show n<st2.k;have:n<k:=hn;omega) (fun n hn=>hE3.old n (by have:n<k:=hn;omega)) hE3.mem
        · rw [bC en] at hn
          obtain ⟨q1,q2,q3⟩:=hS3.obs n ob hn
          exact ⟨q1,q2.more (fun _ h=>h) (fun _ _=>rfl) (Mem.le_refl _) (fun ln=>World.putObj_heap_other (hnot3 n (by rw [hn];simp) ln)),q3⟩
      · by_cases en:n=nl <;> by_cases em:m=nl
        · rw [en,em]
        · subst en
          rw [bC em] at hm
          rw [hmu,hl] at e
          exact absurd e.symm (hnot3 m hm lm)
        · subst em
          rw [bC en] at hn
          rw [hmu,hl] at e
          exact absurd e (hnot3 n hn ln)
        · rw [bC en] at hn
          rw [bC em] at hm
          exact hS3.inj n m hn hm ln lm e
    have hE4:Ev (lk ((nl,.kJ N ts cs ps ca cb .ready none)::H)) (fun n=>k≤n∧n<st2.k) μ M w (lk ((nl,.kJ N ts cs ps ca cb (jQ pe) pe)::st2.hp)) Gq M2 (w3.putObj l (.loop { r with state:=if pe.isNone then .ready else .done,pending:=pe})):=by
      have hsz:=hE3.size
      rw [World.putObj_size] at hsz
      refine ⟨hE3.old,hE3.mem,fun b hb' hn=> ?_,by simpa using hsz,fun n hn=> ?_,hE3.os,hE3.tape,hE3.output⟩
      · have hbl:b≠l:=fun e=>hn nl (by rw [dA];simp) hlive (by rw [hl];exact e.symm)
        have hnH:∀ n,lk H n≠none→(μ n).live=true→(μ n).blk≠b:=fun n h1 h2=>by
          obtain ⟨ob,ho⟩:=Option.ne_none_iff_exists'.1 h1
          exact hn n (by rw [hsub n ob ho];simp) h2
        have:=hE3.frame b (by simpa using hb') hnH
        refine ⟨?_,this.2⟩
        rw [World.putObj_heap_other hbl,this.1,World.putObj_heap_other hbl]
      · by_cases en:n=nl
        · subst en
          exact .inr ⟨by omega,by rw [dA];simp⟩
        · rw [bC en] at hn
          rw [bC en]
          rcases hE3.names n hn with ⟨h1,h2⟩ | h1
          · refine .inl ⟨h1,fun ln=> ?_⟩
            rcases h2 ln with h2 | ⟨m,hm,lm,e⟩
            · exact .inl (by simpa using h2)
            · obtain ⟨ob,ho⟩:=Option.ne_none_iff_exists'.1 hm
              exact .inr ⟨m,by rw [hsub m ob ho];simp,lm,e⟩
          · exact .inr h1
    have hsub':HSub ((nl,.kJ N ts cs ps ca cb (jQ pe) pe)::F') ((nl,.kJ N ts cs ps ca cb (jQ pe) pe)::st2.hp):=fun n ob hn=>by
      by_cases en:n=nl
      · subst en;rw [dA] at hn ⊢;exact hn
      · rw [bC en] at hn ⊢;exact hF' n ob hn
    have hok':Hp.ok (fun n=>decide (n<k+nk)) ((nl,.kJ N ts cs ps ca cb (jQ pe) pe)::F')=true:=by
      have hcs':SV.ay (fun n=>decide (n<k+nk)) cs=true:=by
        rw [SV.vO] at hcs ⊢
        intro c hc
        exact SV.eT (fun n hn=>by simp only [decide_eq_true_eq] at hn ⊢;omega) c (hcs c hc)
      simp only [Hp.ok,List.all_cons,Ob.ok,hcs',Bool.and_eq_true]
      exact ⟨⟨by simp;omega,trivial⟩,Bx⟩
    obtain ⟨z1,z2⟩:=B8 (nk:=nk) hS4 hE4 hsub' hok'
    exact ⟨_,_,_,M2,_,rfl,hQ,rfl,hok',by rw [hbp];simp [cI,bQ],z1,z2⟩
  obtain ⟨w4,he,hfin⟩:=fin
  cases e <;> simp only [Left] at hleft <;> first
    | exact hleft.elim
    | (obtain ⟨rfl,rfl⟩:=hleft;exact ⟨_,w4,he,hfin⟩)
def AI (env:List (Nat×SV)):List Nat→List SV→Prop
 | [],[]=>True
 | t::ts,c::cs=>env.lookup t=some c∧AI env ts cs
 | _,_=>False
theorem AI.rep {p:Nat→Prop}{μ:Nat→Nm}{M:Mem}{env:List (Nat×SV)}{f:Nat→Value}(h:∀ t s,env.lookup t=some s→Rp p μ M s (f t)):∀ {ts:List Nat} {cs:List SV},AI env ts cs→aR p μ M cs (ts.map f)
 | [],[],_=>aR.aP.2 rfl
 | t::ts,c::cs,⟨h1,h2⟩=>aR.aF.2 ⟨_,_,rfl,h t c h1,AI.rep h h2⟩
 | [],_::_,h=>h.elim
 | _::_,[],h=>h.elim
def RQ (Q:Exit→St→Prop)(pe:Option Code)(st:St):Prop:=
 match pe with
 | none=>Q .normal st
 | some .ret=>Q .ret st
 | some (.exit id)=>Q (.exit id) st
 | _=>False
theorem Marks.lt {w0 w:World}:∀ {df:List Deferred},Marks w0 w df→∀ d,d∈df→∃ r,d=⟨.collected r,#[]⟩∧r<w.heap.size
 | [],_,d,h=>by simp at h
 | d::ds,⟨⟨r,h1,h2,h3,h4⟩,h5⟩,d',h=>by
  rcases List.mem_cons.1 h with rfl | h
  ·exact ⟨r,h1,(Array.getElem?_eq_some_iff.1 h3).1⟩
  ·exact Marks.lt h5 d' h
theorem Marks.alloc {w0 w:World}(o:Obj):∀ {df:List Deferred},Marks w0 w df→Marks w0 (w.alloc o) df
 | [],_=>trivial
 | d::ds,⟨⟨r,h1,h2,h3,h4⟩,h5⟩=>⟨⟨r,h1,h2,(jd w o (Array.getElem?_eq_some_iff.1 h3).1).trans h3,h4⟩,Marks.alloc o h5⟩
theorem SW.mL {N k0 nk:Nat}{st:St}{Q:Exit→St→Prop}{g:X}{ps:List Nat}{sa sb:bX}{f:FuncId}{first cap:List SV}(ts:List Nat)(cs:List SV)(hg:ev (fun t=>st.env.lookup t) g=some (.fn (.func f) first cap))(hts:AI st.env ts cs)
    (h:∀ ca cb,cK P N ca=some sa→cK P N cb=some sb→SC P f (first++[.yl st.k]++cap) ((st.k,.kJ N ts cs ps ca cb .ready none)::st.hp) (st.k+1) nk fun _ F'=>
      ∃ pe,lk F' st.k=some (.kJ N ts cs ps ca cb (jQ pe) pe)∧RQ Q pe ⟨st.env,di F' st.k,st.k+1+nk⟩):SW P N k0 (.mL g ps sa sb) st Q:=by
  intro c hc rd hrf cE M0 w0 c0 a w eO
  obtain rfl:=hrf rfl
  cases c <;> simp only [cK] at hc <;> first
    | (cases hc;done)
    | (exfalso;obtain ⟨_,_,hh⟩:=Option.map_eq_some_iff.1 hc;cases hh;done)
    | skip
  case rangeFunc g' ps' ca cb=>
    split at hc <;> first | (cases hc;done) | skip
    rename_i g'' sa' sb' hg' hca hcb
    injection hc with hc
    injection hc with e1 e2 e3 e4
    subst e1;subst e2;subst e3;subst e4
    obtain ⟨mH,hdf,hsz,μ,M,fQ,hS,hE⟩:=eO
    have hk:gq (fun t=>st.env.lookup t) #[g'] (· <st.k) μ M a:=⟨fun t _ s hs=>fQ t s hs,hS.mem.j9⟩
    obtain ⟨as,cs',ef,r1,r2⟩:=Rp.qj.1 (hk.get (by simp) hg' hg)
    have hlt:∀ n,lk st.hp n≠none→n<st.k:=fun n hn=>by
      obtain ⟨ob,ho⟩:=Option.ne_none_iff_exists'.1 hn
      exact (hS.obs n ob ho).1
    refine wpIn_rangeFunc fun fn _=> ?_
    let rr:Loop:={ state:= .ready,pending:=none,fn:=fn,tmps:=a.tmps,params:=ps',assign:=ca,body:=cb,defers:=w.heap.size}
    let wA:=w.alloc (.deferred (some []))
    let wB:=wA.alloc (.loop rr)
    have hAs:wA.heap.size=w.heap.size+1:=World.size_alloc _ _
    have hBs:wB.heap.size=w.heap.size+2:=by show (wA.alloc _).heap.size=_;rw [World.size_alloc,hAs]
    have hB1:wB.heap[w.heap.size+1]? =some (.loop rr):=by rw [← hAs];exact fF wA _
    have hB0:wB.heap[w.heap.size]? =some (.deferred (some [])):=by rw [jd wA _ (by omega)];exact fF w _
    have hBo:∀ b,b<w.heap.size→wB.heap[b]? =w.heap[b]? :=fun b hb=>by rw [jd wA _ (by omega),jd w _ hb]
    let nm:Nm:=⟨w.heap.size+1,0,true⟩
    let μB:=yd μ st.k nm
    have hold:∀ n,n<st.k→μB n=μ n:=fun n hn=>eA _ _ _ (by omega)
    have hup:∀ n,n<st.k→n<st.k+1:=fun n hn=>by omega
    have hMl:∀ o,M (w.heap.size+1) o=none:=sG hS.mem (by omega)
    have hSB:bK (· <st.k+1) μB M (lk ((st.k,.kJ N ts cs ps'.toList ca cb .ready none)::st.hp)) wB:=by
      refine ⟨kK _ (kK _ hS.mem),fun n ob hn=> ?_,fun n m hn hm ln lm e=> ?_⟩
      · by_cases en:n=st.k
        · subst en
          rw [dA] at hn
          injection hn with hn
          subst hn
          have e:μB st.k=nm:=bF _ _ _
          rw [e]
          refine ⟨Nat.lt_succ_self _,⟨rfl,rr,hB1,?_,hsz,rfl,rfl,rfl,rfl,rfl⟩,fun _=>hMl⟩
          exact (AI.rep (f:=fun t=>a.tmps.getD t undef) fQ hts).more hup hold (Mem.le_refl _)
        · rw [bC en] at hn
          obtain ⟨q1,q2,q3⟩:=hS.obs n ob hn
          rw [hold n q1]
          exact ⟨hup n q1,q2.more hup hold (Mem.le_refl _) (fun ln=>hBo _ (q2.lt ln)),q3⟩
      · have Gp:∀ n,lk st.hp n≠none→(μB n).live=true→(μB n).blk≠w.heap.size+1:=fun n hn ln e=>by
          rw [hold n (hlt n hn)] at ln e
          have:=hS.lt hn ln
          omega
        have e0:(μB st.k).blk=w.heap.size+1:=by show (yd μ st.k nm st.k).blk=_;rw [bF]
        by_cases en:n=st.k <;> by_cases em:m=st.k
        · rw [en,em]
        · subst en
          rw [bC em] at hm
          exact absurd (e.symm.trans e0) (Gp m hm lm)
        · subst em
          rw [bC en] at hn
          exact absurd (e.trans e0) (Gp n hn ln)
        · rw [bC en] at hn
          rw [bC em] at hm
          rw [hold n (hlt n hn)] at ln e
          rw [hold m (hlt m hm)] at lm e
          exact hS.inj n m hn hm ln lm e
    have hEB:Ev (lk st.hp) (fun n=>st.k≤n∧n<st.k+1) μ M w (lk ((st.k,.kJ N ts cs ps'.toList ca cb .ready none)::st.hp)) μB M wB:=by
      refine ⟨fun n hn=>eA _ _ _ (fun e=>hn (by omega)),Mem.le_refl _,fun b hb _=>⟨hBo b hb,fun _=>rfl⟩,by omega,fun n hn=> ?_,rfl,⟨rfl,Nat.le_refl _⟩,rfl⟩
      by_cases en:n=st.k
      · subst en
        exact .inl ⟨⟨Nat.le_refl _,Nat.lt_succ_self _⟩,fun _=> .inl (by show _≤(yd μ st.k nm st.k).blk;rw [bF];exact Nat.le_succ _)⟩
      · rw [bC en] at hn
        have:=hlt n hn
        exact .inr ⟨by omega,hn⟩
    have hargs:aR (· <st.k+1) μB M (first++[.yl st.k]++cap) (as++ #[Value.func (.yield (w.heap.size+1)) #[] #[]]++cs').toList:=by
      have hy:aR (· <st.k+1) μB M [.yl st.k] [Value.func (.yield (w.heap.size+1)) #[] #[]]:=by
        refine aR.aF.2 ⟨_,_,rfl,fun aZ jv=> ?_,aR.aP.2 rfl⟩
        have:aZ st.k=nm:=(jv st.k (Nat.lt_succ_self _)).trans (bF _ _ _)
        simp [cI,this,nm]
      simpa using ((r1.more hup hold (Mem.le_refl _)).append hy).append (r2.more hup hold (Mem.le_refl _))
    obtain ⟨bR,hcalls⟩:=h ca cb hca hcb
    refine ⟨w.heap.size+1,[{ target:= .collected w.heap.size,args:= #[]}],wB,{ target:= .fn (.func f) cs',args:=as++ #[Value.func (.yield (w.heap.size+1)) #[] #[]]},wB,f,as++ #[Value.func (.yield (w.heap.size+1)) #[] #[]]++cs',wB,?_,?_,fun _ _=>trivial,?_,(fun e=>by cases e),?_⟩
    · exact run_enterLoop_outer fn a.tmps ps' ca cb
    · have e1:(#[Operand.const (.func (.yield (w.heap.size+1)) #[] #[])]:Array Operand).map a.eval= #[Value.func (.yield (w.heap.size+1)) #[] #[]]:=by simp [Act.eval]
      simp only [resolve,rangeCall,e1,ef,Deferred.ofValue,Sem.run_pure]
    · simp only [invoke,lS bR]
    · refine ql.2 ((hcalls (· <st.k+1) μB M wB _ (fun n hn=>by omega) hargs hSB).mono ?_)
      rintro e w3 ⟨r,F',aZ,M',u,rfl,⟨pe,hrec,hRQ⟩,_,hS3,hE3⟩
      have hp:(fun n=>n<st.k+1∨(st.k+1≤n∧n<st.k+1+nk))=(· <st.k+1+nk):=funext fun n=>propext ⟨fun h=>by rcases h with h | h <;> omega,fun h=>by show n<st.k+1∨_;omega⟩
      rw [hp] at hS3
      have hmk:aZ st.k=nm:=(hE3.old st.k (by omega)).trans (bF _ _ _)
      obtain ⟨_,⟨_,r3,hb3,_,_,_,_,_,hst3,hpe3⟩,hM3⟩:=hS3.obs st.k _ hrec
      rw [hmk] at hb3 hM3
      have hb3:w3.heap[w.heap.size+1]? =some (.loop r3):=hb3
      have hM3:∀ o,M' (w.heap.size+1) o=none:=hM3 rfl
      refine ⟨_,_,run_endLoop hb3 (by rw [hst3];unfold jQ;split <;> simp),?_⟩
      rw [hpe3]
      have hnot:∀ n,lk (di F' st.k) n≠none→(aZ n).live=true→(aZ n).blk≠w.heap.size+1:=fun n hn ln e=>by
        rw [cR] at hn
        split at hn
        · exact hn rfl
        · rename_i en
          exact en (hS3.inj n st.k hn (by rw [hrec];simp) ln (by rw [hmk]) (by rw [hmk];exact e))
      have hSt':gH N cE M0 w0 c0 k0 ⟨st.env,di F' st.k,st.k+1+nk⟩ { a with defers:={ target:= .collected w.heap.size,args:= #[]}::a.defers} (w3.putObj (w.heap.size+1) (.loop { r3 with state:= .exhausted,pending:=pe})):=by
        refine ⟨by show k0≤st.k+1+nk;omega,⟨⟨w.heap.size,rfl,hE.size,?_,fun d' hd e=> ?_⟩,?_⟩,hsz,aZ,M',fun t s hs=> ?_,⟨⟨fun b o v hv=> ?_,hS3.mem.j9⟩,fun n ob hn=> ?_,fun n m hn hm=> ?_⟩,?_⟩
        · rw [World.putObj_heap_other (by omega)]
          exact hE3.keeps hSB hB0 rfl
        · obtain ⟨q,e',hq⟩:=hdf.lt d' hd
          rw [e'] at e
          injection e with e _
          injection e with e
          omega
        · refine Marks.put _ _ (fun d' hd e=> ?_) ((hdf.alloc _).alloc _ |>.ev hSB hE3)
          obtain ⟨q,e',hq⟩:=hdf.lt d' hd
          rw [e'] at e
          injection e with e _
          injection e with e
          omega
        · exact (fQ t s hs).more (fun n hn=>by show n<st.k+1+nk;have:n<st.k:=hn;omega) (fun n hn=>by have:n<st.k:=hn;rw [hE3.old n (by omega),hold n hn]) hE3.mem
        · have hbl:b≠w.heap.size+1:=fun e=>by rw [e,hM3] at hv;cases hv
          have:=hS3.mem b o v hv
          simp only [World.cell?,World.putObj_heap_other hbl] at this ⊢
          exact this
        · have hn':lk F' n=some ob:=by
            have:=hn
            simp only [cR] at this
            split at this
            · cases this
            · exact this
          obtain ⟨q1,q2,q3⟩:=hS3.obs n ob hn'
          exact ⟨q1,q2.more (fun _ h=>h) (fun _ _=>rfl) (Mem.le_refl _) (fun ln=>World.putObj_heap_other (hnot n (by rw [hn];simp) ln)),q3⟩
        · refine hS3.inj n m (fun e=>hn ?_) (fun e=>hm ?_)
          · show lk (di F' st.k) n=none;rw [cR,e];split <;> rfl
          · show lk (di F' st.k) m=none;rw [cR,e];split <;> rfl
        · refine Ev.put ?_ _ (by have:=hE.size;omega)
          refine (((hE.trans hEB).trans hE3).rW fun n=> ?_).wN fun n hn e=>hn ?_
          · show _↔(k0≤n∧n<st.k+1+nk);omega
          · show lk (di F' st.k) n=none;rw [cR,e];split <;> rfl
      cases pe with
      | none=>exact ⟨_,hRQ,hSt'⟩
      | some c=>
        cases c <;> simp only [RQ] at hRQ <;> first
          | exact hRQ.elim
          | exact wpIn_ret ⟨_,hRQ,hSt'⟩
          | exact wpIn_exit ⟨_,hRQ,hSt'⟩
  all_goals (exfalso;split at hc <;> cases hc)
end
section
open Go.ChangeMaps (setBlock)
variable {P:Program}
theorem fT.mem {p:Nat→Prop}{μ:Nat→Nm}{M:Mem}:∀ {es:List (Nat×SV×SV)} {c_:List MapEntry},fT p μ M es c_→∀ x,x∈c_→∃ e,e∈es∧x.born=e.1∧Rp p μ M e.2.1 x.key∧Rp p μ M e.2.2 x.val
 | [],c_,h,x,hx=>by simp only [fT] at h;subst h;simp at hx
 | (b,k,v)::r,c_,h,x,hx=>by
  obtain ⟨e,es',rfl,h1,h2,h3,h4⟩:=h
  rcases List.mem_cons.1 hx with rfl | hx
  ·exact ⟨(b,k,v),by simp,h1,h2,h3⟩
  ·obtain ⟨e,he,h⟩:=fT.mem h4 x hx
   exact ⟨e,by simp [he],h⟩
theorem fT.mem' {p:Nat→Prop}{μ:Nat→Nm}{M:Mem}:∀ {es:List (Nat×SV×SV)} {c_:List MapEntry},fT p μ M es c_→∀ e,e∈es→∃ x,x∈c_∧x.born=e.1
 | [],c_,h,e,he=>by simp at he
 | (b,k,v)::r,c_,h,e,he=>by
  obtain ⟨x,es',rfl,h1,h2,h3,h4⟩:=h
  rcases List.mem_cons.1 he with rfl | he
  ·exact ⟨x,by simp,h1⟩
  ·obtain ⟨x',hx,h⟩:=fT.mem' h4 e he
   exact ⟨x',by simp [hx],h⟩
theorem Fb {op:Op}{x':X}(hc:cO P op=some (.jY x')):∃ it,op= .next it false∧cX it=some x':=by
 cases op <;> simp only [cO] at hc <;> try (cases hc;done)
 case next it s=>
  cases s
  ·simp only [Bool.false_eq_true,if_false] at hc
   obtain ⟨y,hy,e⟩:=Option.map_eq_some_iff.1 hc
   injection e with e;subst e
   exact ⟨it,rfl,hy⟩
  ·simp at hc
 all_goals (repeat' (first | contradiction | (cases hc;done) | (obtain ⟨_,_,hh⟩:=Option.map_eq_some_iff.1 hc;cases hh;done) | split at hc))
def GB (n m since:Nat)(seen:List Nat)(st:Nat)(es:List (Nat×SV×SV))(c:Nat)(r:SV)(F':Hp):Prop:=
 (r= .dM [.d (.bool false)]∧F'=[(n,.iter (some m) since seen st),(m,.map es c)]∧∀ e,e∈es→seen.contains e.1=true)∨
 ∃ e,e∈es∧seen.contains e.1=false∧r= .dM [.d (.bool true),e.2.1,e.2.2]∧F'=[(n,.iter (some m) since (seen++[e.1]) c),(m,.map es c)]
theorem B9 {o:Oper}{E:Nat→Option SV}{H:Nat→Option Ob}{k:Nat}{x':X}{n m since st c:Nat}{seen:List Nat}{es:List (Nat×SV×SV)}(hc:cO P o.op=some (.jY x'))(h1:ev E x'=some (.it n))
  (hH:H n=some (.iter (some m) since seen st)) (hM:H m=some (.map es c)) (hnm:n≠m) (hold:∀ e,e∈es→e.1<since) (hst:since≤st):
  lX P o E H k 0 [(n,.iter (some m) since seen st),(m,.map es c)] (GB n m since seen st es c):=by
 obtain ⟨it,ho,hx⟩:=Fb hc
 refine ⟨?_,?_⟩
 ·intro q ob hq
  rw [aa,bZ] at hq
  split at hq
  ·rename_i e;subst e;simp at hq;subst hq;exact hH
  ·split at hq
   ·rename_i e;subst e;simp at hq;subst hq;exact hM
   ·cases hq
 intro rd p μ M a w K QQ hnew hk hS hK
 have ln:lk [(n,Ob.iter (some m) since seen st),(m,.map es c)] n=some (.iter (some m) since seen st):=by simp [aa]
 have lm:lk [(n,Ob.iter (some m) since seen st),(m,.map es c)] m=some (.map es c):=by rw [aa,if_neg (fun h=>hnm h.symm),bZ,if_pos rfl]
 obtain ⟨hpn,⟨hlv,hpm,hb⟩,hMn⟩:=hS.obs n _ ln
 obtain ⟨hpm',⟨hlv2,c_,EF,hre⟩,hMm⟩:=hS.obs m _ lm
 simp only [Option.map_some] at hb
 have e1:=(hk.get (by simp [ho,Op.operands]) hx h1).Gv
 have hpk:∀ q,p q→(fun q=>p q∨(k≤q∧q<k+0)) q:=fun q hq=> .inl hq
 have hold':∀ x∈c_.toList,x.born<since:=fun x hx=>by
  obtain ⟨e,he,h,_⟩:=hre.mem x hx
  rw [h];exact hold e he
 rcases run_next_at (P:=P) w o.type (μ n).blk (μ m).blk since st seen.toArray c_ c hb EF hold' hst with ⟨h0,hrun⟩ | ⟨x,hx,w1,hw1,hrun⟩
 ·have hrun':(execOp a.eval o).run P w= .ok (.value (.tuple #[.bool false])) w:=by simp [execOp,ho,e1,hrun]
  refine gr hrun' (hK _ _ _ μ M w (.inl ⟨rfl,rfl,fun e he=> ?_⟩) ?_ (hS.more hpk) (Ev.refl _ _ _ _ _ fun q _ h=>by omega))
  ·obtain ⟨x,hx,hb'⟩:=hre.mem' e he
   have hnil:leftOf c_ seen.toArray= #[]:=Array.eq_empty_of_size_eq_zero h0
   unfold leftOf at hnil
   rw [Array.filter_eq_empty_iff] at hnil
   have:=hnil x (by simpa using hx)
   simpa [hb'] using this
  ·exact Rp.dP.2 ⟨_,rfl,aR.aF.2 ⟨_,_,rfl,Rp.bz.2 rfl,aR.aP.2 rfl⟩⟩
 ·have hx':x∈c_.toList∧seen.contains x.born=false:=by
   unfold leftOf at hx
   simpa using hx
  obtain ⟨e,he,hb',hrk,IE⟩:=hre.mem x hx'.1
  have hrun':(execOp a.eval o).run P w= .ok (.value (.tuple #[.bool true,x.key,x.val])) (setBlock w1 (μ n).blk (.mapIter (some (μ m).blk) since (seen.toArray.push x.born) c)):=by simp [execOp,ho,e1,hrun]
  have hh:w1.heap=w.heap:=by rcases hw1 with rfl | rfl <;> rfl
  have hsz:(setBlock w1 (μ n).blk (.mapIter (some (μ m).blk) since (seen.toArray.push x.born) c)).heap.size=w.heap.size:=by simp [setBlock,hh]
  have hoth:∀ b,b≠(μ n).blk→(setBlock w1 (μ n).blk (.mapIter (some (μ m).blk) since (seen.toArray.push x.born) c)).heap[b]? =w.heap[b]? :=fun b hb=>by
   simp [setBlock,hh,Array.getElem?_setIfInBounds_ne (Ne.symm hb)]
  have hsame:(setBlock w1 (μ n).blk (.mapIter (some (μ m).blk) since (seen.toArray.push x.born) c)).heap[(μ n).blk]? =some (.mapIter (some (μ m).blk) since (seen.toArray.push x.born) c):=by
   have:(μ n).blk<w.heap.size:=(Array.getElem?_eq_some_iff.1 hb).1
   simp [setBlock,hh,this]
  have hne:(μ m).blk≠(μ n).blk:=fun e=>hnm (hS.inj n m (by rw [ln];simp) (by rw [lm];simp) hlv hlv2 e.symm)
  refine gr hrun' (hK _ _ _ μ M _ (.inr ⟨e,he,by rw [← hb'];exact hx'.2,rfl,rfl⟩) ?_ ⟨⟨fun b o v hv=> ?_,hS.mem.j9⟩,fun q ob hq=> ?_,fun q q' hq hq' lq lq' ee=> ?_⟩ ⟨fun _ _=>rfl,Mem.le_refl _,fun b hb hf=>⟨hoth b fun ee=>hf n (by rw [ln];simp) hlv ee.symm,fun _=>rfl⟩,by rw [hsz];exact Nat.le_refl _,fun q hq=> ?_,?_,?_,?_⟩)
  ·exact (Rp.dP.2 ⟨_,rfl,aR.aF.2 ⟨_,_,rfl,Rp.bz.2 rfl,aR.aF.2 ⟨_,_,rfl,hrk,aR.aF.2 ⟨_,_,rfl,IE,aR.aP.2 rfl⟩⟩⟩⟩:Rp p μ M _ _).more hpk (fun _ _=>rfl) (Mem.le_refl _)
  ·have hbl:b≠(μ n).blk:=fun ee=>by rw [ee,hMn hlv] at hv;cases hv
   rw [← hS.mem b o v hv]
   unfold World.cell?
   rw [hoth b hbl]
  ·rw [aa,bZ] at hq
   split at hq
   ·rename_i e';subst e';simp at hq;subst hq
    refine ⟨.inl hpn,⟨hlv,fun q hq=> .inl (hpm q hq),?_⟩,hMn⟩
    simpa [hb'] using hsame
   ·split at hq
    ·rename_i e';subst e';simp at hq;subst hq
     refine ⟨.inl hpm',⟨hlv2,c_,(hoth _ hne).trans EF,hre.more hpk (fun _ _=>rfl) (Mem.le_refl _)⟩,hMm⟩
    ·cases hq
  ·have dom:∀ q,lk [(n,Ob.iter (some m) since (seen++[e.1]) c),(m,.map es c)] q≠none→lk [(n,Ob.iter (some m) since seen st),(m,.map es c)] q≠none:=fun q hq=>by
    rw [aa,bZ] at hq ⊢
    split at hq
    ·rename_i e';rw [if_pos e'];simp
    ·rename_i e';rw [if_neg e'];split at hq <;> simp_all
   exact hS.inj q q' (dom q hq) (dom q' hq') lq lq' ee
  ·refine .inr ⟨by omega,?_⟩
   rw [aa,bZ] at hq ⊢
   split at hq
   ·rename_i e';rw [if_pos e'];simp
   ·rename_i e';rw [if_neg e'];split at hq <;> simp_all
  ·rcases hw1 with rfl | rfl <;> rfl
  ·rcases hw1 with rfl | rfl
   ·exact ⟨rfl,Nat.le_refl _⟩
   ·exact ⟨rfl,Nat.le_succ _⟩
  ·rcases hw1 with rfl | rfl <;> rfl
theorem xq {o:Oper}{E:Nat→Option SV}{H:Nat→Option Ob}{k nk:Nat}{f:X}{args:List X}{nl:Nat}{as:List SV}{F:Hp}{Q:SV→Hp→Prop}(hc:cO P o.op=some (.call f args))
  (h1:ev E f=some (.yl nl)) (h2:oG E args=some as) (hF:lk F nl≠none) (Jh:SY P nl as F k nk Q) (hsub:∀ n ob,lk F n=some ob→H n=some ob):lX P o E H k nk F Q:=by
 obtain ⟨c,fo,hop,bR,hf,ha⟩:=pF hc
 exact ⟨hsub,fun rd p μ M a w K QQ hnew hk hS hK=>wZ hop bR hf ha h1 h2 hF Jh hnew hk hS hK⟩
theorem bw.yield {N k0:Nat}{st:St}{K:St→Prop}{d:Option Nat}{r:List SI}{f:X}{args:List X}{nl:Nat}{as:List SV}{F:Hp}{nk:Nat}{Q:SV→Hp→Prop}
  (h1:ev (fun t=>st.env.lookup t) f=some (.yl nl)) (h2:oG (fun t=>st.env.lookup t) args=some as) (hF:lk F nl≠none) (Jh:SY P nl as F st.k nk Q) (hsub:HSub F st.hp)
  (h:∀ v F',Q v F'→bw P N k0 r (kr st ⟨d,.call f args,none⟩ ⟨v,F,F',nk,True⟩) K):bw P N k0 (⟨d,.call f args,none⟩::r) st K:=
 bw.many rfl (fun o hc=>xq hc h1 h2 hF Jh hsub) rfl h
theorem bw.jY {N k0:Nat}{st:St}{K:St→Prop}{d:Option Nat}{r:List SI}{x:X}{n m since s c:Nat}{seen:List Nat}{es:List (Nat×SV×SV)}
  (h1:ev (fun t=>st.env.lookup t) x=some (.it n)) (hH:lk st.hp n=some (.iter (some m) since seen s)) (hM:lk st.hp m=some (.map es c)) (hnm:n≠m) (hold:∀ e,e∈es→e.1<since) (hs:since≤s)
  (h:∀ v F',GB n m since seen s es c v F'→bw P N k0 r (kr st ⟨d,.jY x,none⟩ ⟨v,[(n,.iter (some m) since seen s),(m,.map es c)],F',0,True⟩) K):bw P N k0 (⟨d,.jY x,none⟩::r) st K:=
 bw.many rfl (fun o hc=>B9 hc h1 hH hM hnm hold hs) rfl h
end
section
variable {P:Program}
theorem vb {args:List SV}{F:Hp}{k nk:Nat}{Q:SV→Hp→Prop}(q:Nat→Bool)(hao:SV.ay q args=true)(Bx:F.ok q=true)(hk:F.ok (fun n=>decide (n<k))=true)(GC:∀ n,q n=true→lk F n≠none)
    (hQ:∀ r F',Q r F'→r.ok (fun n=>decide (n<k+nk))=true→F'.ok (fun n=>decide (n<k+nk))=true→r.ok (fun n=>q n || (decide (k≤n) && decide (n<k+nk)))=true∧F'.ok (fun n=>q n || (decide (k≤n) && decide (n<k+nk)))=true)
    {p:Nat→Prop} {μ:Nat→Nm} {M:Mem} {w:World} {vals:Array Value} (hp:∀ n,(k≤n∧n<k+nk)→ ¬ p n) (hr:aR p μ M args vals.toList) (hS:bK p μ M (lk F) w):
    aR (· <k) μ M args vals.toList∧bK (· <k) μ M (lk F) w∧∀ e w',
      (∃ r F' aZ M' u,e=Ending.returned u∧Q r F'∧r.ok (fun n=>decide (n<k+nk))=true∧F'.ok (fun n=>decide (n<k+nk))=true∧cI aZ M' r u∧bK (· <k+nk) aZ M' (lk F') w'∧
        Ev (lk F) (fun n=>k≤n∧n<k+nk) μ M w (lk F') aZ M' w')→
      ∃ r F' aZ M' u,e=Ending.returned u∧Q r F'∧Rp (fun n=>p n∨(k≤n∧n<k+nk)) aZ M' r u∧bK (fun n=>p n∨(k≤n∧n<k+nk)) aZ M' (lk F') w'∧
        Ev (lk F) (fun n=>k≤n∧n<k+nk) μ M w (lk F') aZ M' w':=by
  have hlt:∀ n,q n=true→n<k:=fun n h=>by
    obtain ⟨ob,ho⟩:=Option.ne_none_iff_exists'.1 (GC n h)
    simpa using (Hp.dH hk ho).1
  have hqP:∀ n,q n=true→p n:=fun n h=>by
    obtain ⟨ob,ho⟩:=Option.ne_none_iff_exists'.1 (GC n h)
    exact (hS.obs n ob ho).1
  refine ⟨aR.zx hao hlt hr.ug,⟨hS.mem,fun n ob hn=> ?_,hS.inj⟩,?_⟩
  · obtain ⟨a1,a2⟩:=Hp.dH Bx hn
    obtain ⟨_,b1,b2⟩:=hS.obs n ob hn
    have hb':bW p (fun n=>μ (id n)) M w (μ n) (ob.aC id):=by rw [Ob.mM];exact b1
    exact ⟨hlt n a1,bW.to a2 hlt (fun _ _=>rfl) hb',b2⟩
  · rintro e w' ⟨r,F',aZ,M',u,rfl,hq,hr1,hr2,hru,rJ,hE⟩
    obtain ⟨h1,h2⟩:=hQ r F' hq hr1 hr2
    have hq2:∀ n,(q n || (decide (k≤n) && decide (n<k+nk)))=true→(p n∨(k≤n∧n<k+nk)):=fun n hn=>by
      simp only [Bool.or_eq_true,Bool.and_eq_true,decide_eq_true_eq] at hn
      exact hn.imp (hqP n) id
    refine ⟨r,F',aZ,M',u,rfl,hq,Rp.BT h1 hq2 hru,⟨rJ.mem,fun n ob hn=> ?_,rJ.inj⟩,hE⟩
    obtain ⟨a1,a2⟩:=Hp.dH h2 hn
    obtain ⟨_,b1,b2⟩:=rJ.obs n ob hn
    have hb':bW (· <k+nk) (fun n=>aZ (id n)) M' w' (aZ n) (ob.aC id):=by rw [Ob.mM];exact b1
    exact ⟨hq2 n a1,bW.to a2 hq2 (fun _ _=>rfl) hb',b2⟩
theorem SB.here {f:FuncId}{args:List SV}{F:Hp}{k nk:Nat}{Q:SV→Hp→Prop}(q:Nat→Bool)(h:SB P f args F k nk Q)(GC:∀ n,q n=true→lk F n≠none)(hao:SV.ay q args=true)(Bx:F.ok q=true)
  (hQ:∀ r F',Q r F'→r.ok (fun n=>decide (n<k+nk))=true→F'.ok (fun n=>decide (n<k+nk))=true→r.ok (fun n=>q n || (decide (k≤n) && decide (n<k+nk)))=true∧F'.ok (fun n=>q n || (decide (k≤n) && decide (n<k+nk)))=true):SC P f args F k nk Q:=by
 refine ⟨h.1,fun p μ M w vals hp hr hS=> ?_⟩
 obtain ⟨h1,h2,h3⟩:=vb q hao Bx h.2.2.1 GC hQ hp hr hS
 exact (h.2.2.2 μ M w vals h1 h2).mono h3
theorem wL.here {nl:Nat}{args:List SV}{F:Hp}{k nk:Nat}{Q:SV→Hp→Prop}(q:Nat→Bool)(h:wL P nl args F k nk Q)(GC:∀ n,q n=true→lk F n≠none)(hao:SV.ay q args=true)(Bx:F.ok q=true)
  (hQ:∀ r F',Q r F'→r.ok (fun n=>decide (n<k+nk))=true→F'.ok (fun n=>decide (n<k+nk))=true→r.ok (fun n=>q n || (decide (k≤n) && decide (n<k+nk)))=true∧F'.ok (fun n=>q n || (decide (k≤n) && decide (n<k+nk)))=true):SY P nl args F k nk Q:=by
 intro p μ M w vals hp _ hr hS
 obtain ⟨h1,h2,h3⟩:=vb q hao Bx h.2.1 GC hQ hp hr hS
 obtain ⟨fn,tmps,assign,body,hy,hround⟩:=h.2.2 μ M w vals h1 h2
 exact ⟨fn,tmps,assign,body,hy,hround.mono h3⟩
theorem SC.frame {f:FuncId}{args:List SV}{F H:Hp}{k nk:Nat}{Q:SV→Hp→Prop}(h:SC P f args F k nk Q)(hs:HSub F H):SC P f args H k nk fun r F'=>∃ F1,Q r F1∧F'=bV false H F F1:=by
 refine ⟨h.1,fun p μ M w vals hp hr hS=>(h.2 p μ M w vals hp hr (hS.sub hs)).mono ?_⟩
 rintro e w' ⟨r,F1,aZ,M',u,rfl,hq,hru,rJ,hE⟩
 obtain ⟨z1,z2⟩:=hS.yc hs hp hE rJ fun n h=> .inl h
 have hlk:lk (bV false H F F1)=ya (lk H) (lk F) (lk F1):=fA hs (fun h=>by cases h)
 exact ⟨r,_,aZ,M',u,rfl,⟨F1,hq,rfl⟩,hru,by rw [hlk];exact z1,by rw [hlk];exact z2⟩
theorem vc:∀ {h:Hp} {n:Nat} {ob:Ob},lk h n=some ob→gw h n ob=h
 | [],n,ob,h=>by simp [bt] at h
 | (m,o)::h,n,ob,hl=>by
  rw [aa] at hl
  simp only [gw]
  by_cases e:m=n
  ·subst e
   simp only [if_true] at hl ⊢
   injection hl with hl;rw [hl]
  ·rw [if_neg (fun h=>e h.symm)] at hl
   rw [if_neg e,vc hl]
theorem qI {h:Hp}{n:Nat}{ob:Ob}(hl:lk h n=some ob):fZ h n ob=h:=by
 unfold fZ;rw [hl];exact vc hl
theorem jG {h:Hp}{n:Nat}{o o':Ob}:fZ ((n,o)::h) n o'=(n,o')::h:=by
 have:lk ((n,o)::h) n=some o:=dA
 unfold fZ;rw [this];simp [gw]
theorem zD {h F F':Hp}:bV true h F F'=h:=rfl
def jq (es:List (Nat×SV×SV))(seen:List Nat):Nat:=(es.filter fun e=> !seen.contains e.1).length
theorem k_ {es:List (Nat×SV×SV)}{seen:List Nat}{e:Nat×SV×SV}(he:e∈es)(hs:seen.contains e.1=false):jq es (seen++[e.1])<jq es seen:=by
 induction es with
 | nil=>cases he
 | cons x es ih=>
  have hle:∀ l:List (Nat×SV×SV),jq l (seen++[e.1])≤jq l seen:=fun l=>by
   induction l with
   | nil=>exact Nat.le_refl _
   | cons y l ihl=>
    simp only [jq,List.filter,List.contains_append] at ihl ⊢
    cases h1:seen.contains y.1
    ·cases h2:[e.1].contains y.1
     ·simp only [Bool.or_self,Bool.not_false,List.length_cons];omega
     ·simp only [Bool.false_or,Bool.not_true,Bool.not_false,List.length_cons];omega
    ·simp only [Bool.true_or,Bool.not_true];omega
  rcases List.mem_cons.1 he with rfl | he
  ·have:=hle es
   simp only [jq,List.filter,List.contains_append,hs,Bool.false_or,List.contains_cons,List.contains_nil,BEq.rfl,Bool.true_or,Bool.not_true,Bool.not_false,List.length_cons] at this ⊢
   omega
  ·have:=ih he
   simp only [jq,List.filter,List.contains_append] at this ⊢
   cases h1:seen.contains x.1
   ·cases h2:[e.1].contains x.1
    ·simp only [Bool.or_self,Bool.not_false,List.length_cons];omega
    ·simp only [Bool.false_or,Bool.not_true,Bool.not_false,List.length_cons];omega
   ·simp only [Bool.true_or,Bool.not_true];omega
theorem Hp.dy {q q':Nat→Bool}(h:∀ n,q n=true→q' n=true){F:Hp}(hF:F.ok q=true):F.ok q'=true:=by
 unfold Hp.ok at hF ⊢
 rw [List.all_eq_true] at hF ⊢
 intro x hx
 have:=hF x hx
 simp only [Bool.and_eq_true] at this ⊢
 refine ⟨h _ this.1,?_⟩
 have h2:=this.2
 generalize x.2=ob at h2 ⊢
 cases ob <;> simp only [Ob.ok] at h2 ⊢
 ·exact SV.jg h _ h2
 ·exact SV.jg h _ h2
 ·rw [List.all_eq_true] at h2 ⊢
  intro e he
  have:=h2 e he
  simp only [Bool.and_eq_true] at this ⊢
  exact ⟨SV.eT h _ this.1,SV.eT h _ this.2⟩
 ·rename_i mo _ _ _
  cases mo with
  | none=>rfl
  | some n=>exact h n h2
 ·exact SV.jg h _ h2
theorem Hp.bE {k k':Nat}(h:k≤k'){F:Hp}(hF:F.ok (fun n=>decide (n<k))=true):F.ok (fun n=>decide (n<k'))=true:=Hp.dy (fun n hn=>by simp at hn ⊢;omega) hF
theorem Hp.out {k n:Nat}{F:Hp}(hF:F.ok (fun n=>decide (n<k))=true)(h:k≤n):lk F n=none:=by
 cases hh:lk F n with
 | none=>rfl
 | some ob=>have:=(Hp.dH hF hh).1;simp at this;omega
theorem uk.GD {k:Nat}{hp:Hp}:∀ {h:Hp},h.ok (fun n=>decide (n<k))=true→(∀ x,x∈h→lk hp x.1=some x.2)→uk id k hp h
 | [],_,_=>trivial
 | (n,ob)::r,hq,hl=>by
  unfold Hp.ok at hq
  simp only [List.all_cons,Bool.and_eq_true,decide_eq_true_eq] at hq
  refine ⟨?_,hq.1.1,hq.1.2,uk.GD (by unfold Hp.ok;exact hq.2) fun x hx=>hl x (by simp [hx])⟩
  rw [Ob.mM];exact hl (n,ob) (by simp)
theorem aJ.same {k0:Nat}{st st1:St}(h1:k0≤st1.k)(h2:aY id st1.k st.env st1.env)(h3:st1.hp.ok (fun n=>decide (n<st1.k))=true)(h4:∀ x,x∈st1.hp→lk st.hp x.1=some x.2):aJ k0 st st1 id:=
 ⟨h1,fun _ _=>rfl,h2,uk.GD h3 h4,fun _ _ _ _ e=>e⟩
theorem bA {x y:Nat}(h:x≠y):(x == y)=false∧(y == x)=false∧(x=y)=False∧(y=x)=False:=
 ⟨by simpa using h,by simpa using Ne.symm h,eq_false h,eq_false (Ne.symm h)⟩
inductive gV {α σ:Type}(Step:σ→α→σ→Prop)(s:σ):List α→σ→Prop where
 | nil:gV Step s [] s
 | snoc {xs:List α} {s' s'':σ} {x:α}:gV Step s xs s'→Step s' x s''→gV Step s (xs++[x]) s''
structure nR {α σ:Type}(P:Program)(y:Nat)(enc:α→SV)(aX:Nat)(Fh:σ→Hp)(Step:σ→α→σ→Prop)(go:σ→Bool)(s0:σ)(B:Nat):Prop where
 pK:∀ s,lk (Fh s) y≠none
 nd:∀ s x,x∈Fh s→lk (Fh s) x.1=some x.2
 call:∀ s xs x k,gV Step s0 xs s→xs.length<B→(Fh s).ok (fun n=>decide (n<k))=true→go s=true→SY P y [enc x] (Fh s) k aX fun r F'=>∃ s',Step s x s'∧r= .d (.bool (go s'))∧F'=Fh s'∧
  (Fh s').ok (fun n=>decide (n<k+aX))=true∧∀ n,lk (Fh s') n≠none→lk (Fh s) n≠none∨(k≤n∧n<k+aX)
section
variable {N k0:Nat} {st:St} {Q:Exit→St→Prop}
theorem SW.pL {it a b id:Nat}{bs:List Nat}{body:bX}{α:Type}(I:α→St)(m:α→Nat)(i0:α)(Hu:Nat→Nat)(s7 nm since zF c:α→Nat)(seen:α→List Nat)(es:α→List (Nat×SV×SV))
  (h0:aJ k0 st (I i0) Hu) (hit:∀ i,(I i).env.lookup it=some (.it (s7 i))) (hI:∀ i,lk (I i).hp (s7 i)=some (.iter (some (nm i)) (since i) (seen i) (zF i))) (hM:∀ i,lk (I i).hp (nm i)=some (.map (es i) (c i)))
  (hne:∀ i,s7 i≠nm i) (hold:∀ i e,e∈es i→e.1<since i) (hst:∀ i,since i≤zF i)
  (fin:∀ i,(∀ e,e∈es i→(seen i).contains e.1=true)→∃ st1 ρ,aJ k0 ⟨(b,.d (.bool false))::(a,.dM [.d (.bool false)])::(I i).env,(I i).hp,(I i).k⟩ st1 ρ∧Q (.exit id) st1)
  (step:∀ i e,e∈es i→(seen i).contains e.1=false→SW P N k0 body ⟨(b,.d (.bool true))::(a,.dM [.d (.bool true),e.2.1,e.2.2])::(I i).env,fZ (I i).hp (s7 i) (.iter (some (nm i)) (since i) (seen i++[e.1]) (c i)),(I i).k⟩
   fun ex st'=>match ex with | .normal=>∃ j ρ,m j<m i∧aJ k0 st' (I j) ρ | e=>Q e st'):
  SW P N k0 (.loop (.seq (.ey [⟨some a,.jY (.t it),none⟩,⟨some b,.ext 0 (.t a),none⟩] bs false) (.seq (.cond (.t b) .skip (.exit id)) body))) st Q:=by
 refine SW.loop I m i0 Hu h0 fun i=>SW.seq (SW.yu (bw.jY (hit i) (hI i) (hM i) (hne i) (hold i) (hst i) fun v F' hv=> ?_))
 have hmm:lk ([(s7 i,.iter (some (nm i)) (since i) (seen i) (zF i)),(nm i,.map (es i) (c i))]:Hp) (s7 i)=some (.iter (some (nm i)) (since i) (seen i) (zF i)):=by simp [aa]
 rcases hv with ⟨rfl,rfl,hall⟩ | ⟨e,he,hs,rfl,rfl⟩
 ·have hh:bV false (I i).hp [(s7 i,.iter (some (nm i)) (since i) (seen i) (zF i)),(nm i,.map (es i) (c i))] [(s7 i,.iter (some (nm i)) (since i) (seen i) (zF i)),(nm i,.map (es i) (c i))]=(I i).hp:=by
   have h1:(lk ([(s7 i,.iter (some (nm i)) (since i) (seen i) (zF i)),(nm i,.map (es i) (c i))]:Hp) (s7 i)).isSome=true:=by simp [aa]
   have h2:(lk ([(s7 i,.iter (some (nm i)) (since i) (seen i) (zF i)),(nm i,.map (es i) (c i))]:Hp) (nm i)).isSome=true:=by rw [aa];split <;> simp [aa]
   simp only [bV,dh,h1,h2,if_true,dg,Bool.false_eq_true,if_false]
   rw [qI (hM i),qI (hI i)]
  refine bw.runs (de:=[]) (st':=⟨(b,.d (.bool false))::(a,.dM [.d (.bool false)])::(I i).env,(I i).hp,(I i).k⟩) (ob:=True∧True) (ts:=[(true,[])]) ?_ ⟨trivial,trivial⟩ ?_
  ·simp only [Go.Sl.runs,eW,eV,cZ,kr,ev,List.lookup,BEq.rfl,cg,hh,Nat.add_zero,List.getElem?_cons_zero,zD,gh,List.map_nil,List.append_nil]
  ·obtain ⟨st1,ρ,hw,hq⟩:=fin i hall
   refine SW.seq (SW.cond (b:=false) ?_ (fun h=>by cases h) (fun _=>SW.weak ρ hw (SW.exit hq)))
   simp only [ev,List.lookup,BEq.rfl]
 ·have hh:bV false (I i).hp [(s7 i,.iter (some (nm i)) (since i) (seen i) (zF i)),(nm i,.map (es i) (c i))] [(s7 i,.iter (some (nm i)) (since i) (seen i++[e.1]) (c i)),(nm i,.map (es i) (c i))]=fZ (I i).hp (s7 i) (.iter (some (nm i)) (since i) (seen i++[e.1]) (c i)):=by
   have h1:(lk ([(s7 i,.iter (some (nm i)) (since i) (seen i++[e.1]) (c i)),(nm i,.map (es i) (c i))]:Hp) (s7 i)).isSome=true:=by simp [aa]
   have h2:(lk ([(s7 i,.iter (some (nm i)) (since i) (seen i++[e.1]) (c i)),(nm i,.map (es i) (c i))]:Hp) (nm i)).isSome=true:=by rw [aa];split <;> simp [aa]
   simp only [bV,dh,h1,h2,if_true,dg,Bool.false_eq_true,if_false]
   rw [qI (hM i)]
  refine bw.runs (de:=[]) (st':=⟨(b,.d (.bool true))::(a,.dM [.d (.bool true),e.2.1,e.2.2])::(I i).env,fZ (I i).hp (s7 i) (.iter (some (nm i)) (since i) (seen i++[e.1]) (c i)),(I i).k⟩) (ob:=True∧True) (ts:=[(true,[])]) ?_ ⟨trivial,trivial⟩ ?_
  ·simp only [Go.Sl.runs,eW,eV,cZ,kr,ev,List.lookup,BEq.rfl,cg,hh,Nat.add_zero,List.getElem?_cons_zero,zD,gh,List.map_nil,List.append_nil]
  ·refine SW.seq (SW.cond (b:=true) ?_ (fun _=>SW.skip ?_) (fun h=>by cases h))
   ·simp only [ev,List.lookup,BEq.rfl]
   ·exact step i e he hs
end
end
end Go.Sl
namespace Go.Sl
theorem aL.II (v:aL){r:Nat}(hr:r<8):(v.set r (v.get r+1)).count=v.count+1:=by
 match r,hr with
 | 0,_=>simp [aL.count,aL.set,aL.of,aL.get];omega
 | 1,_=>simp [aL.count,aL.set,aL.of,aL.get];omega
 | 2,_=>simp [aL.count,aL.set,aL.of,aL.get];omega
 | 3,_=>simp [aL.count,aL.set,aL.of,aL.get];omega
 | 4,_=>simp [aL.count,aL.set,aL.of,aL.get];omega
 | 5,_=>simp [aL.count,aL.set,aL.of,aL.get];omega
 | 6,_=>simp [aL.count,aL.set,aL.of,aL.get];omega
 | 7,_=>simp [aL.count,aL.set,aL.of,aL.get];omega
theorem r8 {P:Program}{d:Nat}{t:TypeId}{k:IntKind}{ds:List DV}(ht:P.underlying t=some (.int k))(h:Fit P (d+1) t ds):∃ n,ds=[.int k n]∧(Lit.int k n).wf=true:=by
 rw [Fit,ht] at h
 exact h
theorem wf_u32 {n:Int}(h:(Lit.int .u32 n).wf=true):∃ m:Nat,n=(m:Int)∧m<4294967296:=by
 simp [Lit.wf,IntKind.min,IntKind.max,IntKind.signed,IntKind.bits] at h
 exact ⟨n.toNat,by omega,by omega⟩
theorem wf_u64 {n:Int}(h:(Lit.int .u64 n).wf=true):∃ m:Nat,n=(m:Int)∧m<18446744073709551616:=by
 simp [Lit.wf,IntKind.min,IntKind.max,IntKind.signed,IntKind.bits] at h
 exact ⟨n.toNat,by omega,by omega⟩
theorem wf_u8 {n:Int}(h:(Lit.int .u8 n).wf=true):∃ m:Nat,n=(m:Int)∧m<256:=by
 simp [Lit.wf,IntKind.min,IntKind.max,IntKind.signed,IntKind.bits] at h
 exact ⟨n.toNat,by omega,by omega⟩
theorem wf_i64 {n:Int}(h:(Lit.int .i64 n).wf=true): -9223372036854775808≤n∧n<9223372036854775808:=by
 simp [Lit.wf,IntKind.min,IntKind.max,IntKind.signed,IntKind.bits] at h
 omega
theorem lZ {P:Program}{d:Nat}{t:TypeId}{ds:List DV}(ht:P.underlying t=some (.int .u32))(h:Fit P (d+1) t ds):∃ m:Nat,m<4294967296∧ds=[.int .u32 m]:=by
 obtain ⟨n,rfl,hw⟩:=r8 ht h
 obtain ⟨m,rfl,hm⟩:=wf_u32 hw
 exact ⟨m,hm,rfl⟩
theorem zG {P:Program}{d:Nat}{t:TypeId}{ds:List DV}(ht:P.underlying t=some (.int .u64))(h:Fit P (d+1) t ds):∃ m:Nat,m<18446744073709551616∧ds=[.int .u64 m]:=by
 obtain ⟨n,rfl,hw⟩:=r8 ht h
 obtain ⟨m,rfl,hm⟩:=wf_u64 hw
 exact ⟨m,hm,rfl⟩
theorem s8 {P:Program}{d:Nat}{t:TypeId}{ds:List DV}(ht:P.underlying t=some (.int .u8))(h:Fit P (d+1) t ds):∃ m:Nat,m<256∧ds=[.int .u8 m]:=by
 obtain ⟨n,rfl,hw⟩:=r8 ht h
 obtain ⟨m,rfl,hm⟩:=wf_u8 hw
 exact ⟨m,hm,rfl⟩
theorem zH {P:Program}{d:Nat}{t:TypeId}{ds:List DV}(ht:P.underlying t=some (.int .i64))(h:Fit P (d+1) t ds):∃ n:Int,(-9223372036854775808≤n∧n<9223372036854775808)∧ds=[.int .i64 n]:=by
 obtain ⟨n,rfl,hw⟩:=r8 ht h
 exact ⟨n,wf_i64 hw,rfl⟩
theorem s9 {ds:List DV}{o:Nat}{x:DV}(h:(ds.drop o).take 1=[x]):ds[o]? =some x:=by
 have:=congrArg (·[0]?) h
 simpa [List.getElem?_take] using this
theorem Fc {P:Program}{d:Nat}{t e:TypeId}{ds:List DV}(ht:P.underlying t=some (.array 8 e))(he:P.underlying e=some (.int .u32))(hc:P.cellsOf t=8)(hce:P.cellsOf e=1)(h:Fit P (d+2) t ds):∃ v:aL,v.wf∧ds=v.ds:=by
 rw [Fit,ht] at h
 dsimp only at h
 obtain ⟨hl,hi⟩:=h
 rw [hc] at hl
 rw [hce] at hi
 have key:∀ i,i<8→∃ m:Nat,m<4294967296∧ds[i]? =some (.int .u32 m):=fun i hlt=>by
  obtain ⟨m,hm,e1⟩:=lZ (d:=d) he (hi i hlt)
  exact ⟨m,hm,s9 (by simpa using e1)⟩
 obtain ⟨m0,h0,e0⟩:=key 0 (by omega)
 obtain ⟨m1,h1,e1⟩:=key 1 (by omega)
 obtain ⟨m2,h2,e2⟩:=key 2 (by omega)
 obtain ⟨m3,h3,e3⟩:=key 3 (by omega)
 obtain ⟨m4,h4,e4⟩:=key 4 (by omega)
 obtain ⟨m5,h5,e5⟩:=key 5 (by omega)
 obtain ⟨m6,h6,e6⟩:=key 6 (by omega)
 obtain ⟨m7,h7,e7⟩:=key 7 (by omega)
 refine ⟨⟨m0,m1,m2,m3,m4,m5,m6,m7⟩,fun r hr=> ?_,List.ext_getElem? fun i=> ?_⟩
 ·match r,hr with
  | 0,_=>exact h0
  | 1,_=>exact h1
  | 2,_=>exact h2
  | 3,_=>exact h3
  | 4,_=>exact h4
  | 5,_=>exact h5
  | 6,_=>exact h6
  | 7,_=>exact h7
 ·match i with
  | 0=>rw [e0];rfl
  | 1=>rw [e1];rfl
  | 2=>rw [e2];rfl
  | 3=>rw [e3];rfl
  | 4=>rw [e4];rfl
  | 5=>rw [e5];rfl
  | 6=>rw [e6];rfl
  | 7=>rw [e7];rfl
  | i+8=>rw [List.getElem?_eq_none (by omega),List.getElem?_eq_none (by simp [aL.ds])]
theorem bP {P:Program}{d:Nat}{t:TypeId}{fs:Array Field}{ds:List DV}(ht:P.underlying t=some (.struct fs))(h:Fit P (d+1) t ds)(i:Nat)(f:Field)(hf:fs[i]? =some f):
  Fit P d f.type ((ds.drop f.offset).take (P.cellsOf f.type)):=by
 rw [Fit,ht] at h
 dsimp only at h
 exact h.2 f (by simpa using Array.mem_of_getElem? hf)
theorem vS {P:Program}{d:Nat}{t:TypeId}{fs:Array Field}{ds:List DV}(ht:P.underlying t=some (.struct fs))(h:Fit P (d+1) t ds):ds.length=P.cellsOf t:=by
 rw [Fit,ht] at h
 dsimp only at h
 exact h.1
theorem Fe {P:Program}{d:Nat}{t:TypeId}{fs:Array Field}{fR fN:Field}{ds:List DV}(ht:P.underlying t=some (.struct fs))(h0:fs[0]? =some fR)(h1:fs[1]? =some fN)(o0:fR.offset=0)(o1:fN.offset=1)
  (t0:P.underlying fR.type=some (.int .u8)) (t1:P.underlying fN.type=some (.int .u32)) (hc:P.cellsOf t=2) (c0:P.cellsOf fR.type=1) (c1:P.cellsOf fN.type=1) (h:Fit P (d+2) t ds):∃ x:Dt,x.wf∧ds=x.ds:=by
 have f0:=bP ht h 0 fR h0
 have f1:=bP ht h 1 fN h1
 have hl:=vS ht h
 rw [hc] at hl
 rw [o0,c0] at f0
 rw [o1,c1] at f1
 obtain ⟨a,ha,ea⟩:=s8 t0 f0
 obtain ⟨b,hb,eb⟩:=lZ t1 f1
 have ea:=s9 ea
 have eb:=s9 eb
 refine ⟨⟨a,b⟩,⟨ha,hb⟩,List.ext_getElem? fun i=> ?_⟩
 match i with
 | 0=>rw [ea];rfl
 | 1=>rw [eb];rfl
 | i+2=>rw [List.getElem?_eq_none (by omega),List.getElem?_eq_none (by simp)]
theorem ve {P:Program}{d:Nat}{t e:TypeId}{ds:List DV}{α:Type}(f:α→List DV)(ok:α→Prop)(ht:P.underlying t=some (.slice e))(hp:∀ ds,Fit P d e ds→∃ x,ok x∧ds=f x)
  (h:Fit P (d+1) t ds):(ds=[.aU])∨∃ l:List α,(∀ x∈l,ok x)∧l.length≤9223372036854775807∧ds=[.sl l.length (l.flatMap f)]:=by
 rw [Fit,ht] at h
 dsimp only at h
 rcases h with h | ⟨n,cs,rfl,hn,hl,hi⟩
 ·exact .inl h
 ·refine .inr ?_
  have key:∀ k,k≤n→∃ l:List α,(∀ x∈l,ok x)∧l.length=k∧cs.take (k*P.cellsOf e)=l.flatMap f:=by
   intro k
   induction k with
   | zero=>intro _;exact ⟨[],by simp,rfl,by simp⟩
   | succ k ih=>
    intro hk
    obtain ⟨l,a1,a2,a3⟩:=ih (by omega)
    obtain ⟨x,b1,b2⟩:=hp _ (hi k hk)
    refine ⟨l++[x],fun y hy=> ?_,by simp [a2],?_⟩
    ·rcases List.mem_append.1 hy with h | h
     ·exact a1 y h
     ·simp at h;subst h;exact b1
    ·rw [Nat.succ_mul,List.take_add,a3,b2];simp
  obtain ⟨l,a1,a2,a3⟩:=key n (Nat.le_refl _)
  rw [List.take_of_length_le (by omega)] at a3
  exact ⟨l,a1,by omega,by rw [a2,a3]⟩
end Go.Sl
namespace Go.Sl
open Go.RowKit
section
structure Cm where
 line:Dt
 iK:Dt
 deriving DecidableEq
def Cm.ds (x:Cm):List DV:=x.line.ds++x.iK.ds
def Cm.wf (x:Cm):Prop:=x.line.wf∧x.iK.wf
@[simp] theorem vT (l:List Cm):(l.flatMap Cm.ds).length=l.length*4:=dw Cm.ds 4 (fun _=>rfl) l
def xu:List DV→List Cm
 | .int _ a:: .int _ b:: .int _ c:: .int _ d::r=>⟨⟨a.toNat,b.toNat⟩,⟨c.toNat,d.toNat⟩⟩::xu r
 | _=>[]
theorem s_:∀ l:List Cm,xu (l.flatMap Cm.ds)=l
 | []=>rfl
 | x::l=>by
  have:=s_ l
  show xu (.int .u8 x.line.r:: .int .u32 x.line.n:: .int .u8 x.iK.r:: .int .u32 x.iK.n::l.flatMap Cm.ds)=_
  rw [xu,this]
  rfl
def GF:DV→List Cm
 | .sl _ cs=>xu cs
 | _=>[]
theorem B_ (n:Nat)(l:List Cm):GF (.sl n (l.flatMap Cm.ds))=l:=s_ l
def ag.cl (o:ag):List Cm:=GF o.lines
structure ag.ow (o:ag):Prop where
 eq:o.lines= .sl o.cl.length (o.cl.flatMap Cm.ds)
 le:o.cl.length≤9223372036854775807
theorem ag.ow.of {o:ag}{l:List Cm}(h:o.lines= .sl l.length (l.flatMap Cm.ds))(hl:l.length≤9223372036854775807):o.ow∧o.cl=l:=by
 have e:o.cl=l:=by unfold ag.cl;rw [h];exact B_ _ _
 exact ⟨⟨by rw [e];exact h,by rw [e];exact hl⟩,e⟩
def vU:List (List Nat):=[[],[99,116,114,100,112],[99,97],[99,105,113,101],[99,97,113],[99,97],[99,97,118],[99,97,118],[99,108]]
def aS (kind:Nat):List Nat:=(vU[kind]?).getD []
def zeroV (s:List Nat)(o:ag)(nl:Nat):Bool:=(((((((((((decide (99∈s) || decide (o.aK=(⟨0,0⟩:Dt))) && (decide (116∈s) || ((o.to:Int) == 0))) && (decide (114∈s) || ((o.bp:Int) == 0))) && (decide (100∈s) || ((o.depth:Int) == 0))) && (decide (112∈s) || ((o.cap:Int) == 0))) && (decide (97∈s) || decide (o.at_=(⟨0,0⟩:Dt)))) && (decide (118∈s) || decide (o.iK=(⟨0,0⟩:Dt)))) && (decide (105∈s) || ((o.item:Int) == 0))) && (decide (113∈s) || ((o.r7:Int) == 0))) && (decide (101∈s) || ((o.eu:Int) == 0))) && (decide (108∈s) || ((nl:Int) == 0)))
def Hx (o:ag)(x:Cm)(pre:List Cm):Bool:=o.dep.bB x.line && o.dep.bB x.iK && pre.all fun y=> !decide (y.line=x.line)
def Ff (o:ag)(cl:List Cm)(i:Nat):Bool:=match cl[i]? with
 | some x=>Hx o x (cl.take i)
 | none=>true
def iN (o:ag)(cl:List Cm):Bool:=decide (1≤cl.length∧cl.length≤16) && (List.range cl.length).all (Ff o cl)
structure Form (n:Nat)(o:ag):Prop where
 r:o.dot.r<n
 pos:0<o.dot.n
 own:o.dep.get o.dot.r+1=o.dot.n
 t1:1≤o.time
 t2:o.time≤281474976710656
 who:0<o.who
 kind:o.kind≤8
 zero:zeroV (aS o.kind) o o.cl.length=true
 Gp:∀ r,n≤r→r<8→o.dep.get r=0
 gen:o.kind=0→o.aG=o.dot
 aG:o.kind≠0→o.dep.bB o.aG=true
 aK:99∈aS o.kind→o.dep.bB o.aK=true
 at_:97∈aS o.kind→o.dep.bB o.at_=true
 iK:118∈aS o.kind→o.dep.bB o.iK=true
 xw:116∈aS o.kind→0<o.to∧1≤o.bp∧o.bp≤7∧o.depth≤7∧o.cap≤1099511627776
 r7:113∈aS o.kind→1≤o.r7∧o.r7≤65535
 eu:o.eu≤16777215
 lines:108∈aS o.kind→iN o o.cl=true
open Classical in
noncomputable def gj (n:Int)(o:ag):Int:=if n<1∨8<n then 2 else if Form n.toNat o then 0 else 5
theorem dX {n:Int}{o:ag}:gj n o=0↔1≤n∧n≤8∧Form n.toNat o:=by
 unfold gj
 by_cases h:n<1∨8<n
 ·rw [if_pos h];constructor
  ·intro h;cases h
  ·intro hh;omega
 ·rw [if_neg h]
  by_cases hf:Form n.toNat o
  ·rw [if_pos hf];exact ⟨fun _=>⟨by omega,by omega,hf⟩,fun _=>rfl⟩
  ·rw [if_neg hf];exact ⟨fun h=>(by cases h),fun h=>absurd h.2.2 hf⟩
def ag.lt (a b:ag):Bool:=decide (a.time<b.time∨a.time=b.time∧(a.dot.r<b.dot.r∨a.dot.r=b.dot.r∧a.dot.n<b.dot.n))
theorem ag.lt_iff {a b:ag}:a.lt b=true↔a.time<b.time∨a.time=b.time∧(a.dot.r<b.dot.r∨a.dot.r=b.dot.r∧a.dot.n<b.dot.n):=by simp [ag.lt]
theorem ag.lt_irrefl (a:ag):a.lt a=false:=by rw [Bool.eq_false_iff];intro h;rw [ag.lt_iff] at h;omega
theorem ag.lt_trans {a b c:ag}(h:a.lt b=true)(k:b.lt c=true):a.lt c=true:=by rw [ag.lt_iff] at *;omega
theorem ag.lt_asymm {a b:ag}(h:a.lt b=true):b.lt a=false:=by rw [Bool.eq_false_iff];intro k;rw [ag.lt_iff] at *;omega
theorem ag.xx {a b:ag}(h:a.dot≠b.dot):a.lt b=true∨b.lt a=true:=by
 rw [ag.lt_iff,ag.lt_iff]
 have:a.dot.r≠b.dot.r∨a.dot.n≠b.dot.n:=by
  rcases Nat.decEq a.dot.r b.dot.r with hr | hr
  ·exact .inl hr
  ·rcases Nat.decEq a.dot.n b.dot.n with hn | hn
   ·exact .inr hn
   ·exfalso;apply h
    cases ha:a.dot;cases hb:b.dot
    rw [ha,hb] at hr hn
    cases hr;cases hn;rfl
 omega
def tc (a b:ag):Int:=if a.lt b then -1 else if b.lt a then 1 else 0
theorem zI {a b:ag}:0<tc a b↔b.lt a=true:=by
 unfold tc
 by_cases h:a.lt b=true
 ·simp [h,ag.lt_asymm h]
 ·by_cases k:b.lt a=true <;> simp [h,k]
def ag.le (a b:ag):Bool:= !b.lt a
theorem ag.le_iff {a b:ag}:ag.le a b=true↔a.time<b.time∨a.time=b.time∧(a.dot.r<b.dot.r∨a.dot.r=b.dot.r∧a.dot.n≤b.dot.n):=by
 unfold ag.le
 rw [Bool.not_eq_true',Bool.eq_false_iff,ne_eq,ag.lt_iff]
 omega
def aD (l:List ag)(d:Dt):Option ag:=l.find? fun o=>decide (o.dot=d)
def fK (l:List ag)(d:Dt):Nat:=l.countP fun o=>decide (o.dot=d)
theorem AJ (l:List ag)(x:ag)(d:Dt):fK (l++[x]) d=if x.dot=d then fK l d+1 else fK l d:=by
 unfold fK
 rw [List.countP_append]
 by_cases h:x.dot=d <;> simp [h]
theorem Ca {l:List ag}{d:Dt}:0<fK l d↔∃ o,o∈l∧o.dot=d:=by
 unfold fK
 rw [List.countP_pos_iff]
 simp
theorem cT {l:List ag}{d:Dt}{o:ag}(h:aD l d=some o):o∈l∧o.dot=d:=by
 unfold aD at h
 have h2:=List.find?_some h
 simp only [decide_eq_true_eq] at h2
 exact ⟨List.mem_of_find?_eq_some h,h2⟩
theorem iO {l:List ag}{d:Dt}:aD l d=none↔∀ o,o∈l→o.dot≠d:=by
 unfold aD
 rw [List.find?_eq_none]
 simp
theorem pM {l:List ag}{d:Dt}:(aD l d).isSome=true↔∃ o,o∈l∧o.dot=d:=by
 cases h:aD l d with
 | none=>
  rw [iO] at h
  constructor
  ·intro h;cases h
  ·rintro ⟨o,ho,e⟩;exact absurd e (h o ho)
 | some o=>exact ⟨fun _=>⟨o,cT h⟩,fun _=>rfl⟩
def fL (l:List ag):Prop:=(l.map (·.dot)).Nodup
theorem fL.inj {l:List ag}(h:fL l){a b:ag}(ha:a∈l)(hb:b∈l)(e:a.dot=b.dot):a=b:=by
 induction l with
 | nil=>cases ha
 | cons x l ih=>
  unfold fL at h
  rw [List.map_cons,List.nodup_cons] at h
  rcases List.mem_cons.1 ha with ea | ha'
  ·rcases List.mem_cons.1 hb with eb | hb'
   ·rw [ea,eb]
   ·exact absurd (List.mem_map.2 ⟨b,hb',by rw [← e,ea]⟩) h.1
  ·rcases List.mem_cons.1 hb with eb | hb'
   ·exact absurd (List.mem_map.2 ⟨a,ha',by rw [e,eb]⟩) h.1
   ·exact ih h.2 ha' hb'
theorem fL.find {l:List ag}(h:fL l){o:ag}(ho:o∈l):aD l o.dot=some o:=by
 cases hf:aD l o.dot with
 | none=>exact absurd rfl (iO.1 hf o ho)
 | some x=>
  obtain ⟨h1,h2⟩:=cT hf
  rw [h.inj h1 ho h2]
theorem fL.perm {l m:List ag}(h:fL l)(hp:m.Perm l):fL m:=(hp.map _).nodup_iff.2 h
theorem fL.sub {l m:List ag}(h:fL l)(hs:m.Sublist l):fL m:=List.Nodup.sublist (hs.map _) h
theorem fL.Cb {l m:List ag}(h:fL l)(hp:m.Perm l)(d:Dt):aD m d=aD l d:=by
 cases hf:aD l d with
 | none=>exact iO.2 fun o ho=>iO.1 hf o (hp.mem_iff.1 ho)
 | some o=>
  obtain ⟨h1,rfl⟩:=cT hf
  exact (h.perm hp).find (hp.mem_iff.2 h1)
theorem fL.cnt {l:List ag}(h:∀ o,o∈l→fK l o.dot=1):fL l:=by
 induction l with
 | nil=>exact List.nodup_nil
 | cons x l ih=>
  have hc:∀ (o:ag),fK (x::l) o.dot=fK l o.dot+if x.dot=o.dot then 1 else 0:=fun o=>by
   unfold fK;rw [List.countP_cons];simp
  have h0:fK l x.dot=0:=by
   have:=h x (by simp)
   rw [hc] at this;simp at this;exact this
  have hx:∀ o,o∈l→o.dot≠x.dot:=fun o ho e=>by
   have:0<fK l x.dot:=Ca.2 ⟨o,ho,e⟩
   omega
  refine List.nodup_cons.2 ⟨fun hm=> ?_,ih fun o ho=> ?_⟩
  ·obtain ⟨o,ho,e⟩:=List.mem_map.1 hm
   exact hx o ho e
  ·have:=h o (List.mem_cons_of_mem _ ho)
   rw [hc,if_neg fun e=>hx o ho e.symm] at this
   omega
def mO:List ag→List ag
 | []=>[]
 | x::l=>x::(mO l).filter fun o=> !decide (o.dot=x.dot)
theorem xy {l:List ag}{o:ag}:o∈mO l↔aD l o.dot=some o:=by
 induction l with
 | nil=>simp [mO,aD]
 | cons x l ih=>
  simp only [mO,List.mem_cons,List.mem_filter,ih]
  unfold aD
  rw [List.find?_cons]
  by_cases e:x.dot=o.dot
  ·simp only [e,decide_true]
   constructor
   ·rintro (rfl | ⟨_,h⟩)
    ·rfl
    ·simp [e.symm] at h
   ·intro h;injection h with h;exact .inl h.symm
  ·simp only [e,decide_false]
   constructor
   ·rintro (rfl | ⟨h,_⟩)
    ·exact absurd rfl e
    ·exact h
   ·intro h;exact .inr ⟨h,by simp;exact fun h=>e h.symm⟩
theorem nS:∀ l:List ag,fL (mO l)
 | []=>List.nodup_nil
 | x::l=>by
  refine List.nodup_cons.2 ⟨fun hm=> ?_,(nS l).sub List.filter_sublist⟩
  obtain ⟨o,ho,e⟩:=List.mem_map.1 hm
  simp only [List.mem_filter] at ho
  simp [e] at ho
theorem vf (l:List ag)(x:ag):mO (l++[x])=if (aD l x.dot).isSome then mO l else mO l++[x]:=by
 induction l with
 | nil=>rfl
 | cons y l ih=>
  simp only [List.cons_append,mO,ih]
  have hf:aD (y::l) x.dot=if y.dot=x.dot then some y else aD l x.dot:=by
   unfold aD;rw [List.find?_cons]
   by_cases e:y.dot=x.dot <;> simp [e]
  rw [hf]
  by_cases e:y.dot=x.dot
  ·rw [if_pos e]
   by_cases hs:(aD l x.dot).isSome=true
   ·rw [if_pos hs];rfl
   ·rw [if_neg hs]
    simp [List.filter_append,e.symm]
  ·rw [if_neg e]
   by_cases hs:(aD l x.dot).isSome=true
   ·rw [if_pos hs,if_pos hs]
   ·rw [if_neg hs,if_neg hs,List.filter_append]
    have:decide (x.dot=y.dot)=false:=decide_eq_false fun h=>e h.symm
    simp [this]
theorem td:∀ l:List ag,(mO l).Sublist l
 | []=> .slnil
 | x::l=>(List.filter_sublist.trans (td l)).cons_cons x
theorem fL.fst:∀ {l:List ag},fL l→mO l=l
 | [],_=>rfl
 | x::l,h=>by
  unfold fL at h
  rw [List.map_cons,List.nodup_cons] at h
  simp only [mO,fL.fst h.2]
  congr 1
  rw [List.filter_eq_self]
  intro o ho
  simp only [Bool.not_eq_true',decide_eq_false_iff_not]
  exact fun e=>h.1 (List.mem_map.2 ⟨o,ho,e⟩)
def vg (l:List ag):Prop:=l.Pairwise fun a b=>a.lt b=true
theorem vg.unique {l m:List ag}(h1:vg l)(h2:vg m)(h:l.Perm m):l=m:=
 h.eq_of_pairwise (fun a b _ _ h1 h2=>by rw [ag.lt_asymm h1] at h2;cases h2) h1 h2
def nT (l:List ag):List ag:=l.mergeSort ag.le
theorem pN (l:List ag):(nT l).Perm l:=List.mergeSort_perm l ag.le
theorem yw (l:List ag):(nT l).Pairwise fun a b=>ag.le a b=true:=
 List.pairwise_mergeSort (fun a b c h k=>by rw [ag.le_iff] at *;omega) (fun a b=>by
  rw [Bool.or_eq_true,ag.le_iff,ag.le_iff];omega) l
theorem uo {l:List ag}(h:fL l):vg (nT l):=by
 have h1:=yw l
 have h2:fL (nT l):=h.perm (pN l)
 unfold fL List.Nodup at h2
 rw [List.pairwise_map] at h2
 refine List.Pairwise.imp₂ (fun a b hab hne=> ?_) h1 h2
 rcases ag.xx hne with h | h
 ·exact h
 ·unfold ag.le at hab;rw [h] at hab;cases hab
def aT (l:List ag):List ag:=nT (mO l)
theorem iP (l:List ag):(aT l).Perm (mO l):=pN _
theorem mP (l:List ag):vg (aT l):=uo (nS l)
theorem fL.tf {l:List ag}(h:fL l):(aT l).Perm l:=by
 have:=iP l
 rwa [h.fst] at this
theorem Cc {l s:List ag}(hr:vg s)(hp:s.Perm (mO l)):s=aT l:=hr.unique (mP l) (hp.trans (iP l).symm)
theorem AK {l:List ag}{o:ag}:o∈aT l↔aD l o.dot=some o:=by rw [(iP l).mem_iff,xy]
theorem vh (l:List ag):(aT l).length≤l.length:=by rw [(iP l).length_eq];exact (td l).length_le
theorem yx {t:List ag}{x:ag}(h:(aD t x.dot).isSome=true):aT (t++[x])=aT t:=by
 unfold aT
 rw [vf,if_pos h]
theorem rB (t:List ag)(d:Dt):aD (aT t) d=aD t d:=by
 rw [fL.Cb (nS t) (iP t)]
 cases hf:aD t d with
 | none=>
  rw [iO] at hf ⊢
  exact fun o ho=>hf o ((td t).subset ho)
 | some o=>
  obtain ⟨_,rfl⟩:=cT hf
  exact (nS t).find (xy.2 hf)
theorem AL {t:List ag}{x:ag}(hn:aD t x.dot=none){k:Nat}(h1:∀ j y,(aT t)[j]? =some y→k≤j→x.lt y=true)(h2:∀ y,0<k→(aT t)[k - 1]? =some y→x.lt y=false)(hk:k≤(aT t).length):
  aT (t++[x])=(aT t).take k++x::(aT t).drop k:=by
 symm
 have hr:=mP t
 have hdot:∀ y,y∈aT t→y.dot≠x.dot:=by
  rw [← rB,iO] at hn
  exact hn
 refine Cc ?_ ?_
 ·have hsplit:(aT t).Pairwise fun a b=>a.lt b=true:=hr
  rw [← List.take_append_drop k (aT t),List.pairwise_append] at hsplit
  obtain ⟨ha,hb,hab⟩:=hsplit
  refine List.pairwise_append.2 ⟨ha,List.pairwise_cons.2 ⟨fun y hy=> ?_,hb⟩,fun y hy z hz=> ?_⟩
  ·obtain ⟨j,hj⟩:=List.mem_iff_getElem?.1 hy
   rw [List.getElem?_drop] at hj
   exact h1 _ y hj (by omega)
  ·have hyx:y.lt x=true:=by
    obtain ⟨j,hj⟩:=List.mem_iff_getElem?.1 hy
    have hjk:j<k:=by
     have:=bu hj
     rw [List.length_take] at this;omega
    rw [List.getElem?_take_of_lt hjk] at hj
    obtain ⟨q,hq⟩:=br (show k - 1<(aT t).length by omega)
    have h3:=h2 q (by omega) hq
    have h4:x.lt y=false:=by
     rcases Nat.lt_or_ge j (k - 1) with h5 | h5
     ·have h6:=List.pairwise_iff_getElem.1 hr j (k - 1) (bu hj) (bu hq) h5
      rw [List.getElem?_eq_getElem (bu hj)] at hj
      rw [List.getElem?_eq_getElem (bu hq)] at hq
      injection hj with hj;injection hq with hq
      rw [hj,hq] at h6
      rw [Bool.eq_false_iff]
      intro h7
      rw [ag.lt_trans h7 h6] at h3;cases h3
     ·have:j=k - 1:=by omega
      subst this
      rw [hj] at hq;injection hq with hq;subst hq;exact h3
    rcases ag.xx (hdot y (List.mem_of_getElem? hj)) with h5 | h5
    ·exact h5
    ·rw [h5] at h4;cases h4
   rcases List.mem_cons.1 hz with rfl | hz
   ·exact hyx
   ·obtain ⟨j,hj⟩:=List.mem_iff_getElem?.1 hz
    rw [List.getElem?_drop] at hj
    exact ag.lt_trans hyx (h1 _ z hj (by omega))
 ·rw [vf,if_neg (by rw [hn];simp)]
  refine (List.perm_middle.trans ?_).trans (List.perm_append_comm (l₁:=[x]) (l₂:=mO t))
  rw [List.take_append_drop]
  exact (iP t).cons x
structure rC (l:List ag)(o:ag):Prop where
 self:fK l o.dot=1
 prev:1<o.dot.n→fK l ⟨o.dot.r,o.dot.n - 1⟩=1
 deps:∀ r,r<8→0<o.dep.get r→fK l ⟨r,o.dep.get r⟩=1
 r9:∀ a,a∈l→a.before o=true→a.time<o.time∧o.dep.above a.dep=true
open Classical in
noncomputable def mz (n:Int)(l:List ag):Int:=
 if n<1∨8<n then 2 else if ∀ o,o∈l→Form n.toNat o then if ∀ o,o∈l→rC l o then 0 else 9 else 5
structure vV (n:Int)(l:List ag):Prop where
 n1:1≤n
 n8:n≤8
 form:∀ o,o∈l→Form n.toNat o
 one:∀ o,o∈l→rC l o
theorem tg {n:Int}{l:List ag}:mz n l=0↔vV n l:=by
 unfold mz
 by_cases h:n<1∨8<n
 ·rw [if_pos h];constructor
  ·intro h;cases h
  ·intro hh;have:=hh.n1;have:=hh.n8;omega
 ·rw [if_neg h]
  by_cases hf:∀ o,o∈l→Form n.toNat o
  ·rw [if_pos hf]
   by_cases ho:∀ o,o∈l→rC l o
   ·rw [if_pos ho];exact ⟨fun _=>⟨by omega,by omega,hf,ho⟩,fun _=>rfl⟩
   ·rw [if_neg ho];exact ⟨fun h=>(by cases h),fun h=>absurd h.one ho⟩
  ·rw [if_neg hf];exact ⟨fun h=>(by cases h),fun h=>absurd h.form hf⟩
theorem vV.uniq {n:Int}{l:List ag}(h:vV n l):fL l:=fL.cnt fun o ho=>(h.one o ho).self
theorem vV.lt {n:Int}{l:List ag}(h:vV n l){a o:ag}(ha:a∈l)(ho:o∈l)(hb:a.before o=true):a.lt o=true:=by
 rw [ag.lt_iff];exact .inl ((h.one o ho).r9 a ha hb).1
end
section
def nz:DV→DV
 | .aU=> .sl 0 []
 | x=>x
theorem bQ.nz {M:Mem}{v:Value}{x:DV}(h:bQ M x v):bQ M (Go.Sl.nz x) v:=by
 cases x with
 | aU=>exact h.nt
 | _=>exact h
theorem cQ.nz {M:Mem}{b:Nat}:∀ (cs:List DV) (o:Nat),cQ M b o cs→cQ M b o (cs.map Go.Sl.nz)
 | [],o,h=>by simp [cQ]
 | c::cs,o,h=>by
  simp only [cQ,List.map_cons] at h ⊢
  obtain ⟨⟨u,h1,h2⟩,h3⟩:=h
  exact ⟨⟨u,h1,h2.nz⟩,cQ.nz cs (o+1) h3⟩
theorem bQ.Ld {M:Mem}{v:Value}{n:Nat}{cs:List DV}(h:bQ M (.sl n cs) v):bQ M (.sl n (cs.map Go.Sl.nz)) v:=by
 simp only [bQ] at h ⊢
 obtain ⟨A,c,h1,h2,h3,h4⟩:=h
 refine ⟨A,c,h1,h2,fun hn=>by rw [h3 hn];rfl,fun hn=> ?_⟩
 obtain ⟨b,o,h5,h6⟩:=h4 hn
 exact ⟨b,o,h5,cQ.nz cs o h6⟩
theorem Fg {p:Nat→Prop}{μ:Nat→Nm}{M:Mem}{n:Nat}{cs:List DV}{r r':List SV}(hr:∀ vs,aR p μ M r' vs→aR p μ M r vs)(vs:List Value)(h:aR p μ M (.d (.sl n cs)::r') vs):aR p μ M (.d (.sl n (cs.map Go.Sl.nz))::r) vs:=by
 obtain ⟨u,us,rfl,h1,h2⟩:=aR.aF.1 h
 exact aR.aF.2 ⟨u,us,rfl,Rp.cu.2 (Rp.cu.1 h1).Ld,hr us h2⟩
theorem xz {p:Nat→Prop}{μ:Nat→Nm}{M:Mem}{r r':List SV}(hr:∀ vs,aR p μ M r' vs→aR p μ M r vs)(vs:List Value)(h:aR p μ M (.d .aU::r') vs):aR p μ M (.d (.sl 0 [])::r) vs:=by
 obtain ⟨u,us,rfl,h1,h2⟩:=aR.aF.1 h
 exact aR.aF.2 ⟨u,us,rfl,nt p μ M u h1,hr us h2⟩
def ag.nz (o:ag):ag:={ o with lines:=Go.Sl.nz o.lines}
theorem ag.Ji (o:ag):o.nz.ds=o.ds.map Go.Sl.nz:=rfl
theorem Cd (l:List ag):((l.map ag.nz).flatMap ag.ds)=(l.flatMap ag.ds).map Go.Sl.nz:=by
 induction l with
 | nil=>rfl
 | cons o l ih=>simp only [List.map_cons,List.flatMap_cons,List.map_append,ih,ag.Ji]
theorem l5 {ds x:List DV}{a n b:Nat}(h:(ds.drop a).take n=x)(hb:a+n=b):ds.drop a=x++ds.drop b:=by
 rw [← h,← hb,← List.drop_drop,List.take_append_drop]
end
section
variable {P:Program}
theorem bw.Jj {N k0:Nat}{st:St}{K:St→Prop}{si:SI}{r:List SI}{t:Nat}{b:Bool}{F:Hp}{nk:Nat}{Q:SV→Hp→Prop}(hg:si.g=some (t,b))(KL:st.env.lookup t=some (.d (.bool b)))(hq:∀ o:Oper,cO P o.op=some si.op→lX P o (fun t=>st.env.lookup t) (lk st.hp) st.k nk F Q)
  (hro:cg si.op=false) (h:∀ v F',Q v F'→bw P N k0 r (kr st si ⟨v,F,F',nk,True⟩) K):bw P N k0 (si::r) st K:=by
 refine bw.cons fun ops o hc hN rd cE M0 w0 c0 a w eO i ho Q' KK B7=> ?_
 obtain ⟨g1,g2,g3⟩:=fI hc
 obtain ⟨mH,hdf,hsz,μ,M,fQ,hS,hE⟩:=eO
 have eO:gH N cE M0 w0 c0 k0 st a w:=⟨mH,hdf,hsz,μ,M,fQ,hS,hE⟩
 have hw:Region.wanted o (yielded ops a.tmps)=true:=by
  rcases g3 with ⟨_,h'⟩ | ⟨j,w,t',hg',hd,h'⟩
  ·rw [hg] at h';cases h'
  ·rw [hg] at h'
   injection h' with h'
   injection h' with e1 e2
   subst e1;subst e2
   have hv:=Rp.bz.1 (fQ t _ KL)
   simp only [Region.wanted,hg',gD hd hv]
   simp
 unfold wpOpIn
 simp only [ho,hw,if_true]
 exact (gH.step g2 (fun d hd=>hN d (by rw [g2];exact hd)) (hq o g1) (fun v F' _ hr=>by rw [hro] at hr;cases hr) eO fun v F' hQ a' w' hSt'=>B7 _ a' w' (h v F' hQ) hSt')
theorem bw.vW {N k0:Nat}{st:St}{K:St→Prop}{d:Option Nat}{r:List SI}{f:X}{args:List X}{t:Nat}{b:Bool}{nl:Nat}{as:List SV}{F:Hp}{nk:Nat}{Q:SV→Hp→Prop}(KL:st.env.lookup t=some (.d (.bool b)))
  (h1:ev (fun t=>st.env.lookup t) f=some (.yl nl)) (h2:oG (fun t=>st.env.lookup t) args=some as) (hF:lk F nl≠none) (Jh:SY P nl as F st.k nk Q) (hsub:HSub F st.hp)
  (h:∀ v F',Q v F'→bw P N k0 r (kr st ⟨d,.call f args,some (t,b)⟩ ⟨v,F,F',nk,True⟩) K):bw P N k0 (⟨d,.call f args,some (t,b)⟩::r) st K:=
 bw.Jj rfl KL (fun o hc=>xq hc h1 h2 hF Jh hsub) rfl h
theorem gH.th {N k0:Nat}{st:St}{cE:Nat→Nm}{M0:Mem}{w0:World}{c0:Nat→Option Ob}{a:Act}{w:World}(x ty:Nat)(e sz:Nat)(ht:lk st.hp x=some (.box ty [.d .aU]))(h:gH N cE M0 w0 c0 k0 st a w):
    gH N cE M0 w0 c0 k0 ⟨st.env,(x,.box ty [.gs st.k 0])::(st.k,.arr e sz 0 [])::st.hp,st.k+1⟩ a w:=by
  obtain ⟨mH,hdf,hsz,μ,M,fQ,hS,hE⟩:=h
  have hmu:=uB (μ:=μ) (m:=⟨0,0,false⟩) (p:=(· <st.k)) (k:=st.k) (Nat.lt_irrefl _)
  have hup:∀ n,n<st.k→n<st.k+1:=fun n h=>by omega
  have hlt:∀ n ob,lk st.hp n=some ob→n<st.k:=fun n ob h=>(hS.obs n ob h).1
  have hxk:=hlt x _ ht
  have hne:∀ n,n≠st.k→lk ((x,.box ty [.gs st.k 0])::(st.k,.arr e sz 0 [])::st.hp) n≠none→lk st.hp n≠none:=fun n h1 h2=>by
    rw [aa] at h2
    split at h2
    · rename_i e1;rw [e1,ht];simp
    · rw [aa,if_neg h1] at h2;exact h2
  refine ⟨by show k0≤st.k+1;omega,hdf,hsz,yd μ st.k ⟨0,0,false⟩,M,fun u s hs=> ?_,⟨hS.mem,fun n ob hn=> ?_,fun n m hn hm ln lm e=> ?_⟩,⟨fun n hn=> ?_,hE.mem,hE.frame,hE.size,fun n hn=> ?_,hE.os,hE.tape,hE.output⟩⟩
  · exact (fQ u s hs).more hup hmu (Mem.le_refl M)
  · rw [aa] at hn
    split at hn
    · rename_i e1
      subst e1
      injection hn with hn
      subst hn
      obtain ⟨a1,⟨hl,vs,hb,hr⟩,a3⟩:=hS.obs n _ ht
      rw [hmu n a1]
      refine ⟨hup n a1,⟨hl,vs,hb,?_⟩,a3⟩
      obtain ⟨v,vs',e,h1,h2⟩:=aR.aF.1 hr
      rw [e]
      refine aR.aF.2 ⟨v,vs',rfl,?_,aR.aP.2 (aR.aP.1 h2)⟩
      have h1:=h1.rep
      simp only [cI,bQ] at h1
      intro ν gp
      simp only [cI]
      rw [gp st.k (Nat.lt_succ_self _),bF]
      exact .inr ⟨rfl,trivial,none,h1⟩
    · rw [aa] at hn
      split at hn
      · rename_i e1
        subst e1
        injection hn with hn
        subst hn
        rw [bF]
        exact ⟨Nat.lt_succ_self _,.inl ⟨rfl,rfl,rfl⟩,fun h=>by cases h⟩
      · obtain ⟨a1,a2,a3⟩:=hS.obs n ob hn
        rw [hmu n a1]
        exact ⟨hup n a1,a2.more hup hmu (Mem.le_refl M) fun _=>rfl,a3⟩
  · by_cases e1:n=st.k
    · subst e1;rw [bF] at ln;cases ln
    · by_cases e2:m=st.k
      · subst e2;rw [bF] at lm;cases lm
      · have hn:=hne n e1 hn
        have hm:=hne m e2 hm
        obtain ⟨o1,ho1⟩:=Option.ne_none_iff_exists'.1 hn
        obtain ⟨o2,ho2⟩:=Option.ne_none_iff_exists'.1 hm
        rw [hmu n (hlt n o1 ho1)] at e ln
        rw [hmu m (hlt m o2 ho2)] at e lm
        exact hS.inj n m hn hm ln lm e
  · simp only at hn
    by_cases e1:n=st.k
    · subst e1;omega
    · rw [eA _ _ _ e1];exact hE.old n (by omega)
  · by_cases e1:n=st.k
    · subst e1
      rw [bF]
      exact .inl ⟨⟨by omega,Nat.lt_succ_self _⟩,fun h=>by cases h⟩
    · have hn:=hne n e1 hn
      obtain ⟨o1,ho1⟩:=Option.ne_none_iff_exists'.1 hn
      rw [hmu n (hlt n o1 ho1)]
      rcases hE.names n hn with ⟨b1,b2⟩ | ⟨b1,b2⟩
      · exact .inl ⟨⟨b1.1,by have:=b1.2;show n<st.k+1;omega⟩,b2⟩
      · refine .inr ⟨fun h=> ?_,b2⟩
        have:n<st.k:=hlt n o1 ho1
        exact b1 ⟨h.1,this⟩
theorem SW.th {N k0:Nat}{st:St}{Q:Exit→St→Prop}{s:bX}(x ty:Nat)(e sz:Nat)(ht:lk st.hp x=some (.box ty [.d .aU]))(h:SW P N k0 s ⟨st.env,(x,.box ty [.gs st.k 0])::(st.k,.arr e sz 0 [])::st.hp,st.k+1⟩ Q):SW P N k0 s st Q:=
 fun c hc rd hrf cE M0 w0 c0 a w eO=>h c hc rd hrf cE M0 w0 c0 a w (eO.th x ty e sz ht)
end
end Go.Sl
