/-
 The state of a function's body; the rule for a region.
-/
import Derived.Test.YtnakpdoioammhaaGreatDoorU5
import Derived.RangeFuncRecord
set_option linter.unusedSimpArgs false
set_option linter.unusedSectionVars false
set_option linter.unusedVariables false
namespace Go.Sl
open Go.RowKit
section
def iz:Obj→Bool
 | .deferred _=>true
 | _=>false
def Marks (w0 w:World):List Deferred→Prop
 | []=>True
 | d::ds=>(∃ r,d=⟨.collected r,#[]⟩∧w0.heap.size≤r∧w.heap[r]? =some (.deferred (some []))∧∀ d',d'∈ds→d'≠⟨.collected r,#[]⟩)∧Marks w0 w ds
theorem bP.not {p:Nat→Prop}{μ:Nat→Nm}{M:Mem}{c:Nat→Option Ob}{w:World}(hS:bP p μ M c w){b:Nat}{x:Obj}(hx:w.heap[b]? =some x)(hf:iz x=true):∀ n,c n≠none→(μ n).live=true→(μ n).blk≠b:=by
 intro n hn hl e
 obtain ⟨ob,ho⟩:=Option.ne_none_iff_exists'.1 hn
 have h:=(hS.obs n ob ho).2.1
 subst e
 cases ob <;> simp only [cR] at h
 ·obtain ⟨_,_,h,_⟩:=h;rw [hx] at h;injection h with h;subst h;simp [iz] at hf
 ·rcases h with ⟨h,_⟩ | ⟨_,_,h,_⟩
  ·rw [hl] at h;cases h
  ·rw [hx] at h;injection h with h;subst h;simp [iz] at hf
 ·obtain ⟨_,_,h,_⟩:=h;rw [hx] at h;injection h with h;subst h;simp [iz] at hf
 ·rw [hl] at h;cases h
 ·obtain ⟨_,_,h⟩:=h;rw [hx] at h;injection h with h;subst h;simp [iz] at hf
 ·obtain ⟨_,_,h,_⟩:=h;rw [hx] at h;injection h with h;subst h;simp [iz] at hf
theorem Ev.keeps {c c':Nat→Option Ob}{new p:Nat→Prop}{μ bh:Nat→Nm}{M M':Mem}{w w':World}(hE:Ev c new μ M w c' bh M' w')(hS:bP p μ M c w){b:Nat}{x:Obj}(hx:w.heap[b]? =some x)(hf:iz x=true):w'.heap[b]? =some x:=by
 rw [(hE.frame b (Array.getElem?_eq_some_iff.1 hx).1 (hS.not hx hf)).1];exact hx
theorem Marks.ev {c c':Nat→Option Ob}{new p:Nat→Prop}{μ bh:Nat→Nm}{M M':Mem}{w0 w w':World}:∀ {df:List Deferred},Marks w0 w df→bP p μ M c w→Ev c new μ M w c' bh M' w'→Marks w0 w' df
 | [],_,_,_=>trivial
 | d::ds,⟨⟨r,h1,h2,h3,h4⟩,h5⟩,hS,hE=>⟨⟨r,h1,h2,hE.keeps hS h3 rfl,h4⟩,Marks.ev h5 hS hE⟩
def ia (N:Nat)(dg:Nat→Nm)(M0:Mem)(w0:World)(c0:Nat→Option Ob)(k0:Nat)(st:St)(a:Act)(w:World):Prop:=
 k0≤st.k∧Marks w0 w a.defers∧a.tmps.size=N∧
 ∃ μ M,(∀ t s,st.env.lookup t=some s→Rp (· <st.k) μ M s (a.tmps.getD t undef))∧bP (· <st.k) μ M (lk st.hp) w∧
  Ev c0 (fun n=>k0≤n∧n<st.k) dg M0 w0 (lk st.hp) μ M w
def Fs:jH:=⟨.any,[],[],0,True⟩
section
variable {P:Program}
theorem fS {ops:Array Oper}{o:Oper}{si:SI}(h:oV P ops o=some si):cO P o.op=some si.op∧si.dst=o.dst∧((o.guard=none∧si.g=none)∨∃ j w t,o.guard=some (j,w)∧eW ops j=some t∧si.g=some (t,w)):=by
 unfold oV at h
 split at h <;> first | (cases h;done) | skip
 rename_i so hso
 split at h
 ·rename_i hg
  injection h with h
  subst h
  exact ⟨hso,rfl,.inl ⟨hg,rfl⟩⟩
 ·rename_i j w hg
  split at h <;> first | (cases h;done) | skip
  rename_i t ht
  injection h with h
  subst h
  exact ⟨hso,rfl,.inr ⟨j,w,t,hg,ht,rfl⟩⟩
theorem qm {ops:Array Oper}{o:Oper}{st:St}{si:SI}{c1 c2:List CR}{e:jH}(hc:oV P ops o=some si)(h:bJ P st si c1=some (e,c2))(bw:e.ob):
  oc P ops (fun t=>st.env.lookup t) (lk st.hp) st.k o e∧(bF si.op=true→e.F'=e.F)∧HSub e.F st.hp:=by
 obtain ⟨h1,h2,h3⟩:=fS hc
 unfold bJ at h
 rcases h3 with ⟨hg,hs⟩ | ⟨j,w,t,hg,ht,hs⟩
 ·simp only [hs] at h
  obtain ⟨a1,a2⟩:=ql (ops:=ops) h1 h bw
  exact ⟨.inr ⟨.inl hg,a1⟩,a2,a1.2⟩
 ·simp only [hs] at h
  split at h <;> first | (cases h;done) | skip
  ·rename_i b hb
   split at h
   ·rename_i hbw
    have hbw:b=w:=by simpa using hbw
    subst hbw
    obtain ⟨a1,a2⟩:=ql (ops:=ops) h1 h bw
    exact ⟨.inr ⟨.inr ⟨j,b,t,hg,ht,hb⟩,a1⟩,a2,a1.2⟩
   ·rename_i hbw
    injection h with h
    injection h with h h'
    subst h
    exact ⟨.inl ⟨j,w,t,_,hg,ht,hb,by simpa [kO] using hbw,rfl,rfl,rfl,rfl⟩,fun _=>rfl,fun n ob hn=>by simp [bq] at hn⟩
  ·rename_i hb
   injection h with h
   injection h with h h'
   subst h
   exact ⟨.inl ⟨j,w,t,_,hg,ht,hb,rfl,rfl,rfl,rfl,rfl⟩,fun _=>rfl,fun n ob hn=>by simp [bq] at hn⟩
theorem uF:∀ (ei:List SI) (st:St) (es:List jH) (i:Nat),es.length≤i→gV ei st es (i+1)=gV ei st es i
 | [],st,es,i,_=>by simp [gV]
 | si::r,st,[],i,_=>by simp [gV]
 | si::r,st,e::es,0,h=>by simp at h
 | si::r,st,e::es,i+1,h=>by
  simp only [gV]
  exact uF r _ es i (by simpa using h)
theorem uG {id:Nat}{ops:Array Oper}{draw:Bool}{N:Nat}{ei:List SI}{bs:List Nat}{st st':St}{c_:List CR}{ob:Prop}{ts:List (Bool×List Nat)}
    (hc:CY P N ops draw=some (ei,bs)) (hrun:runs P ei st c_=some (st',ob,ts)) (bw:ob) (Aw:draw=true→kn bs ts=true) (hm:P.follows .mixedOrders=true)
    {dg:Nat→Nm} {M0:Mem} {w0:World} {c0:Nat→Option Ob} {k0:Nat} {rd:Option Nat} {a:Act} {w:World} (ga:ia N dg M0 w0 c0 k0 st a w) {Q:Exit→Act→World→Prop}
    (hQ:∀ a' w',ia N dg M0 w0 c0 k0 st' a' w'→Q .normal a' w'):(Code.region id ops draw).wpIn (iI rd) 0 P Q a w:=by
  obtain ⟨mq,hdf,hsz,μ,M,gi,hS,hE⟩:=ga
  unfold CY at hc
  split at hc <;> first | (cases hc;done) | skip
  rename_i sis' hsis
  split at hc <;> first | (cases hc;done) | skip
  rename_i hchk
  injection hc with hc
  injection hc with hc1 hc2
  subst hc1
  rw [hc2] at hchk
  simp only [Bool.and_eq_true] at hchk
  obtain ⟨⟨hok,hslots⟩,hin⟩:=hchk
  obtain ⟨hlen,hget⟩:=mI hsis
  obtain ⟨tl,tts,tob,tst⟩:=nc hrun
  have hes:=tob bw
  generalize hesd:trace P sis' st c_=es at*
  have hn:ops.size=sis'.length:=by simpa using hlen
  have facts:∀ i,i<ops.size→∃ o si e,ops[i]? =some o∧sis'[i]? =some si∧es[i]? =some e∧oV P ops o=some si∧oc P ops (fun t=>(gV sis' st es i).env.lookup t) (lk (gV sis' st es i).hp) (gV sis' st es i).k o e∧
      (bF si.op=true→e.F'=e.F)∧HSub e.F (gV sis' st es i).hp:=by
    intro i hi
    obtain ⟨si,h1,h2⟩:=hget i ops[i] (by simp [hi])
    have h3:es[i]? =some (es[i]'(by omega)):=List.getElem?_eq_getElem (by omega)
    obtain ⟨c1,c2,h4⟩:=qk (P:=P) (st:=st) (c_:=c_) h1 (by rw [hesd];exact h3)
    rw [hesd] at h4
    obtain ⟨b1,b2,b3⟩:=qm h2 h4 (hes _ (List.getElem_mem _))
    exact ⟨ops[i],si,_,Array.getElem?_eq_getElem hi,h1,h3,h2,b1,b2,b3⟩
  let ct:Nat→jH:=fun i=>es.getD i Fs
  let ro:Nat→Bool:=fun i=>((sis'[i]?).map fun s=>bF s.op).getD true
  let kk:Nat→Nat:=fun i=>(gV sis' st es i).k
  have heff:∀ {i e},es[i]? =some e→ct i=e:=fun h=>by simp [ct,List.getD_eq_getElem?_getD,h]
  have hro:∀ {i si},sis'[i]? =some si→ro i=bF si.op:=fun h=>by simp [ro,h]
  have hdst:∀ {i o},ops[i]? =some o→eW ops i=o.dst:=fun h=>by simp [eW,h]
  have hst0:gV sis' st es 0=st:=by cases sis' <;> cases es <;> rfl
  have hslotS:∀ i,i≤ops.size→∀ t,fO ops (fun t=>st.env.lookup t) ct (fun _=>true) i t=(gV sis' st es i).env.lookup t:=by
    intro i
    induction i with
    | zero=>intro _ t;rw [hst0];rfl
    | succ i ih=>
      intro hi t
      obtain ⟨o,si,e,f1,f2,f3,f4,_⟩:=facts i (by omega)
      obtain ⟨_,g2,_⟩:=fS f4
      rw [lQ sis' st es i si e f2 f3]
      simp only [fO,pick,Bool.true_and,hdst f1,heff f3]
      have ih':=ih (by omega) t
      simp only [fO] at ih'
      simp only [Bool.true_and] at ih'
      simp only [eT,g2]
      cases hod:o.dst with
      | none=>simpa using ih'
      | some d=>
        simp only
        rw [ko]
        by_cases hd:d=t
        · subst hd;simp
        · simp [hd,ih']
  have hcontS:∀ i,i≤ops.size→ep (lk st.hp) ct ro (fun _=>true) i=lk (gV sis' st es i).hp:=by
    intro i
    induction i with
    | zero=>intro _;rw [hst0];rfl
    | succ i ih=>
      intro hi
      obtain ⟨o,si,e,f1,f2,f3,f4,_,f6,f7⟩:=facts i (by omega)
      rw [lQ sis' st es i si e f2 f3]
      simp only [eT]
      rw [gO f7 f6]
      funext gB
      have ih':=congrFun (ih (by omega)) gB
      simp only [ep,Bool.true_and] at ih'
      simp only [ep,pick,Bool.true_and,hro f2,heff f3]
      cases hr:bF si.op with
      | true=>
        rw [f6 hr]
        simp only [Bool.not_true,Bool.false_and,Bool.false_eq_true,if_false]
        rw [ih']
        by_cases h1:lk e.F gB=none
        · rw [dH h1 h1]
        · rw [eE (.inl h1)]
          obtain ⟨ob,bw⟩:=Option.ne_none_iff_exists'.1 h1
          rw [bw];exact f7 gB ob bw
      | false=>
        have htc:gF ct i gB=((lk e.F gB).isSome || (lk e.F' gB).isSome):=by simp only [gF,heff f3]
        simp only [Bool.not_false,Bool.true_and,htc]
        unfold yp
        split
        · rfl
        · exact ih'
  have hkS:∀ i,kk (i+1)=kk i+(ct i).nk:=by
    intro i
    by_cases hi:i<ops.size
    · obtain ⟨o,si,e,f1,f2,f3,_⟩:=facts i hi
      simp only [kk]
      rw [lQ sis' st es i si e f2 f3,heff f3]
      rfl
    · simp only [kk]
      rw [uF sis' st es i (by omega)]
      have:ct i=Fs:=by simp [ct,List.getD_eq_getElem?_getD,List.getElem?_eq_none (show es.length≤i by omega)]
      rw [this];rfl
  have htouch:∀ i gB,i<ops.size→ro i=false∨True→gF ct i gB=true→gB∈(ts.getD i (true,[])).2:=by
    intro i gB hi _ ht
    obtain ⟨o,si,e,f1,f2,f3,_⟩:=facts i hi
    have:ts[i]? =some (br si e):=by rw [tts];simp [List.getElem?_zipWith,f2,f3]
    rw [List.getD_eq_getElem?_getD,this]
    simp only [Option.getD_some,br,List.mem_append,List.mem_map]
    simp only [gF,heff f3,Bool.or_eq_true,Option.isSome_iff_exists] at ht
    rcases ht with ⟨ob,h⟩ | ⟨ob,h⟩
    · exact .inl ⟨(gB,ob),mJ h,rfl⟩
    · exact .inr ⟨(gB,ob),mJ h,rfl⟩
  have htro:∀ i,i<ops.size→(ts.getD i (true,[])).1=ro i:=by
    intro i hi
    obtain ⟨o,si,e,f1,f2,f3,_⟩:=facts i hi
    have:ts[i]? =some (br si e):=by rw [tts];simp [List.getElem?_zipWith,f2,f3]
    rw [List.getD_eq_getElem?_getD,this,hro f2]
    rfl
  have hR :RG P ops bs N (fun t=>st.env.lookup t) (lk st.hp) st.k ct ro kk:=by
    refine ⟨hslots,fun i d hd=> ?_,by simp only [kk];rw [hst0],hkS,fun i j gB hi hj hij hri zV htj=> ?_,fun i hi=> ?_⟩
    · have hi:i<ops.size:=by
        unfold eW at hd
        rcases Nat.lt_or_ge i ops.size with h | h
        · exact h
        · rw [Array.getElem?_eq_none h] at hd;cases hd
      obtain ⟨o,si,e,f1,f2,f3,f4,_⟩:=facts i hi
      obtain ⟨_,g2,_⟩:=fS f4
      rw [hdst f1] at hd
      have:=List.all_eq_true.1 hin si (List.mem_of_getElem? f2)
      rw [g2,hd] at this
      simpa using this
    · cases hd:draw with
      | false=>
        rw [hd] at hc2
        simp only [CX,Bool.false_eq_true,if_false] at hc2
        rw [← hc2]
        rcases Nat.lt_or_ge i j with h | h
        · exact .inl (sG hj h)
        · exact .inr (sG hi (by omega))
      | true=>
        have hnc:=Aw hd
        unfold kn at hnc
        have hl:ts.length=ops.size:=by rw [tts];simp;omega
        have:=lN hnc (i:=i) (j:=j) (by omega) (by omega)
        simp only [Bool.or_eq_true,beq_iff_eq,hij,false_or,htro i hi,hri,Bool.not_eq_true',Bool.false_eq_true] at this
        have hany:((ts.getD i (true,[])).2.any fun n=>(ts.getD j (true,[])).2.contains n)=true:=by
          refine List.any_eq_true.2 ⟨gB,htouch i gB hi (.inr trivial) zV,?_⟩
          simpa using htouch j gB hj (.inr trivial) htj
        rw [hany] at this
        simpa using this
    · by_cases hii:i<ops.size
      · obtain ⟨o,si,e,f1,f2,f3,f4,_,f6,_⟩:=facts i hii
        rw [hro f2] at hi
        rw [heff f3]
        exact f6 hi
      · have:ct i=Fs:=by simp [ct,List.getD_eq_getElem?_getD,List.getElem?_eq_none (show es.length≤i by omega)]
        rw [this];rfl
  have hsteps:∀ (i:Nat) (o:Oper),ops[i]? =some o→oc P ops (fO ops (fun t=>st.env.lookup t) ct (fun _=>true) i) (ep (lk st.hp) ct ro (fun _=>true) i) (kk i) o (ct i):=by
    intro i o ho
    have hi:i<ops.size:=(Array.getElem?_eq_some_iff.1 ho).1
    obtain ⟨o',si,e,f1,f2,f3,f4,f5,_⟩:=facts i hi
    rw [f1] at ho;injection ho with ho;subst ho
    rw [heff f3,hcontS i (by omega),show fO ops (fun t=>st.env.lookup t) ct (fun _=>true) i=fun t=>(gV sis' st es i).env.lookup t from funext fun t=>hslotS i (by omega) t]
    exact f5
  have hend:st'=gV sis' st es ops.size:=by rw [tst,hn]
  have hmono:∀ i,st.k≤kk i:=fun i=>by
    have:=hR.mono (Nat.zero_le i)
    rw [hR.HV] at this;exact this
  have hfinal :∀ a' w',Inv ops N (fun t=>st.env.lookup t) (lk st.hp) st.k ct ro kk μ M w a.defers (fun _=>true) a' w'→Q .normal a' w':=by
    intro a' w' hI
    obtain ⟨⟨bh,M',h1,h2,h3⟩,h4,h5⟩:=hI
    have hp : pD ops st.k ct kk (fun _=>true)=(· <st'.k):=by
      funext n
      apply propext
      rw [hend]
      have key:∀ i,i≤ops.size→∀ n,(n<st.k∨∃ j,j<i∧kk j≤n∧n<kk j+(ct j).nk)↔n<kk i:=by
        intro i
        induction i with
        | zero=>intro _ n;rw [hR.HV];exact ⟨fun h=>h.elim (fun h=>h) fun ⟨j,hj,_⟩=>by omega,.inl⟩
        | succ i ih=>
          intro hi n
          have:=ih (by omega) n
          rw [hkS]
          constructor
          · rintro (h | ⟨j,hj,h1,h2⟩)
            · have:=this.1 (.inl h);omega
            · by_cases hji:j=i
              · subst hji;exact h2
              · have:=this.1 (.inr ⟨j,by omega,h1,h2⟩);omega
          · intro h
            by_cases hlt:n<kk i
            · rcases this.2 hlt with h | ⟨j,hj,h1,h2⟩
              · exact .inl h
              · exact .inr ⟨j,by omega,h1,h2⟩
            · exact .inr ⟨i,by omega,by omega,h⟩
      have:=key ops.size (Nat.le_refl _) n
      unfold pD pG
      simpa using this
    have hnw:∀ n,pG ops ct kk (fun _=>true) n↔st.k≤n∧n<st'.k:=by
      intro n
      have:=congrFun hp n
      constructor
      · rintro ⟨j,hj,h1,h2,h3⟩
        refine ⟨Nat.le_trans (hmono j) h2,?_⟩
        have h':pD ops st.k ct kk (fun _=>true) n:= .inr ⟨j,hj,h1,h2,h3⟩
        rw [hp] at h';exact h'
      · rintro ⟨h1,h2⟩
        have h':pD ops st.k ct kk (fun _=>true) n:=by rw [hp];exact h2
        rcases h' with h' | h'
        · omega
        · exact h'
    rw [hp] at h1 h2
    rw [hcontS ops.size (Nat.le_refl _),← hend] at h2 h3
    have hk':st.k≤st'.k:=by rw [hend];exact hmono _
    refine hQ a' w' ⟨by omega,by rw [h4];exact hdf.ev hS h3,h5,bh,M',fun t s h=>h1 t s ?_,h2,(hE.trans h3).pQ fun n=> ?_⟩
    · rw [hslotS ops.size (Nat.le_refl _),← hend];exact h
    · rw [hnw];omega
  have hinit:∀ w1:World,bP (· <st.k) μ M (lk st.hp) w1→Ev (lk st.hp) (fun _=>False) μ M w (lk st.hp) μ M w1→Inv ops N (fun t=>st.env.lookup t) (lk st.hp) st.k ct ro kk μ M w a.defers (fun _=>false) a w1:=by
    intro w1 vX l8
    have hp:pD ops st.k ct kk (fun _=>false)=(· <st.k):=by
      funext n;apply propext
      unfold pD pG
      simp
    have hc0:ep (lk st.hp) ct ro (fun _=>false) ops.size=lk st.hp:=funext fun gB=>n9 fun i _=>by simp
    refine ⟨⟨μ,M,fun t s h=> ?_,by rw [hp,hc0];exact vX,by rw [hc0];exact l8.pQ fun n=>by unfold pG;simp⟩,rfl,hsz⟩
    rw [hp]
    refine gi t s ?_
    rw [← h]
    exact (n9 fun i _=>by simp).symm
  cases hd:draw with
  | false=>
    refine wpIn_region ?_
    rw [List.range_eq_range']
    exact hR.CV hsteps hfinal ops.size 0 a w (by omega) ((hinit w hS (Ev.refl _ _ _ _ _ fun _ _ h=>h)).congr fun j _=>by simp)
  | true=>
    rw [hd] at hok
    simp only [Bool.not_true,Bool.false_or] at hok
    refine wpIn_region_any hm ?_
    refine hR.drawn hok hsteps hfinal ops.size _ a _ (by simp) ?_ (fun j o h=> ?_) ((hinit w.drew hS.drew (Ev.refl _ _ _ _ _ fun _ _ h=>h).drew).congr fun j hj=>by simp [hj])
    · have:∀ n,n≤ops.size→h_ (Array.replicate ops.size false) n=n:=by
        intro n
        induction n with
        | zero=>intro _;rfl
        | succ n ih=>intro hn';simp only [h_,ih (by omega)];simp [show n<ops.size by omega]
      exact this _ (Nat.le_refl _)
    · exfalso
      by_cases hj:j<ops.size
      · simp [hj] at h
      · simp [hj] at h
end
end
section
inductive cr where
 | skip
 | c7 (ei:List SI) (bs:List Nat) (draw:Bool)
 | seq (a b:cr)
 | cond (x:X) (a b:cr)
 | block (id:Nat) (c:cr)
 | loop (c:cr)
 | exit (id:Nat)
 | ret
 | qn (g:X) (ps:List Nat) (assign body:cr)
def cr.rf:cr→Bool
 | .qn .. =>true
 | .seq a b | .cond _ a b=>a.rf || b.rf
 | .block _ a | .loop a=>a.rf
 | _=>false
def cK (P:Program)(N:Nat):Code→Option cr
 | .skip=>some .skip
 | .region _ ops draw=>match CY P N ops draw with
  | some (ei,bs)=>some (.c7 ei bs draw)
  | none=>none
 | .seq a b=>match cK P N a,cK P N b with
  | some a,some b=>some (.seq a b)
  | _,_=>none
 | .cond x a b=>match cX x,cK P N a,cK P N b with
  | some x,some a,some b=>some (.cond x a b)
  | _,_,_=>none
 | .block id c=>(cK P N c).map (.block id)
 | .loop c=>(cK P N c).map .loop
 | .exit id=>some (.exit id)
 | .ret=>some .ret
 | .rangeFunc g ps a b=>match cX g,cK P N a,cK P N b with
  | some g,some a,some b=>some (.qn g ps.toList a b)
  | _,_,_=>none
 | _=>none
def SW (P:Program)(N k0:Nat)(s:cr)(st:St)(Q:Exit→St→Prop):Prop:=
 ∀ c,cK P N c=some s→∀ rd,(s.rf=true→rd=none)→∀ dg M0 w0 c0 a w,ia N dg M0 w0 c0 k0 st a w→c.wpIn (iI rd) 0 P (fun e a' w'=>∃ st',Q e st'∧ia N dg M0 w0 c0 k0 st' a' w') a w
section
variable {P:Program} {N k0:Nat} {st:St} {Q:Exit→St→Prop}
theorem SW.mono {s:cr}{Q':Exit→St→Prop}(h:SW P N k0 s st Q)(hq:∀ e st',Q e st'→Q' e st'):SW P N k0 s st Q':=
 fun c hc rd hrf dg M0 w0 c0 a w ga=>wpIn_mono (h c hc rd hrf dg M0 w0 c0 a w ga) fun e a' w' ⟨st',h1,h2⟩=>⟨st',hq e st' h1,h2⟩
theorem SW.skip (h:Q .normal st):SW P N k0 .skip st Q:=by
 intro c hc rd hrf dg M0 w0 c0 a w ga
 cases c <;> simp only [cK] at hc <;> first
  | (cases hc;done)
  | exact wpIn_skip ⟨st,h,ga⟩
  | (exfalso;split at hc <;> cases hc;done)
  | (exfalso;obtain ⟨_,_,hh⟩:=Option.map_eq_some_iff.1 hc;cases hh;done)
theorem SW.exit {id:Nat}(h:Q (.exit id) st):SW P N k0 (.exit id) st Q:=by
 intro c hc rd hrf dg M0 w0 c0 a w ga
 cases c <;> simp only [cK] at hc <;> first
  | (cases hc;done)
  | (injection hc with hc;injection hc with hc;subst hc;exact wpIn_exit ⟨st,h,ga⟩)
  | (exfalso;split at hc <;> cases hc;done)
  | (exfalso;obtain ⟨_,_,hh⟩:=Option.map_eq_some_iff.1 hc;cases hh;done)
theorem SW.ret (h:Q .ret st):SW P N k0 .ret st Q:=by
 intro c hc rd hrf dg M0 w0 c0 a w ga
 cases c <;> simp only [cK] at hc <;> first
  | (cases hc;done)
  | exact wpIn_ret ⟨st,h,ga⟩
  | (exfalso;split at hc <;> cases hc;done)
  | (exfalso;obtain ⟨_,_,hh⟩:=Option.map_eq_some_iff.1 hc;cases hh;done)
theorem SW.c7 {ei:List SI}{bs:List Nat}{draw:Bool}(c_:List CR){st':St}{ob:Prop}{ts:List (Bool×List Nat)}(hm:P.follows .mixedOrders=true)(hrun:runs P ei st c_=some (st',ob,ts))(bw:ob)
  (Aw:(!draw || kn bs ts)=true) (h:Q .normal st'):SW P N k0 (.c7 ei bs draw) st Q:=by
 intro c hc rd hrf dg M0 w0 c0 a w ga
 cases c <;> simp only [cK] at hc <;> first
  | (cases hc;done)
  | (exfalso;obtain ⟨_,_,hh⟩:=Option.map_eq_some_iff.1 hc;cases hh;done)
  | skip
 case region id ops dr=>
  split at hc <;> first | (cases hc;done) | skip
  rename_i sis' bs' hR
  injection hc with hc
  injection hc with e1 e2 e3
  subst e1;subst e2;subst e3
  exact uG hR hrun bw (fun hd=>by simpa [hd] using Aw) hm ga fun a' w' hSt'=>⟨st',h,hSt'⟩
 all_goals (exfalso;split at hc <;> cases hc)
theorem SW.seq {x y:cr}(h:SW P N k0 x st fun e st'=>match e with | .normal=>SW P N k0 y st' Q | e=>Q e st'):SW P N k0 (.seq x y) st Q:=by
 intro c hc rd hrf dg M0 w0 c0 a w ga
 cases c <;> simp only [cK] at hc <;> first
  | (cases hc;done)
  | (exfalso;obtain ⟨_,_,hh⟩:=Option.map_eq_some_iff.1 hc;cases hh;done)
  | skip
 case seq cx cy=>
  split at hc <;> first | (cases hc;done) | skip
  rename_i x' y' hx hy
  injection hc with hc
  injection hc with e1 e2
  subst e1;subst e2
  refine wpIn_seq (wpIn_mono (h cx hx rd (fun e=>hrf (by simp [cr.rf,e])) dg M0 w0 c0 a w ga) fun e a' w' ⟨st',h1,h2⟩=> ?_)
  cases e <;> first
   | exact h1 cy hy rd (fun e=>hrf (by simp [cr.rf,e])) dg M0 w0 c0 a' w' h2
   | exact ⟨st',h1,h2⟩
 all_goals (exfalso;split at hc <;> cases hc)
theorem SW.block {id:Nat}{x:cr}(h:SW P N k0 x st fun e st'=>match e with | .exit id'=>if id'=id then Q .normal st' else Q (.exit id') st' | e=>Q e st'):SW P N k0 (.block id x) st Q:=by
 intro c hc rd hrf dg M0 w0 c0 a w ga
 cases c <;> simp only [cK] at hc <;> first
  | (cases hc;done)
  | (exfalso;split at hc <;> cases hc;done)
  | skip
 case block id' cx=>
  obtain ⟨x',hx,e1⟩:=Option.map_eq_some_iff.1 hc
  injection e1 with e1 e2
  subst e1;subst e2
  refine wpIn_block (wpIn_mono (h cx hx rd (fun e=>hrf (by simp [cr.rf,e])) dg M0 w0 c0 a w ga) fun e a' w' ⟨st',h1,h2⟩=> ?_)
  cases e <;> try exact ⟨st',h1,h2⟩
  rename_i i
  simp only [Exit.inBlock] at h1 ⊢
  split
  ·rename_i e1;rw [if_pos e1] at h1;exact ⟨st',h1,h2⟩
  ·rename_i e1;rw [if_neg e1] at h1;exact ⟨st',h1,h2⟩
 all_goals (exfalso;obtain ⟨_,_,hh⟩:=Option.map_eq_some_iff.1 hc;cases hh)
theorem SW.cond {x:X}{y z:cr}{b:Bool}(hx:ev (fun t=>st.env.lookup t) x=some (.d (.bool b)))(h1:b=true→SW P N k0 y st Q)(h2:b=false→SW P N k0 z st Q):SW P N k0 (.cond x y z) st Q:=by
 intro c hc rd hrf dg M0 w0 c0 a w ga
 cases c <;> simp only [cK] at hc <;> first
  | (cases hc;done)
  | (exfalso;obtain ⟨_,_,hh⟩:=Option.map_eq_some_iff.1 hc;cases hh;done)
  | skip
 case cond o cy cz=>
  split at hc <;> first | (cases hc;done) | skip
  rename_i x' y' z' hx' hy hz
  injection hc with hc
  injection hc with e1 e2 e3
  subst e1;subst e2;subst e3
  obtain ⟨mq,hdf,hsz,μ,M,gi,hS,hE⟩:=ga
  have hk:fL (fun t=>st.env.lookup t) #[o] (· <st.k) μ M a:=⟨fun t _ s hs=>gi t s hs,hS.mem.jG⟩
  have hb:=Rp.bI.1 (hk.get (by simp) hx' hx)
  exact wpIn_cond_split hb (fun e=>h1 e cy hy rd (fun e=>hrf (by simp [cr.rf,e])) dg M0 w0 c0 a w ⟨mq,hdf,hsz,μ,M,gi,hS,hE⟩) (fun e=>h2 e cz hz rd (fun e=>hrf (by simp [cr.rf,e])) dg M0 w0 c0 a w ⟨mq,hdf,hsz,μ,M,gi,hS,hE⟩)
 all_goals (exfalso;split at hc <;> cases hc)
def bf (ρ:Nat→Nat)(k:Nat)(env:List (Nat×SV)):List (Nat×SV)→Prop
 | []=>True
 | (t,s)::r=>env.lookup t=some (s.aP ρ)∧s.ok (fun n=>decide (n<k))=true∧bf ρ k env r
def vY (ρ:Nat→Nat)(k:Nat)(hp:Hp):Hp→Prop
 | []=>True
 | (n,ob)::r=>lk hp (ρ n)=some (ob.aP ρ)∧n<k∧ob.ok (fun n=>decide (n<k))=true∧vY ρ k hp r
def C0 (ρ:Nat→Nat)(h:Hp):Prop:=∀ n,n∈h.map (·.1)→∀ m,m∈h.map (·.1)→ρ n=ρ m→n=m
def bk (k0:Nat)(st st1:St)(ρ:Nat→Nat):Prop:=
 k0≤st1.k∧(∀ n,n<k0→ρ n=n)∧bf ρ st1.k st.env st1.env∧vY ρ st1.k st.hp st1.hp∧C0 ρ st1.hp
theorem bf.get {ρ:Nat→Nat}{k:Nat}{env:List (Nat×SV)}:∀ {gp:List (Nat×SV)},bf ρ k env gp→∀ t s,gp.lookup t=some s→env.lookup t=some (s.aP ρ)∧s.ok (fun n=>decide (n<k))=true
 | [],_,t,s,h=>by simp at h
 | (t',s')::r,hw,t,s,h=>by
  simp only [bf] at hw
  simp only [List.lookup] at h
  split at h
  ·rename_i e
   have e:t=t':=by simpa using e
   injection h with h
   subst h;subst e
   exact ⟨hw.1,hw.2.1⟩
  ·exact bf.get hw.2.2 t s h
theorem vY.get {ρ:Nat→Nat}{k:Nat}{hp:Hp}:∀ {hp1:Hp},vY ρ k hp hp1→∀ n ob,lk hp1 n=some ob→lk hp (ρ n)=some (ob.aP ρ)∧n<k∧ob.ok (fun n=>decide (n<k))=true
 | [],_,n,ob,h=>by simp [bq] at h
 | (n',iJ)::r,hw,n,ob,h=>by
  simp only [vY] at hw
  rw [af] at h
  split at h
  ·rename_i e
   injection h with h
   subst h;subst e
   exact ⟨hw.1,hw.2.1,hw.2.2.1⟩
  ·exact vY.get hw.2.2.2 n ob h
theorem xE {h:Hp}{n:Nat}(hn:lk h n≠none):n∈h.map (·.1):=by
 obtain ⟨ob,ho⟩:=Option.ne_none_iff_exists'.1 hn
 exact List.mem_map.2 ⟨(n,ob),mJ ho,rfl⟩
theorem ia.weak {dg:Nat→Nm}{M0:Mem}{w0:World}{c0:Nat→Option Ob}{st1:St}{ρ:Nat→Nat}{a:Act}{w:World}(h:ia N dg M0 w0 c0 k0 st a w)(hw:bk k0 st st1 ρ):ia N dg M0 w0 c0 k0 st1 a w:=by
  obtain ⟨mq,hdf,hsz,μ,M,gi,hS,hE⟩:=h
  obtain ⟨h1,h2,h3,h4,h5⟩:=hw
  let ν:Nat→Nm:=fun n=>if n<st1.k then μ (ρ n) else dg n
  have fQ:∀ n,n<st1.k→ν n=μ (ρ n):=fun n hn=>by simp [ν,hn]
  have hν':∀ n,decide (n<st1.k)=true→ν n=μ (ρ n):=fun n hn=>fQ n (by simpa using hn)
  have hq:∀ n,decide (n<st1.k)=true→n<st1.k:=fun n hn=>by simpa using hn
  refine ⟨h1,hdf,hsz,ν,M,fun t s hs=> ?_,⟨hS.mem,fun n ob hn=> ?_,fun n m hn hm ln lm e=> ?_⟩,⟨fun n hn=> ?_,hE.mem,hE.frame,hE.size,fun n hn=> ?_,hE.os,hE.tape,hE.output⟩⟩
  · obtain ⟨a1,a2⟩:=h3.get t s hs
    exact Rp.to a2 hq hν' (gi t _ a1).rep
  · obtain ⟨a1,a2,a3⟩:=h4.get n ob hn
    obtain ⟨_,b1,b2⟩:=hS.obs _ _ a1
    rw [fQ n a2]
    exact ⟨a2,b1.to a3 hq hν',b2⟩
  · obtain ⟨o1,ho1⟩:=Option.ne_none_iff_exists'.1 hn
    obtain ⟨o2,ho2⟩:=Option.ne_none_iff_exists'.1 hm
    obtain ⟨a1,a2,_⟩:=h4.get n o1 ho1
    obtain ⟨b1,b2,_⟩:=h4.get m o2 ho2
    rw [fQ n a2] at e ln
    rw [fQ m b2] at e lm
    exact h5 n (xE hn) m (xE hm) (hS.inj _ _ (by rw [a1];simp) (by rw [b1];simp) ln lm e)
  · by_cases hk:n<k0
    · rw [fQ n (by omega),h2 n hk]
      exact hE.old n (by omega)
    · simp only [ν]
      rw [if_neg (by omega)]
  · obtain ⟨o1,ho1⟩:=Option.ne_none_iff_exists'.1 hn
    obtain ⟨a1,a2,_⟩:=h4.get n o1 ho1
    rw [fQ n a2]
    have hnm:=hE.names (ρ n) (by rw [a1];simp)
    by_cases hk:n<k0
    · rw [h2 n hk] at hnm ⊢
      rcases hnm with ⟨⟨b1,_⟩,_⟩ | ⟨b1,b2⟩
      · omega
      · exact .inr ⟨by omega,b2⟩
    · refine .inl ⟨⟨by omega,a2⟩,?_⟩
      rcases hnm with ⟨_,b⟩ | ⟨b1,b2⟩
      · exact b
      · exact fun l=> .inr ⟨ρ n,b2,by rw [hE.old _ b1] at l;exact l,by rw [hE.old _ b1]⟩
theorem SW.weak {s:cr}{st1:St}(ρ:Nat→Nat)(hw:bk k0 st st1 ρ)(h:SW P N k0 s st1 Q):SW P N k0 s st Q:=
 fun c hc rd hrf dg M0 w0 c0 a w ga=>h c hc rd hrf dg M0 w0 c0 a w (ga.weak hw)
theorem SW.loop {α:Type}{x:cr}(I:α→St)(m:α→Nat)(i0:α)(Ft:Nat→Nat)(h0:bk k0 st (I i0) Ft)
  (round:∀ i,SW P N k0 x (I i) fun e st'=>match e with | .normal=>∃ j ρ,m j<m i∧bk k0 st' (I j) ρ | e=>Q e st'):SW P N k0 (.loop x) st Q:=by
 intro c hc rd hrf dg M0 w0 c0 a w ga
 cases c <;> simp only [cK] at hc <;> first
  | (cases hc;done)
  | (exfalso;split at hc <;> cases hc;done)
  | skip
 case loop cx=>
  obtain ⟨x',hx,e1⟩:=Option.map_eq_some_iff.1 hc
  injection e1 with e1
  subst e1
  have key:∀ n i a w,m i=n→ia N dg M0 w0 c0 k0 (I i) a w→(Code.loop cx).wpIn (iI rd) 0 P (fun e a' w'=>∃ st',Q e st'∧ia N dg M0 w0 c0 k0 st' a' w') a w:=by
   intro n i a w hn hI
   refine wpIn_loop (fun a w=>∃ i,ia N dg M0 w0 c0 k0 (I i) a w) (fun a w=>Classical.epsilon fun n=>∃ i,m i=n∧ia N dg M0 w0 c0 k0 (I i) a w∧∀ j,ia N dg M0 w0 c0 k0 (I j) a w→m i≤m j) ⟨i,hI⟩ fun a w ⟨i,hI⟩=> ?_
   have least:∀ a w,(∃ i,ia N dg M0 w0 c0 k0 (I i) a w)→∃ n,∃ i,m i=n∧ia N dg M0 w0 c0 k0 (I i) a w∧∀ j,ia N dg M0 w0 c0 k0 (I j) a w→m i≤m j:=by
    intro a w ⟨i,hI⟩
    have:∀ n i,m i=n→ia N dg M0 w0 c0 k0 (I i) a w→∃ n,∃ i,m i=n∧ia N dg M0 w0 c0 k0 (I i) a w∧∀ j,ia N dg M0 w0 c0 k0 (I j) a w→m i≤m j:=by
     intro n
     induction n using Nat.strongRecOn with
     | _ n ih=>
      intro i hi hI
      by_cases hh:∃ j,ia N dg M0 w0 c0 k0 (I j) a w∧m j<m i
      ·obtain ⟨j,hj,hlt⟩:=hh
       exact ih (m j) (by omega) j rfl hj
      ·exact ⟨m i,i,rfl,hI,fun j hj=>Nat.le_of_not_lt fun h=>hh ⟨j,hj,h⟩⟩
    exact this (m i) i rfl hI
   obtain ⟨i',e1,hI',hmin⟩:=Classical.epsilon_spec (least a w ⟨i,hI⟩)
   refine wpIn_mono (round i' cx hx rd (fun e=>hrf (by simp [cr.rf,e])) dg M0 w0 c0 a w hI') fun e a' w' ⟨st',h1,h2⟩=> ?_
   cases e <;> try exact ⟨st',h1,h2⟩
   obtain ⟨j,ρ,hlt,hw⟩:=h1
   have hJ:=h2.weak hw
   refine ⟨⟨j,hJ⟩,?_⟩
   obtain ⟨j',e2,hJ',hmin'⟩:=Classical.epsilon_spec (least a' w' ⟨j,hJ⟩)
   rw [← e1,← e2]
   exact Nat.lt_of_le_of_lt (hmin' j hJ) hlt
  exact key (m i0) i0 a w rfl (ga.weak h0)
 all_goals (exfalso;obtain ⟨_,_,hh⟩:=Option.map_eq_some_iff.1 hc;cases hh)
inductive RV where
 | tmp (t:Nat)
 | cell (t:Nat) (sz:Option Nat)
def C5 (P:Program):List ResultVar→Option (List RV)
 | []=>some []
 | .tmp t::r=>match C5 P r with
  | some r=>some (.tmp t::r)
  | none=>none
 | .cell t ty::r=>match dh P ty,C5 P r with
  | some sz,some r=>some (.cell t sz::r)
  | _,_=>none
def pT (st:St):List RV→Option (List SV×Prop)
  | []=>some ([],True)
  | .tmp t::r=>match st.env.lookup t,pT st r with
    | some s,some (ss,ob)=>some (s::ss,ob)
    | _,_=>none
  | .cell t sz::r=>match st.env.lookup t,pT st r with
    | some s,some (ss,ob)=>match a_ (lk st.hp) s with
      | some (cs,off,_)=>match iw cs off sz with
        | some v=>some (v::ss,fJ cs off sz∧ob)
        | none=>none
      | none=>none
    | _,_=>none
def gI:List SV→SV
 | [s]=>s
 | ss=> .cW ss
def uH (tmps:Array Value):ResultVar→Sem Value
 | .tmp t=>pure (tmps.getD t undef)
 | .cell t ty=>do loadVar ty (← asAddr (tmps.getD t undef))
theorem wm (fn:Func)(tmps:Array Value):results fn tmps=(do let vs ← fn.results.mapM (uH tmps);pure (if h:vs.size=1 then vs[0] else .tuple vs):Sem Value):=by
 unfold results
 congr 1
theorem wo {w:World}{a:Act}{p:Nat→Prop}{μ:Nat→Nm}{M:Mem}(gi:∀ t s,st.env.lookup t=some s→Rp p μ M s (a.tmps.getD t undef))(hS:bP p μ M (lk st.hp) w):
  ∀ (rs:List ResultVar) (rO:List RV) (ss:List SV) (ob:Prop),C5 P rs=some rO→pT st rO=some (ss,ob)→ob→
   ∃ vs:List Value,(rs.mapM (uH a.tmps)).run P w= .ok vs w∧aQ p μ M ss vs
 | [],rO,ss,ob,h1,h2,h3=>by
  simp [C5] at h1;subst h1
  simp [pT] at h2;obtain ⟨rfl,_⟩:=h2
  exact ⟨[],by simp,aQ.aX.2 rfl⟩
 | .tmp t::rs,rO,ss,ob,h1,h2,h3=>by
  simp only [C5] at h1
  split at h1 <;> first | (cases h1;done) | skip
  rename_i r hr
  injection h1 with h1;subst h1
  simp only [pT] at h2
  split at h2 <;> first | (cases h2;done) | skip
  rename_i s ss' iJ hs hss
  injection h2 with h2
  injection h2 with h2 h2'
  subst h2;subst h2'
  obtain ⟨vs,h4,h5⟩:=wo gi hS rs r ss' _ hr hss h3
  refine ⟨_::vs,?_,aQ.aI.2 ⟨_,vs,rfl,gi t s hs,h5⟩⟩
  simp only [List.mapM_cons,uH,Sem.run_bind,Sem.run_pure,Result.andThen_ok,h4]
 | .cell t ty::rs,rO,ss,ob,h1,h2,h3=>by
  simp only [C5] at h1
  split at h1 <;> first | (cases h1;done) | skip
  rename_i sz r hsz hr
  injection h1 with h1;subst h1
  simp only [pT] at h2
  split at h2 <;> first | (cases h2;done) | skip
  rename_i s ss' iJ hs hss
  split at h2 <;> first | (cases h2;done) | skip
  rename_i cs off F hc
  split at h2 <;> first | (cases h2;done) | skip
  rename_i v hv
  injection h2 with h2
  injection h2 with h2 h2'
  subst h2;subst h2'
  obtain ⟨vs,h4,h5⟩:=wo gi hS rs r ss' _ hr hss h3.2
  obtain ⟨b,q,e1,hrd⟩:=mm hc (gi t s hs) (hS.sub (oP hc))
  obtain ⟨u,hu,hu'⟩:=xx hsz hv h3.1 hrd
  refine ⟨u::vs,?_,aQ.aI.2 ⟨u,vs,rfl,hu',h5⟩⟩
  have hA:(asAddr (a.tmps.getD t undef)).run P w= .ok ⟨b,q+off,none⟩ w:=by rw [e1];rfl
  simp only [List.mapM_cons,uH,hA,Sem.run_bind,Sem.run_pure,Result.andThen_ok,hu,h4]
theorem uI {w:World}{a:Act}{fn:Func}{rO:List RV}{ss:List SV}{ob:Prop}{p:Nat→Prop}{μ:Nat→Nm}{M:Mem}(gi:∀ t s,st.env.lookup t=some s→Rp p μ M s (a.tmps.getD t undef))(hS:bP p μ M (lk st.hp) w)
  (h1:C5 P fn.results.toList=some rO) (h2:pT st rO=some (ss,ob)) (h3:ob):∃ v,(results fn a.tmps).run P w= .ok v w∧Rp p μ M (gI ss) v:=by
 obtain ⟨vs,h4,h5⟩:=wo gi hS fn.results.toList rO ss ob h1 h2 h3
 have h6:(fn.results.mapM (uH a.tmps)).run P w= .ok vs.toArray w:=by
  rw [← Array.toArray_toList (xs:=fn.results),List.mapM_toArray,Sem.run_map,h4]
  rfl
 have hl:=h5.length
 rw [wm]
 simp only [Sem.run_bind,h6,Result.andThen_ok,Sem.run_pure]
 match ss,vs,hl,h5 with
 | [s],[v],_,h5=>
  obtain ⟨u,us,e,hu,_⟩:=aQ.aI.1 h5
  injection e with e1 e2
  subst e1
  exact ⟨v,by rw [dif_pos (by rfl)];rfl,hu⟩
 | [],[],_,h5=>exact ⟨_,rfl,Rp.dN.2 ⟨#[],by simp,h5⟩⟩
 | s::s'::ss,[],h,_=>simp at h
 | s::s'::ss,[v],h,_=>simp at h
 | s::s'::ss,v::v'::vs,_,h5=>exact ⟨_,rfl,Rp.dN.2 ⟨(v::v'::vs).toArray,by simp,by simpa using h5⟩⟩
theorem bP.put {p:Nat→Prop}{μ:Nat→Nm}{M:Mem}{c:Nat→Option Ob}{w:World}(hS:bP p μ M c w){r:Nat}{y:Obj}(x:Obj)(hr:w.heap[r]? =some y)(hf:iz y=true):bP p μ M c (w.putObj r x):=by
 refine ⟨⟨fun b o v h=> ?_,hS.mem.jG⟩,fun n ob hn=> ?_,hS.inj⟩
 ·have h1:=hS.mem b o v h
  have hb:b≠r:=by
   rintro rfl
   simp only [World.cell?,hr] at h1
   cases y <;> simp [iz] at hf h1
  simp only [World.cell?,World.putObj_heap_other hb] at h1 ⊢
  exact h1
 ·obtain ⟨a1,a2,a3⟩:=hS.obs n ob hn
  exact ⟨a1,a2.more (fun _ h=>h) (fun _ _=>rfl) (Mem.le_refl _) (fun hl=>World.putObj_heap_other (hS.not hr hf n (by rw [hn];simp) hl)),a3⟩
theorem Ev.put {c c':Nat→Option Ob}{new:Nat→Prop}{μ bh:Nat→Nm}{M M':Mem}{w0 w:World}(hE:Ev c new μ M w0 c' bh M' w){r:Nat}(x:Obj)(hr:w0.heap.size≤r):Ev c new μ M w0 c' bh M' (w.putObj r x):=
 ⟨hE.old,hE.mem,fun b hb hn=>⟨(World.putObj_heap_other (by omega)).trans (hE.frame b hb hn).1,(hE.frame b hb hn).2⟩,by rw [World.putObj_size];exact hE.size,hE.names,hE.os,hE.tape,hE.output⟩
theorem Marks.put {w0 w:World}{r:Nat}(x:Obj):∀ df,(∀ d',d'∈df→d'≠⟨.collected r,#[]⟩)→Marks w0 w df→Marks w0 (w.putObj r x) df
 | [],_,_=>trivial
 | d::ds,hne,⟨⟨r',h1,h2,h3,h4⟩,h5⟩=>
  ⟨⟨r',h1,h2,(World.putObj_heap_other (fun e=>hne d (by simp) (by rw [h1,e]))).trans h3,h4⟩,Marks.put x ds (fun d' hd=>hne d' (by simp [hd])) h5⟩
theorem nh {fn:Func}{tmps:Array Value}{R:Ending→World→Prop}{p:Nat→Prop}{μ:Nat→Nm}{M:Mem}{c:Nat→Option Ob}{c0:Nat→Option Ob}{new:Nat→Prop}{dg:Nat→Nm}{M0:Mem}{w0:World}:
  ∀ (df:List Deferred) (w:World),Marks w0 w df→bP p μ M c w→Ev c0 new dg M0 w0 c μ M w→(∀ w',bP p μ M c w'→Ev c0 new dg M0 w0 c μ M w'→LeavesIn (iI none) 0 P fn tmps R [] .returning w')→LeavesInM (iI none) 0 P fn tmps R df .returning w
 | [],w,_,hS,hE,h=>h w hS hE
 | d::ds,w,⟨⟨r,h1,h2,h3,h4⟩,h5⟩,hS,hE,h=>by
  refine ⟨by simp,.inl ⟨r,_,by rw [h1],run_takeDeferred h3,?_⟩⟩
  exact nh ds _ (Marks.put _ ds h4 h5) (hS.put _ h3 rfl) (hE.put _ h2) h
def Fin (k nk:Nat)(rO:List RV)(Q:SV→Hp→Prop)(st:St):Prop:=
 ∃ ss ob F',pT st rO=some (ss,ob)∧ob∧HSub F' st.hp∧Q (gI ss) F'∧(gI ss).ok (fun n=>decide (n<k+nk))=true∧F'.ok (fun n=>decide (n<k+nk))=true∧k+nk≤st.k
def dc:Nat→List SV→List (Nat×SV)
 | _,[]=>[]
 | i,s::ss=>(i,s)::dc (i+1) ss
theorem uJ:∀ (i:Nat) (ss:List SV) (t:Nat) (s:SV),(dc i ss).lookup t=some s→i≤t∧ss[t - i]? =some s
 | i,[],t,s,h=>by simp [dc] at h
 | i,x::ss,t,s,h=>by
  simp only [dc,List.lookup] at h
  split at h
  ·rename_i e
   have e:t=i:=by simpa using e
   injection h with h
   subst h;subst e
   simp
  ·obtain ⟨h1,h2⟩:=uJ (i+1) ss t s h
   refine ⟨by omega,?_⟩
   rw [show t - i=(t - (i+1))+1 by omega]
   simpa using h2
theorem SB.C6 {f:FuncId}{fn:Func}{c:Code}{s:cr}{rO:List RV}{args:List SV}{F:Hp}{k nk:Nat}{Q:SV→Hp→Prop}(hf:P.funcs[f]? =some fn)(hb:fn.body=some c)(hc:cK P fn.ntmps c=some s)
  (Gw:C5 P fn.results.toList=some rO) (cT:gU P f=true) (hargs:SV.aF (fun n=>decide (n<k)) args=true) (hF:F.ok (fun n=>decide (n<k))=true) (hN:args.length≤fn.ntmps)
  (h:SW P fn.ntmps k s ⟨dc 0 args,F,k⟩ fun e st'=>match e with | .normal=>Fin k nk rO Q st' | .ret=>Fin k nk rO Q st' | _=>False):SB P f args F k nk Q:=by
 refine ⟨cT,hargs,hF,fun μ M w vals hr hS=>nW (r:=none) (n:=0) |>.1 (callsIn_of_wp_marks hf hb trivial ?_)⟩
 have hlen:vals.size=args.length:=by simpa using hr.length
 have ga:ia fn.ntmps μ M w (lk F) k ⟨dc 0 args,F,k⟩ { tmps:=vals++Array.replicate (fn.ntmps - vals.size) undef,defers:=[]} w:=by
  refine ⟨Nat.le_refl _,trivial,by simp;omega,μ,M,fun t s hs=> ?_,hS,Ev.refl _ _ _ _ _ fun n hn hh=>absurd hh.2 (Nat.not_lt.2 hh.1)⟩
  obtain ⟨_,h2⟩:=uJ 0 args t s hs
  obtain ⟨u,hu,hr'⟩:=hr.get h2
  have hu':vals[t]? =some u:=by simpa using hu
  have hlt:t<vals.size:=(Array.getElem?_eq_some_iff.1 hu').1
  have:(vals++Array.replicate (fn.ntmps - vals.size) undef).getD t undef=u:=by
   rw [Array.getD_eq_getD_getElem?,Array.getElem?_append_left hlt,hu']
   rfl
  rw [this]
  exact hr'
 refine wpIn_mono (h c hc none (fun _=>rfl) μ M w (lk F) _ w ga) ?_
 rintro e a' w' ⟨st',hQ,hSt'⟩
 obtain ⟨_,hdf,_,tv,M1,gi,hS0,hE0⟩:=hSt'
 have fin:Fin k nk rO Q st'→LeavesInM (iI none) 0 P fn a'.tmps (fun e w'=>∃ r F' bh M' u,e=Ending.returned u∧Q r F'∧r.ok (fun n=>decide (n<k+nk))=true∧F'.ok (fun n=>decide (n<k+nk))=true∧cG bh M' r u∧bP (· <k+nk) bh M' (lk F') w'∧
   Ev (lk F) (fun n=>k≤n∧n<k+nk) μ M w (lk F') bh M' w') a'.defers .returning w':=by
  rintro ⟨ss,ob,F',h1,h2,h3,h4,h5,h6,h7⟩
  refine nh a'.defers w' hdf hS0 hE0 fun w' vX l8=> ?_
  obtain ⟨v,hv,hr'⟩:=uI gi vX Gw h1 h2
  refine ⟨v,hv,gI ss,F',fun n=>if n<k+nk then tv n else μ n,M1,v,rfl,h4,h5,h6,?_,?_,?_⟩
  ·exact cG.congr (fun n hn=>by simp only [decide_eq_true_eq] at hn;rw [if_pos hn]) _ v h5 hr'.rep
  ·refine ⟨vX.mem,fun n ob hn=> ?_,fun n m hn hm ln lm e=> ?_⟩
   ·obtain ⟨a1,a2⟩:=Hp.f_ h6 hn
    simp only [decide_eq_true_eq] at a1
    obtain ⟨_,b1,b2⟩:=vX.obs n ob (h3 n ob hn)
    simp only [if_pos a1]
    refine ⟨a1,?_,b2⟩
    have hb':cR (· <st'.k) (fun n=>tv (id n)) M1 w' (tv n) (ob.aP id):=by
     have hid:∀ s:SV,s.aP id=s:=fun s=>by
      have key:∀ s:SV,s.aP id=s:=by
       intro s
       exact SV.rec (motive_1:=fun s=>s.aP id=s) (motive_2:=fun l=>SV.aM id l=l) (fun _=>rfl) (fun _ _=>rfl) (fun _ _=>rfl) (fun _ _ _=>rfl) (fun _ _=>rfl) (fun _=>rfl) (fun _=>rfl) (fun _=>rfl) (fun f a c h1 h2=>by simp only [SV.aP,h1,h2]) (fun cs h=>by simp only [SV.aP,h]) (fun cs h=>by simp only [SV.aP,h]) rfl rfl (fun c cs h1 h2=>by simp only [SV.aM,h1,h2]) s
      exact key s
     have hids:∀ l:List SV,SV.aM id l=l:=fun l=>by induction l <;> simp_all [SV.aM]
     have:ob.aP id=ob:=by
      cases ob <;> simp [Ob.aP,hids,hid]
     rw [this];exact b1
    exact cR.to a2 (fun m hm=>by simpa using hm) (fun m hm=>by simp only [decide_eq_true_eq] at hm;simp [hm]) hb'
   ·obtain ⟨o1,ho1⟩:=Option.ne_none_iff_exists'.1 hn
    obtain ⟨o2,ho2⟩:=Option.ne_none_iff_exists'.1 hm
    have a1:=(Hp.f_ h6 ho1).1
    have a2:=(Hp.f_ h6 ho2).1
    simp only [decide_eq_true_eq] at a1 a2
    rw [if_pos a1] at e ln
    rw [if_pos a2] at e lm
    exact vX.inj n m (by rw [h3 n o1 ho1];simp) (by rw [h3 m o2 ho2];simp) ln lm e
  ·refine ⟨fun n hn=> ?_,l8.mem,l8.frame,l8.size,fun n hn=> ?_,l8.os,l8.tape,l8.output⟩
   ·by_cases hnk:n<k+nk
    ·rw [if_pos hnk];exact l8.old n (by omega)
    ·rw [if_neg hnk]
   ·obtain ⟨o1,ho1⟩:=Option.ne_none_iff_exists'.1 hn
    have a1:=(Hp.f_ h6 ho1).1
    simp only [decide_eq_true_eq] at a1
    rw [if_pos a1]
    rcases l8.names n (by rw [h3 n o1 ho1];simp) with ⟨b1,b2⟩ | ⟨b1,b2⟩
    ·exact .inl ⟨⟨b1.1,a1⟩,b2⟩
    ·exact .inr ⟨by omega,b2⟩
 cases e <;> first
  | exact fin hQ
  | exact hQ.elim
end
end
section
abbrev u32 (n:Nat):SV:= .d (.int .u32 (n:Int))
abbrev u64 (n:Nat):SV:= .d (.int .u64 (n:Int))
abbrev u8 (n:Nat):SV:= .d (.int .u8 (n:Int))
abbrev i64 (n:Int):SV:= .d (.int .i64 n)
abbrev bl (b:Bool):SV:= .d (.bool b)
mutual
theorem SV.kq:∀ s:SV,s.aP id=s
 | .d _ | .ptr _ _ | .gs _ _ | .bs _ _ _ | .vp _ _ | .mp _ | .it _ | .yl _ | .any=>rfl
 | .fn f a c=>by simp only [SV.aP,SV.aH a,SV.aH c]
 | .agg cs=>by simp only [SV.aP,SV.aH cs]
 | .cW cs=>by simp only [SV.aP,SV.aH cs]
theorem SV.aH:∀ s:List SV,SV.aM id s=s
 | []=>rfl
 | c::cs=>by simp only [SV.aM,SV.kq c,SV.aH cs]
end
theorem Ob.kq (o:Ob):o.aP id=o:=by
 cases o <;> simp [Ob.aP,SV.aH,SV.kq]
def tH (k:Nat)(env:List (Nat×SV)):List (Nat×SV)→Prop
 | []=>True
 | (t,s)::r=>env.lookup t=some s∧s.ok (fun n=>decide (n<k))=true∧tH k env r
def C7 (k:Nat)(hp:Hp):Hp→Prop
 | []=>True
 | (n,ob)::r=>lk hp n=some ob∧n<k∧ob.ok (fun n=>decide (n<k))=true∧C7 k hp r
def Sub (k0:Nat)(st st1:St):Prop:=k0≤st1.k∧tH st1.k st.env st1.env∧C7 st1.k st.hp st1.hp
theorem Sub.weak {k0:Nat}{st st1:St}(h:Sub k0 st st1):bk k0 st st1 id:=by
 obtain ⟨h1,h2,h3⟩:=h
 refine ⟨h1,fun _ _=>rfl,?_,?_,fun n _ m _ e=>e⟩
 ·generalize st1.env=e at h2
  induction e with
  | nil=>trivial
  | cons x e ih=>exact ⟨by rw [SV.kq];exact h2.1,h2.2.1,ih h2.2.2⟩
 ·generalize st1.hp=e at h3
  induction e with
  | nil=>trivial
  | cons x e ih=>exact ⟨by rw [Ob.kq];exact h3.1,h3.2.1,h3.2.2.1,ih h3.2.2.2⟩
section
variable {P:Program} {N k0:Nat} {st:St} {Q:Exit→St→Prop}
theorem SW.Ax {α:Type}{x:cr}(I:α→St)(m:α→Nat)(i0:α)(h0:Sub k0 st (I i0))
  (round:∀ i,SW P N k0 x (I i) fun e st'=>match e with | .normal=>∃ j,m j<m i∧Sub k0 st' (I j) | e=>Q e st'):SW P N k0 (.loop x) st Q:=
 SW.loop I m i0 id h0.weak fun i=>(round i).mono fun e st' h=>by
  cases e <;> first
   | (obtain ⟨j,h1,h2⟩:=h;exact ⟨j,id,h1,h2.weak⟩)
   | exact h
end
theorem qo {α β:Type}(f:α→List β)(sz:Nat)(hf:∀ x,(f x).length=sz):∀ (l:List α) (i j:Nat) (x:α),l[i]? =some x→j<sz→(l.flatMap f)[i*sz+j]? =(f x)[j]?
 | [],i,j,x,h,_=>by simp at h
 | y::l,0,j,x,h,hj=>by
  simp at h;subst h
  rw [List.flatMap_cons,List.getElem?_append_left (by rw [hf];omega)]
  simp
 | y::l,i+1,j,x,h,hj=>by
  simp at h
  rw [List.flatMap_cons,List.getElem?_append_right (by rw [hf,Nat.add_mul];omega),hf]
  rw [show (i+1)*sz+j - sz=i*sz+j by rw [Nat.add_mul];omega]
  exact qo f sz hf l i j x h hj
theorem jM {α β:Type}(f:α→List β)(sz:Nat)(hf:∀ x,(f x).length=sz):∀ (l:List α) (i:Nat) (x:α),l[i]? =some x→((l.flatMap f).drop (i*sz)).take sz=f x
 | [],i,x,h=>by simp at h
 | y::l,0,x,h=>by
  simp at h;subst h
  simp [List.flatMap_cons,List.take_left' (hf y)]
 | y::l,i+1,x,h=>by
  simp at h
  rw [List.flatMap_cons,Nat.add_mul,Nat.one_mul,Nat.add_comm,← List.drop_drop,List.drop_left' (hf y)]
  exact jM f sz hf l i x h
theorem eB {α β:Type}(f:α→List β)(sz:Nat)(hf:∀ x,(f x).length=sz)(l:List α):(l.flatMap f).length=l.length*sz:=by
 induction l with
 | nil=>simp
 | cons x l ih=>simp [List.flatMap_cons,hf,ih,Nat.add_mul,Nat.add_comm]
theorem Ay (n:Int)(h: -9223372036854775808≤n)(h':n<9223372036854775808):IntKind.i64.wrap n=n:=by
 simp [IntKind.wrap,IntKind.bits,IntKind.signed];omega
theorem od (n:Nat)(h:n<9223372036854775807):IntKind.i64.wrap ((n:Int)+1)=((n+1:Nat):Int):=by
 rw [Ay _ (by omega) (by omega)];rfl
theorem HSub.nil (h:Hp):HSub [] h:=fun n ob hn=>by simp [bq] at hn
def Pure (P:Program)(f:FuncId)(args:List SV)(v:SV):Prop:=SB P f args [] 0 0 fun r F=>r=v∧F=[]
theorem SV.sH {ρ:Nat→Nat}(s:SV):s.ok (fun n=>decide (n<0))=true→s.aP ρ=s:=
 SV.rec (motive_1:=fun s=>s.ok (fun n=>decide (n<0))=true→s.aP ρ=s) (motive_2:=fun l=>SV.aF (fun n=>decide (n<0)) l=true→SV.aM ρ l=l)
  (fun _ _=>rfl) (fun _ _ h=>by simp [SV.ok] at h) (fun _ _ h=>by simp [SV.ok] at h) (fun _ _ _ h=>by simp [SV.ok] at h) (fun _ _ _=>rfl) (fun _ h=>by simp [SV.ok] at h) (fun _ h=>by simp [SV.ok] at h) (fun _ h=>by simp [SV.ok] at h)
  (fun f a c h1 h2 h=>by simp only [SV.ok,Bool.and_eq_true] at h;simp only [SV.aP,h1 h.1,h2 h.2])
  (fun cs h1 h=>by simp only [SV.ok] at h;simp only [SV.aP,h1 h]) (fun cs h1 h=>by simp only [SV.ok] at h;simp only [SV.aP,h1 h]) (fun _=>rfl)
  (fun _=>rfl) (fun c cs h1 h2 h=>by simp only [SV.aF,Bool.and_eq_true] at h;simp only [SV.aM,h1 h.1,h2 h.2]) s
theorem Pure.sc {P:Program}{f:FuncId}{args:List SV}{v:SV}(h:Pure P f args v)(hv:v.ok (fun n=>decide (n<0))=true)(k:Nat):bB P f args [] k 0 v []:=by
 have:=SB.at h id k (fun n m hn=>absurd hn (Nat.not_lt_zero n)) (fun n hn=>absurd hn (Nat.not_lt_zero n)) (fun i hi=>absurd hi (Nat.not_lt_zero i))
 rw [SV.aH] at this
 refine this.mono ?_
 rintro r F' ⟨r0,F0,⟨rfl,rfl⟩,rfl,rfl⟩
 exact ⟨SV.sH _ hv,rfl⟩
theorem kY {rO:List RV}{st:St}{ss:List SV}{ob:Prop}{v:SV}(h:pT st rO=some (ss,ob))(bw:ob)(hv:gI ss=v)(hok:v.ok (fun n=>decide (n<0))=true):Fin 0 0 rO (fun r F=>r=v∧F=[]) st:=
 ⟨ss,ob,[],h,bw,HSub.nil _,⟨hv,rfl⟩,by rw [hv];exact hok,rfl,by omega⟩
structure ag where
 (a0 a1 a2 a3 a4 a5 a6 a7:Nat)
 deriving DecidableEq
def ag.get (v:ag):Nat→Nat
 | 0=>v.a0 | 1=>v.a1 | 2=>v.a2 | 3=>v.a3 | 4=>v.a4 | 5=>v.a5 | 6=>v.a6 | 7=>v.a7 | _=>0
def ag.of (f:Nat→Nat):ag:=⟨f 0,f 1,f 2,f 3,f 4,f 5,f 6,f 7⟩
theorem ag.kr (f:Nat→Nat){r:Nat}(h:r<8):(ag.of f).get r=f r:=by
 match r,h with
 | 0,_ | 1,_ | 2,_ | 3,_ | 4,_ | 5,_ | 6,_ | 7,_=>rfl
theorem ag.ext' {a b:ag}(h:∀ r,r<8→a.get r=b.get r):a=b:=by
 obtain ⟨a0,a1,a2,a3,a4,a5,a6,a7⟩:=a
 obtain ⟨b0,b1,b2,b3,b4,b5,b6,b7⟩:=b
 have h0:a0=b0:=h 0 (by omega)
 have h1:a1=b1:=h 1 (by omega)
 have h2:a2=b2:=h 2 (by omega)
 have h3:a3=b3:=h 3 (by omega)
 have h4:a4=b4:=h 4 (by omega)
 have h5:a5=b5:=h 5 (by omega)
 have h6:a6=b6:=h 6 (by omega)
 have h7:a7=b7:=h 7 (by omega)
 subst h0 h1 h2 h3 h4 h5 h6 h7
 rfl
def ag.ds (v:ag):List DV:=[.int .u32 v.a0,.int .u32 v.a1,.int .u32 v.a2,.int .u32 v.a3,.int .u32 v.a4,.int .u32 v.a5,.int .u32 v.a6,.int .u32 v.a7]
def ag.cells (v:ag):List SV:=[u32 v.a0,u32 v.a1,u32 v.a2,u32 v.a3,u32 v.a4,u32 v.a5,u32 v.a6,u32 v.a7]
theorem ag.qp (v:ag):v.ds.map .d=v.cells:=rfl
theorem ag.ku (v:ag):v.ds.length=8:=rfl
theorem ag.er (v:ag){r:Nat}(h:r<8):v.cells[r]? =some (u32 (v.get r)):=by
 match r,h with
 | 0,_ | 1,_ | 2,_ | 3,_ | 4,_ | 5,_ | 6,_ | 7,_=>rfl
theorem ag.cells_one (v:ag):v.cells.all SV.aZ=true:=rfl
theorem ag.jN (v:ag):v.cells.length=8:=rfl
theorem ag.an (v:ag)(q:Nat→Bool):SV.aF q v.cells=true:=rfl
def ag.set (v:ag)(i x:Nat):ag:=ag.of fun r=>if r=i then x else v.get r
theorem ag.sI (v:ag){i:Nat}(h:i<8)(x:Nat):v.cells.set i (u32 x)=(v.set i x).cells:=by
 match i,h with
 | 0,_ | 1,_ | 2,_ | 3,_ | 4,_ | 5,_ | 6,_ | 7,_=>rfl
def ag.wf (v:ag):Prop:=∀ r,r<8→v.get r<4294967296
theorem ag.fV (a b:ag):eZ (rep 8 [true]) a.cells b.cells=some (decide (a=b)):=by
 have h:eZ (rep 8 [true]) a.cells b.cells=some (((a.a0:Int) == b.a0) && (((a.a1:Int) == b.a1) && (((a.a2:Int) == b.a2) && (((a.a3:Int) == b.a3) && (((a.a4:Int) == b.a4) && (((a.a5:Int) == b.a5) && (((a.a6:Int) == b.a6) && (((a.a7:Int) == b.a7) && true)))))))):=by
  simp [eZ,yw,rep,ag.cells]
 rw [h]
 congr 1
 obtain ⟨a0,a1,a2,a3,a4,a5,a6,a7⟩:=a
 obtain ⟨b0,b1,b2,b3,b4,b5,b6,b7⟩:=b
 rw [Bool.eq_iff_iff]
 simp
 omega
end
end Go.Sl
