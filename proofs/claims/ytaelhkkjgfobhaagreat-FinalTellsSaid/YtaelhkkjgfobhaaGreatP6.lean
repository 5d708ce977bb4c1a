/-
 A box's cell that holds no map: a map of one's own that is nil.
-/
import Derived.Test.YtaelhkkjgfobhaaGreatP5
import Derived.Test.YtaelhkkjgfobhaaGreatP4
set_option linter.unusedVariables false
set_option linter.unusedSimpArgs false
set_option linter.unusedSectionVars false
namespace Go.Sl
open Go.RowKit
def rj (bs:List Nat)(ts:List (Bool×List Nat)):Bool:=
 yy ts.length fun i j=>i == j || (ts.getD i (true,[])).1 || gC bs i j || gC bs j i || !((ts.getD i (true,[])).2.any fun n=>(ts.getD j (true,[])).2.contains n)
theorem gU {f:Bool}{bs:List Nat}{ts:List (Bool×List Nat)}(h:(!f || rj bs ts)=true):(!f || mW bs ts)=true:=by
 rw [← h]
 congr 1
 unfold mW rj
 congr 1
 funext i j
 generalize (i == j)=a;generalize (ts.getD i (true,[])).1=b;generalize gC bs i j=c;generalize gC bs j i=d;generalize List.any _ _=e;cases a <;> cases b <;> cases c <;> cases d <;> cases e <;> rfl
section
variable {P:Program} {N k0:Nat} {st:St} {Q:Exit→St→Prop}
end
end Go.Sl
namespace Go.Sl
section
section
variable {P:Program} {N k0:Nat} {st yj:St} {Q:Exit→St→Prop} {dz:List SI} {bs:List Nat} {draw:Bool} {Φ C1 C2 C3 C4:Prop}
abbrev RF (P:Program)(L:List Nat)(dz:List SI)(bs:List Nat)(draw:Bool)(st yj:St):Prop:=RW P dz st fun st' ts=>(!draw || mW bs ts)=true∧aq L st' fun s=>s=yj
theorem RF.sw {L:List Nat}(hm:P.follows .mixedOrders=true)(hr:RF P L dz bs draw st yj)(h:Q .normal yj):SW P N k0 (.fm dz bs draw) st Q:=by
 refine SW.bT L hm ?_;obtain ⟨dL,st',ob,ts,h1,h2,h3,h4⟩:=hr;refine ⟨dL,st',ob,ts,h1,h2,h3,?_⟩;unfold aq at h4 ⊢;rw [h4];exact h
theorem SW.g0 (L:List Nat)(hm:P.follows .mixedOrders=true)(φ:Φ)(h:Q .normal yj)
  (hr:Φ→RF P L dz bs draw st yj:=by
   intro φ;(repeat (first | refine RW.ro φ (h:= ?_) | refine RW.skip (h:= ?_) | refine RW.op φ (h:= ?_) | refine RW.dD φ (h:= ?_) | refine RW.aY (h:= ?_)));exact RW.nil ⟨gU (by kernel_rfl),aq.mk (h:=rfl)⟩):SW P N k0 (.fm dz bs draw) st Q:=RF.sw hm (hr φ) h
theorem SW.g1 (L:List Nat)(hm:P.follows .mixedOrders=true)(φ:Φ)(c1:C1)(h:Q .normal yj)
  (hr:Φ→C1→RF P L dz bs draw st yj:=by
   intro φ c1;(repeat (first | refine RW.ro φ (h:= ?_) | refine RW.skip (h:= ?_) | refine RW.op φ (h:= ?_) | refine RW.dD φ (h:= ?_) | refine RW.aY (h:= ?_) | (refine RW.aM (h:= ?_);(first | refine ai.mk φ (hc:=c1) (h:= ?_) | refine ai.mk φ (hc:=c1 _) (h:= ?_) | refine ai.mk φ (hs:=c1.1) (hc:=c1.2) (h:= ?_)))));exact RW.nil ⟨gU (by kernel_rfl),aq.mk (h:=rfl)⟩):SW P N k0 (.fm dz bs draw) st Q:=RF.sw hm (hr φ c1) h
theorem SW.g2 (L:List Nat)(hm:P.follows .mixedOrders=true)(φ:Φ)(c1:C1)(c2:C2)(h:Q .normal yj)
  (hr:Φ→C1→C2→RF P L dz bs draw st yj:=by
   intro φ c1 c2;(repeat (first | refine RW.ro φ (h:= ?_) | refine RW.skip (h:= ?_) | refine RW.op φ (h:= ?_) | refine RW.dD φ (h:= ?_) | refine RW.aY (h:= ?_) | (refine RW.aM (h:= ?_);(first | refine ai.mk φ (hc:=c1) (h:= ?_) | refine ai.mk φ (hc:=c1 _) (h:= ?_) | refine ai.mk φ (hs:=c1.1) (hc:=c1.2) (h:= ?_) | refine ai.mk φ (hc:=c2) (h:= ?_) | refine ai.mk φ (hc:=c2 _) (h:= ?_) | refine ai.mk φ (hs:=c2.1) (hc:=c2.2) (h:= ?_)))));exact RW.nil ⟨gU (by kernel_rfl),aq.mk (h:=rfl)⟩):SW P N k0 (.fm dz bs draw) st Q:=RF.sw hm (hr φ c1 c2) h
theorem SW.g4 (L:List Nat)(hm:P.follows .mixedOrders=true)(φ:Φ)(c1:C1)(c2:C2)(c3:C3)(c4:C4)(h:Q .normal yj)
  (hr:Φ→C1→C2→C3→C4→RF P L dz bs draw st yj:=by
   intro φ c1 c2 c3 c4;(repeat (first | refine RW.ro φ (h:= ?_) | refine RW.skip (h:= ?_) | refine RW.op φ (h:= ?_) | refine RW.dD φ (h:= ?_) | refine RW.aY (h:= ?_) | (refine RW.aM (h:= ?_);(first | refine ai.mk φ (hc:=c1) (h:= ?_) | refine ai.mk φ (hc:=c1 _) (h:= ?_) | refine ai.mk φ (hs:=c1.1) (hc:=c1.2) (h:= ?_) | refine ai.mk φ (hc:=c2) (h:= ?_) | refine ai.mk φ (hc:=c2 _) (h:= ?_) | refine ai.mk φ (hs:=c2.1) (hc:=c2.2) (h:= ?_) | refine ai.mk φ (hc:=c3) (h:= ?_) | refine ai.mk φ (hc:=c3 _) (h:= ?_) | refine ai.mk φ (hs:=c3.1) (hc:=c3.2) (h:= ?_) | refine ai.mk φ (hc:=c4) (h:= ?_) | refine ai.mk φ (hc:=c4 _) (h:= ?_) | refine ai.mk φ (hs:=c4.1) (hc:=c4.2) (h:= ?_)))));exact RW.nil ⟨gU (by kernel_rfl),aq.mk (h:=rfl)⟩):SW P N k0 (.fm dz bs draw) st Q:=RF.sw hm (hr φ c1 c2 c3 c4) h
end
end
section
section
variable {P:Program} {N k0:Nat} {st yj:St} {Q:Exit→St→Prop} {dz:List SI} {bs:List Nat} {draw:Bool} {Φ:Prop}
variable {r r':List SI} {K K':St→List (Bool×List Nat)→Prop} {C:Prop} {F:List (Bool×List Nat)→Prop} {q:St→Prop} {L:List Nat}
theorem SW.gM (L:List Nat)(hm:P.follows .mixedOrders=true)(φ:Φ)(cs:C)(h:Q .normal yj)(hr:Φ→C→RF P L dz bs draw st yj:=by
   intro φ cs;(repeat (first | refine RW.skip (h:= ?_) | refine RW.ro φ (h:= ?_) | refine RW.op φ (h:= ?_) | refine RW.dD φ (h:= ?_) | refine RW.aY (h:= ?_) | (refine RW.aM (h:= ?_);(first | refine ai.mk φ (hc:=cs.1 _) (h:= ?_) | refine ai.mk φ (hc:=cs.2.1 _) (h:= ?_) | refine ai.mk φ (hc:=cs.2.2.1 _) (h:= ?_) | refine ai.mk φ (hc:=cs.2.2.2.1 _) (h:= ?_) | refine ai.mk φ (hc:=cs.2.2.2.2.1 _) (h:= ?_) | refine ai.mk φ (hc:=cs.2.2.2.2.2.1 _) (h:= ?_) | refine ai.mk φ (hc:=cs.2.2.2.2.2.2.1 _) (h:= ?_) | refine ai.mk φ (hc:=cs.2.2.2.2.2.2.2.1 _) (h:= ?_) | refine ai.mk φ (hc:=cs.2.2.2.2.2.2.2.2.1 _) (h:= ?_) | refine ai.mk φ (hc:=cs.2.2.2.2.2.2.2.2.2.1 _) (h:= ?_) | refine ai.mk φ (hc:=cs.2.2.2.2.2.2.2.2.2.2.1 _) (h:= ?_) | refine ai.mk φ (hc:=cs.2.2.2.2.2.2.2.2.2.2.2.1 _) (h:= ?_)))));exact RW.nil ⟨gU (by kernel_rfl),aq.mk (h:=rfl)⟩):SW P N k0 (.fm dz bs draw) st Q:=RF.sw hm (hr φ cs) h
end
end
section
section
variable {P:Program} {N k0:Nat} {st yj:St} {Q:Exit→St→Prop} {dz:List SI} {bs:List Nat} {draw:Bool} {Φ C X:Prop}
theorem SW.gK (L:List Nat)(hm:P.follows .mixedOrders=true)(φ:Φ)(κ:X)(cs:C)(h:Q .normal yj)
  (hr:Φ→X→C→RF P L dz bs draw st yj:=by
   intro φ κ cs;(repeat (first | refine RW.ro φ (h:= ?_) | refine RW.skip (h:= ?_) | refine RW.op φ (h:= ?_) | refine RW.dD φ (h:= ?_) | refine RW.aY (h:= ?_) | (refine RW.aM (h:= ?_);(first | refine ai.mk φ (hc:=cs.1) (h:= ?_) | refine ai.mk φ (hc:=cs.1 _) (h:= ?_) | refine ai.mk φ (hs:=cs.1.1) (hc:=cs.1.2) (h:= ?_) | refine ai.mk φ (hc:=cs.2.1) (h:= ?_) | refine ai.mk φ (hc:=cs.2.1 _) (h:= ?_) | refine ai.mk φ (hs:=cs.2.1.1) (hc:=cs.2.1.2) (h:= ?_) | refine ai.mk φ (hc:=cs.2.2.1) (h:= ?_) | refine ai.mk φ (hc:=cs.2.2.1 _) (h:= ?_) | refine ai.mk φ (hs:=cs.2.2.1.1) (hc:=cs.2.2.1.2) (h:= ?_) | refine ai.mk φ (hc:=cs.2.2.2.1) (h:= ?_) | refine ai.mk φ (hc:=cs.2.2.2.1 _) (h:= ?_) | refine ai.mk φ (hs:=cs.2.2.2.1.1) (hc:=cs.2.2.2.1.2) (h:= ?_)))));exact RW.nil ⟨gU (by simp [rj,yy,gC,dA,List.range,List.range.loop,κ] <;> (first | decide | (repeat (first | assumption | refine ⟨?_,?_⟩ | exact .inl (by decide) | exact .inl (.inr (by decide)) | exact .inl (.inl (by decide)) | refine .inr ?_)))),aq.mk (h:=rfl)⟩):SW P N k0 (.fm dz bs draw) st Q:=RF.sw hm (hr φ κ cs) h
end
end
end Go.Sl
namespace Go.Sl
open Go.RowKit
section
variable {P:Program}
def SV.Plain (v:SV):Prop:=∀ (p p':Nat→Prop) (μ a_:Nat→Nm) (M M':Mem) (u:Value),Rp p μ M v u→Rp p' a_ M' v u
theorem SV.AE {p p':Nat→Prop}{μ a_:Nat→Nm}{M M':Mem}:∀ {cs:List SV} {l:List Value},(∀ c,c∈cs→SV.Plain c)→aU p μ M cs l→aU p' a_ M' cs l
 | [],l,_,hr=>aU.aR.2 (aU.aR.1 hr)
 | c::cs,l,h,hr=>by
  obtain ⟨u,us,rfl,h1,h2⟩:=aU.aD.1 hr;exact aU.aD.2 ⟨u,us,rfl,h c (by simp) p p' μ a_ M M' u h1,SV.AE (fun c hc=>h c (by simp [hc])) h2⟩
theorem SV.Cl {cs:List SV}(h:∀ c,c∈cs→SV.Plain c):SV.Plain (.agg cs):=fun p p' μ a_ M M' u hu=>by
 obtain ⟨vs,rfl,hr⟩:=Rp.eT.1 hu;exact Rp.eT.2 ⟨vs,rfl,SV.AE h hr⟩
theorem Bx {M:Mem}{b:Nat}:∀ (o:Nat) (ds:List DV),(∀ i x,ds[i]? =some x→∃ u,M b (o+i)=some u∧bX M x u)→dB M b o ds
 | _,[],_=>by simp [dB]
 | o,x::ds,h=>by
  simp only [dB];refine ⟨by simpa using h 0 x rfl,Bx (o+1) ds fun i y hy=> ?_⟩;have:=h (i+1) y (by simpa using hy)
  rwa [show o+(i+1)=o+1+i by omega] at this
end
section
theorem aG {h:Hp}(hn:(h.map (·.1)).Nodup):∀ x,x∈h→lk h x.1=some x.2:=by
 induction h with
 | nil=>intro x hx;cases hx
 | cons y h ih=>
  intro x hx;rw [List.map_cons,List.nodup_cons] at hn;obtain ⟨a,o⟩:=y;rw [aa];rcases List.mem_cons.1 hx with rfl | hx
  ·simp
  ·have:x.1≠a:=fun e=>hn.1 (by rw [← e];exact List.mem_map.2 ⟨x,hx,rfl⟩)
   rw [if_neg this];exact ih hn.2 x hx
def tj (F:Hp)(x:Nat×Ob):Nat×Ob:=match lk F x.1 with
 | some o=>(x.1,o)
 | none=>x
theorem yR:∀ {h:Hp} {n:Nat} {o:Ob},(h.map (·.1)).Nodup→n∈h.map (·.1)→fK h n o=h.map fun x=>if x.1=n then (n,o) else x
 | [],n,o,_,hm=>by cases hm
 | (m,o')::h,n,o,hn,hm=>by
  rw [List.map_cons,List.nodup_cons] at hn;simp only [fK,List.map_cons]
  by_cases e:m=n
  ·subst e
   simp only [if_true]
   congr 1
   symm
   conv=>rhs;rw [← List.map_id h]
   refine List.map_congr_left fun x hx=> ?_
   rw [if_neg fun e=>hn.1 (by rw [← e];exact List.mem_map.2 ⟨x,hx,rfl⟩)];rfl
  ·rw [if_neg e,if_neg e,yR hn.2 ((List.mem_cons.1 hm).resolve_left fun h=>e h.symm)]
theorem iX {h:Hp}{n:Nat}(hm:n∈h.map (·.1)):∃ o,lk h n=some o:=by
 induction h with
 | nil=>cases hm
 | cons y h ih=>
  obtain ⟨m,o⟩:=y;rw [aa]
  by_cases e:n=m
  ·exact ⟨o,by rw [if_pos e]⟩
  ·rw [if_neg e]
   exact ih ((List.mem_cons.1 hm).resolve_left e)
theorem uI (F:Hp)(x:Nat×Ob):(tj F x).1=x.1:=by unfold tj;split <;> rfl
theorem wz {h:Hp}(hn:(h.map (·.1)).Nodup):∀ {F:Hp},(F.map (·.1)).Nodup→(∀ n,n∈F.map (·.1)→n∈h.map (·.1))→bZ h F=h.map (tj F)
 | [],_,_=>by
  simp only [bZ]
  conv=>lhs;rw [← List.map_id h]
  rfl
 | (n,o)::F,hF,hsub=>by
  rw [List.map_cons,List.nodup_cons] at hF;have ih:=wz hn hF.2 fun m hm=>hsub m (List.mem_cons_of_mem _ hm)
  have hnames:(h.map (tj F)).map (·.1)=h.map (·.1):=by rw [List.map_map];exact List.map_congr_left fun x _=>uI F x
  have hmem:n∈(h.map (tj F)).map (·.1):=by rw [hnames];exact hsub n (by simp)
  simp only [bZ];rw [ih];unfold fC;obtain ⟨o1,ho1⟩:=iX hmem;rw [ho1];dsimp only;rw [yR (by rw [hnames];exact hn) hmem,List.map_map];refine List.map_congr_left fun x _=> ?_
  show (if (tj F x).1=n then (n,o) else tj F x)=tj ((n,o)::F) x;rw [uI];unfold tj;rw [aa]
  by_cases e:x.1=n
  ·simp [e]
  ·simp [e]
theorem yS {F:Hp}:∀ {A B:Hp},A.map (·.1)=B.map (·.1)→(∀ x,x∈B→lk F x.1=some x.2)→A.map (tj F)=B
 | [],[],_,_=>rfl
 | [],_::_,h,_=>by simp at h
 | _::_,[],h,_=>by simp at h
 | a::A,b::B,h,hl=>by
  simp only [List.map_cons,List.cons.injEq] at h ⊢;refine ⟨?_,yS h.2 fun x hx=>hl x (List.mem_cons_of_mem _ hx)⟩;have:=hl b (by simp);unfold tj;rw [h.1,this]
theorem jE {h F':Hp}:∀ {F:Hp},(∀ n,n∈F.map (·.1)→(lk F' n).isSome=true)→b_ h F' F=h
 | [],_=>rfl
 | (n,o)::F,hs=>by
  simp only [b_];rw [if_pos (hs n (by simp)),jE fun m hm=>hs m (List.mem_cons_of_mem _ hm)]
theorem k9 {pre F F':Hp}(he:F.map (·.1)=F'.map (·.1))(hn:((pre++F).map (·.1)).Nodup):bZ (b_ (pre++F) F' F) F'=pre++F':=by
 have hn2:(F'.map (·.1)).Nodup:=by rw [← he];rw [List.map_append,List.nodup_append] at hn;exact hn.2.1
 rw [jE fun n h=>by rw [he] at h;obtain ⟨o,ho⟩:=iX h;rw [ho];rfl];rw [wz hn hn2 fun n h=>by rw [List.map_append,List.mem_append,he];exact .inr h,List.map_append,yS he (aG hn2)]
 congr 1
 conv=>rhs;rw [← List.map_id pre]
 refine List.map_congr_left fun x hx=> ?_
 have : lk F' x.1=none:=by
  cases hh:lk F' x.1 with
  | none=>rfl
  | some o=>
   rw [List.map_append,List.nodup_append] at hn;have h1:x.1∈F'.map (·.1):=by
    have:∀ {h:Hp} {n:Nat} {o:Ob},lk h n=some o→n∈h.map (·.1):=by
     intro h
     induction h with
     | nil=>intro n o h;simp [bE] at h
     | cons y h ih=>
      intro n o hl;rw [aa] at hl
      split at hl
      ·rename_i e;subst e;simp
      ·exact List.mem_cons_of_mem _ (ih hl)
    exact this hh
   exact absurd rfl (hn.2.2 x.1 (List.mem_map.2 ⟨x,hx,rfl⟩) x.1 (by rw [he];exact h1))
 unfold tj;rw [this];rfl
theorem sD {n:Nat}{a b:Ob}{F F':Hp}(he:F.map (·.1)=F'.map (·.1))(hn:(((n,a)::F).map (·.1)).Nodup):bZ (b_ ((n,a)::F) ((n,b)::F') F) F'=(n,a)::F':=by
 have h1:=k9 (pre:=[(n,a)]) he hn;rw [jE fun m hm=>by rw [he] at hm;obtain ⟨o,ho⟩:=iX hm;rw [ho];rfl] at h1;rw [jE fun m hm=>by
  rw [he] at hm;obtain ⟨o,ho⟩:=iX hm;rw [aa]
  split
  ·rfl
  ·rw [ho];rfl]
 exact h1
theorem jF (F G:Hp)(m:Nat):lk (F++G) m=(lk F m).or (lk G m):=by
 unfold lk;exact List.lookup_append ..
theorem ir {F H:Hp}{n:Nat}{o:Ob}(hn:lk F n=none)(h:HSub F H):HSub F ((n,o)::H):=fun m ob hm=>by
 rw [aa,if_neg fun e=>by rw [e,hn] at hm;cases hm];exact h m ob hm
theorem mC {h:Hp}{n:Nat}{o:Ob}(hl:lk h n=some o):n∈h.map (·.1):=by
 induction h with
 | nil=>simp [bE] at hl
 | cons y h ih=>
  rw [aa] at hl
  split at hl
  ·rename_i e;subst e;simp
  ·exact List.mem_cons_of_mem _ (ih hl)
theorem iN {h:Hp}{n:Nat}(hn:n∉h.map (·.1)):lk h n=none:=by
 cases hh:lk h n with
 | none=>rfl
 | some o=>exact absurd (mC hh) hn
theorem d_ {h:Hp}{n:Nat}(hn:lk h n=none):n∉h.map (·.1):=fun hm=>by
 obtain ⟨o,ho⟩:=iX hm;rw [hn] at ho;cases ho
theorem jN {H:Hp}{n:Nat}{o:Ob}(hn:lk H n=none)(h:(H.map (·.1)).Nodup):(((n,o)::H).map (·.1)).Nodup:=by
 rw [List.map_cons,List.nodup_cons];exact ⟨d_ hn,h⟩
theorem an {H:Hp}{n:Nat}{o:Ob}{q:Nat→Bool}(h1:q n=true)(h2:o.ok q=true)(h:H.ok q=true):Hp.ok q ((n,o)::H)=true:=by
 simp only [Hp.ok,List.all_cons,Bool.and_eq_true] at h ⊢;exact ⟨⟨h1,h2⟩,h⟩
theorem cE.trim {p:Nat→Prop}{μ:Nat→Nm}{M:Mem}{w:World}{m:Nm}{e sz len:Nat}{cs:List SV}(h:cE p μ M w m (.arr e sz len cs)){n:Nat}(hn:n≤len):cE p μ M w m (.arr e sz n (cs.take (n*sz))):=by
 rcases h with ⟨h1,h2,h3⟩ | ⟨h0,vs,hb,h1,h2,h3,h4,h5⟩
 ·subst h2;subst h3
  exact .inl ⟨h1,by omega,by simp⟩
 ·have hle:n*sz≤len*sz:=Nat.mul_le_mul_right sz hn
  refine .inr ⟨h0,vs,hb,?_,by omega,h3,h4,?_⟩
  ·rw [List.length_take,h1,Nat.min_eq_left hle]
  ·have:=h5.take (n*sz)
   rwa [List.take_take,Nat.min_eq_left hle] at this
theorem SW.trim {P:Program}{N k0:Nat}{s:bP}{st:St}{Q:Exit→St→Prop}{n e sz len:Nat}{cs:List SV}(i:Nat)(hl:lk st.hp n=some (.arr e sz len cs))(hi:i≤len)
  (h:SW P N k0 s ⟨st.env,fC st.hp n (.arr e sz i (cs.take (i*sz))),st.k⟩ Q):SW P N k0 s st Q:=by
 refine fun cc hc rd hrf dg M0 w0 c0 a w fP=>h cc hc rd hrf dg M0 w0 c0 a w ?_
 obtain ⟨l7,hdf,hsz,μ,M,fc,hS,hE⟩:=fP;refine ⟨l7,hdf,hsz,μ,M,fc,⟨hS.mem,fun m ob hm=> ?_,fun m m' h1 h2=>hS.inj m m' ?_ ?_⟩,?_⟩
 ·rw [qQ] at hm
  split at hm
  ·rename_i e;subst e
   injection hm with hm;subst hm;obtain ⟨a1,a2,a3⟩:=hS.obs _ _ hl;exact ⟨a1,a2.trim hi,a3⟩
  ·exact hS.obs m ob hm
 ·rw [qQ] at h1
  split at h1
  ·rename_i e;subst e;rw [hl];simp
  ·exact h1
 ·rw [qQ] at h2
  split at h2
  ·rename_i e;subst e;rw [hl];simp
  ·exact h2
 ·exact hE.yo fun m hm=>by
   rw [qQ] at hm
   split at hm
   ·rename_i e;subst e;rw [hl];simp
   ·exact hm
theorem Eu {P:Program}{op:Op}{neg:Bool}{kd:Nat}{x':X}(hc:cO P op=some (.kG neg kd x')):∃ b t x y t',op= .binOp b t x y t'∧isEq b=true∧eG b=neg∧yu P t y=some kd∧cX x=some x':=by
 cases op <;> simp only [cO] at hc <;> try (cases hc;done)
 case binOp b t x y t'=>
  refine ⟨b,t,x,y,t',rfl,?_⟩
  by_cases hq:isEq b=true
  ·rw [if_pos hq] at hc
   split at hc
   ·repeat' (first | contradiction | (cases hc;done) | split at hc)
   ·repeat' (first | contradiction | (cases hc;done) | split at hc)
   ·repeat' (first | contradiction | (cases hc;done) | split at hc)
   ·repeat' (first | contradiction | (cases hc;done) | split at hc)
   ·split at hc <;> first | (cases hc;done) | skip
    rename_i h1 h2;injection hc with hc;injection hc with e1 e2 e3;subst e2;subst e3;exact ⟨hq,e1,h1,h2⟩
  ·rw [if_neg hq] at hc
   repeat' (first | contradiction | (cases hc;done) | split at hc)
 all_goals (repeat' (first | contradiction | (cases hc;done) | (obtain ⟨_,_,hh⟩:=Option.map_eq_some_iff.1 hc;cases hh;done) | split at hc))
theorem Cn {P:Program}{o:Oper}{E:Nat→Option SV}{H:Nat→Option Ob}{k:Nat}{neg:Bool}{x':X}{n:Nat}{cs:List DV}(hc:cO P o.op=some (.kG neg 3 x'))(hx:ev E x'=some (.d (.sl n cs))):
  nJ P o E H k 0 [] (fun v F'=>F'=[]∧(v= .d (.bool neg)∨(n=0∧v= .d (.bool !neg)))):=by
 obtain ⟨op,t,x,y,t',ho,hop,hneg,hy,hcx⟩:=Eu hc;subst hneg;refine ⟨aV,fun rd p μ M a w K QQ hnew hk hS hK=> ?_⟩;obtain ⟨A,c,e1,e2,e3,e4⟩:=(by simpa [bX] using Rp.cU.1 (hk.get (by simp [ho,Op.operands]) hcx hx):∃ A cp,a.eval x= .slice A n cp∧n≤cp∧(n=0→cs=[])∧(0<n→∃ b q,A=some ⟨b,q,none⟩∧dB M b q cs));have hty:∃ e,P.underlying t=some (.slice e)∧a.eval y= .slice none 0 0:=by
  unfold yu at hy
  split at hy <;> first | (cases hy;done) | skip
  all_goals first
   | (injection hy with hy;cases hy;done)
   | exact ⟨_,by assumption,rfl⟩
 obtain ⟨el,hty,hyv⟩:=hty;have h0:∀ d,(Op.equalIn (d+1) t (a.eval x) (a.eval y)).run P w= .ok A.isNone w:=fun d=>by
  rw [e1,hyv];cases A <;> simp [Op.equalIn,run_underlying hty]
 have h1:=h0 9999;clear h0;have n5:eqGuard op t x y (a.eval x) (a.eval y)=Pure.pure ():=by rw [e1];simp [eqGuard_at_slice]
 have hb:(binOp op t (a.eval x) (a.eval y)).run P w= .ok (.bool (bif eG op then !A.isNone else A.isNone)) w:=by
  rw [e1,hyv] at h1 ⊢;rcases mS hop with rfl | rfl <;> simp [binOp,Op.equal,Op.maxDepth,h1,eG]
 have hex:(execOp a.eval o).run P w= .ok (.value (.bool (bif eG op then !A.isNone else A.isNone))) w:=by
  simp only [execOp,ho,Sem.run_bind,n5,Sem.run_pure,Result.andThen_ok,hb]
 refine ij hex (hK (.d (.bool (bif eG op then !A.isNone else A.isNone))) [] _ μ M w ⟨rfl,?_⟩ (Rp.bG.2 rfl) (hS.more fun _ h=> .inl h) (Ev.refl _ _ _ _ _ fun n h=>by simp [bE] at h))
 by_cases hn:n=0
 ·cases A <;> cases eG op <;> simp [hn]
 ·obtain ⟨b,q,rfl,_⟩:=e4 (by omega)
  left;cases eG op <;> rfl
theorem bu.Mo {P:Program}{N k0:Nat}{st:St}{K:St→Prop}{si:SI}{r:List SI}{F:Hp}{nk:Nat}{Q:SV→Hp→Prop}(hg:si.g=none)(hq:∀ o:Oper,cO P o.op=some si.op→nJ P o (fun t=>st.env.lookup t) (lk st.hp) st.k nk F Q)
  (hro:∀ v F',Q v F'→F'=F) (h:∀ v F',Q v F'→bu P N k0 r (lN st si ⟨v,F,F',nk,True⟩) K):bu P N k0 (si::r) st K:=by
 refine bu.cons fun ops o hc hN rd dg M0 w0 c0 a w fP i ho Q' KK Eo=> ?_
 obtain ⟨g1,g2,g3⟩:=gE hc;have hgn:o.guard=none:=by
  rcases g3 with ⟨h,_⟩ | ⟨j,w,t,h,_,h'⟩
  ·exact h
  ·rw [hg] at h';cases h'
 unfold wpOpIn;simp only [ho,Region.wanted,hgn,if_true];exact (iC.step g2 (fun d hd=>hN d (by rw [g2];exact hd)) (hq o g1) (fun v F' hQ hr=>hro v F' hQ) fP fun v F' hQ a' w' hSt'=>Eo _ a' w' (h v F' hQ) hSt')
theorem SW.Mp {P:Program}{N k0:Nat}{st:St}{Q:Exit→St→Prop}{d s t n:Nat}{cs:List DV}{neg:Bool}{bs:List Nat}(hl:st.env.lookup s=some (.d (.sl n cs)))
  (h1:Q .normal ⟨(d,.d (.bool neg))::(t,.d (.sl n cs))::st.env,st.hp,st.k⟩) (h2:n=0→Q .normal ⟨(d,.d (.bool !neg))::(t,.d (.sl n cs))::st.env,st.hp,st.k⟩):
  SW P N k0 (.fm [⟨some t,.mv (.t s),none⟩,⟨some d,.kG neg 3 (.t t),none⟩] bs false) st Q:=by
 refine SW.vC (bu.one (dL:=[]) (c2:=[]) (e:=⟨.d (.sl n cs),[],[],0,True⟩) (by simp only [fU,ff,dH,ev,hl]) trivial ?_);refine bu.Mo rfl (fun o hc=>Cn (n:=n) (cs:=cs) hc (by simp [lN,ev])) (fun v F' h=>h.1) fun v F' hv=>bu.nil ?_
 obtain ⟨rfl,rfl | ⟨h0,rfl⟩⟩:=hv
 ·exact h1
 ·exact h2 h0
theorem SB.same {P:Program}{f:FuncId}{args:List SV}{F:Hp}{k nk:Nat}{v:SV}(h:SB P f args F k nk fun r F'=>r=v∧F'=F)(lJ:F.ok (fun m=>(lk F m).isSome)=true)(ha:SV.ax (fun m=>(lk F m).isSome) args=true)(hv:∀ q,v.ok q=true):aF P f args F k nk v F:=by
 unfold aF;refine h.here (fun m=>(lk F m).isSome) (fun m h e=>by rw [e] at h;cases h) ha lJ ?_;rintro x F' ⟨rfl,rfl⟩ _ _;exact ⟨hv _,Hp.ez (fun m hm=>by rw [hm];rfl) lJ⟩
end
section
variable {P:Program} {N k0:Nat}
theorem Ew {ops:Array Oper}{o:Oper}{si:SI}{st:St}{e:l6}{c1 c2:List CR}{i:Nat}{rd:Option Nat}{dg:Nat→Nm}{M0:Mem}{w0:World}{c0:Nat→Option Ob}{a:Act}{w:World}{Q':Exit→Act→World→Prop}{KK:Act→World→Prop}
  (ho:ops[i]? =some o) (hc:p_ P ops o=some si) (hN:∀ d,si.dst=some d→d<N) (hop:fU P st si c1=some (e,c2)) (bz:e.ob) (fP:iC N dg M0 w0 c0 k0 st a w) (Eo:∀ a' w',iC N dg M0 w0 c0 k0 (lN st si e) a' w'→KK a' w'):wpOpIn (jP rd) 0 P ops Q' i KK a w:=by
 obtain ⟨b1,b2,b3⟩:=qk hc hop bz;obtain ⟨g1,g2,g3⟩:=gE hc;unfold wpOpIn;simp only [ho];obtain ⟨l7,hdf,hsz,μ,M,fc,hS,hE⟩:=fP;have fP:iC N dg M0 w0 c0 k0 st a w:=⟨l7,hdf,hsz,μ,M,fc,hS,hE⟩;rcases b1 with ⟨j,want,t,sv,hg,hd,hE',hb,e1,e2,e3,e4⟩ | ⟨hg,hs⟩
 ·have hv:=fc t _ hE'
  have hw:Region.wanted o (yielded ops a.tmps)=false:=by
   simp only [Region.wanted,hg];unfold mq at hb
   split at hb
   ·rw [iA hd (Rp.bG.1 hv)]
    simpa using hb
   ·obtain ⟨vs,e,hvs⟩:=Rp.dX.1 hv
    have hvs0:vs= #[]:=by have:=aU.aR.1 hvs;simpa using this
    rw [qh hd (by rw [e,hvs0];rfl)];rfl
   ·cases hb
  simp only [hw,Bool.false_eq_true,if_false];obtain ⟨v,F,F',nk,eo⟩:=e;simp only at e1 e2 e3 e4;subst e1;subst e2;subst e3;subst e4;exact ⟨fun _ _=>trivial,Eo _ _ (iC.skip g2 (fun d hd=>hN d (by rw [g2];exact hd)) fP)⟩
 ·have hw:Region.wanted o (yielded ops a.tmps)=true:=by
   rcases hg with hg | ⟨j,want,t,hg,hd,hE'⟩
   ·simp [Region.wanted,hg]
   ·have hv:=Rp.bG.1 (fc t _ hE')
    simp only [Region.wanted,hg,iA hd hv];simp
  simp only [hw,if_true];exact (iC.step g2 (fun d hd=>hN d (by rw [g2];exact hd)) hs.q (fun v F' hQ hr=>by rw [hQ.2];exact b2 hr) fP fun v F' hQ a' w' hSt'=>Eo a' w' (by rw [hQ.1,hQ.2] at hSt';exact hSt'))
def LP (n:Nat)(bs:List Nat)(mask:Nat):List Nat:=(List.range n).filter fun i=> !mask.testBit i && (List.range n).all fun j=> !gC bs j i || mask.testBit j
def wC (P:Program)(N k0:Nat)(dz:List SI)(bs:List Nat)(mask:Nat)(st:St)(K:St→Prop):Prop:=
 ∀ (ops:Array Oper),ops.size=dz.length→(∀ (j:Nat) (si:SI),dz[j]? =some si→∃ o:Oper,ops[j]? =some o∧p_ P ops o=some si)→(∀ si∈dz,∀ d,si.dst=some d→d<N)→okB ops bs=true→
  ∀ (rd:Option Nat) (dg:Nat→Nm) (M0:Mem) (w0:World) (c0:Nat→Option Ob) (fuel:Nat) (listed:Array Bool) (a:Act) (w:World),listed.size=ops.size→iB listed ops.size=fuel→tZ ops (fun j=>listed.getD j false)→
   (∀ j,j<ops.size→listed.getD j false=mask.testBit j)→iC N dg M0 w0 c0 k0 st a w→∀ Q':Exit→Act→World→Prop,(∀ st' a' w',K st'→iC N dg M0 w0 c0 k0 st' a' w'→Q' .normal a' w')→
   wpAnyIn (jP rd) 0 P .any ops Q' fuel listed a w
def Oa (P:Program)(N k0:Nat)(dz:List SI)(bs:List Nat)(mask:Nat)(st:St)(K:St→Prop)(i:Nat):Prop:=
 ∃ si e c2,dz[i]? =some si∧fU P st si []=some (e,c2)∧e.ob∧wC P N k0 dz bs (mask ||| 2 ^ i) (lN st si e) K
theorem wC.done {dz:List SI}{bs:List Nat}{mask:Nat}{st:St}{K:St→Prop}(h:(List.range dz.length).all (fun i=>mask.testBit i)=true)(hk:K st):wC P N k0 dz bs mask st K:=by
 intro ops hn kK hN hok rd dg M0 w0 c0 fuel listed a w hl hcnt hc hm fP Q' hQ;have hall:∀ j,j<ops.size→listed.getD j true=true:=fun j hj=>by
  have h1:=List.all_eq_true.1 h j (List.mem_range.2 (by omega));have h2:=hm j hj;rw [h1] at h2
  simpa [show j<listed.size by omega] using h2
 have h0:fuel=0:=by rw [← hcnt];exact qj hall
 subst h0;refine ⟨List.eq_nil_iff_forall_not_mem.2 fun i hi=> ?_,hQ st a w hk fP⟩;obtain ⟨h1,o,h2,_⟩:=mem_ready.1 hi;rw [hall i (Array.getElem?_eq_some_iff.1 h2).1] at h1;cases h1
theorem wC.step {dz:List SI}{bs:List Nat}{mask:Nat}{st:St}{K:St→Prop}(hne:(List.range dz.length).all (fun i=>mask.testBit i)=false)(h:∀ i∈LP dz.length bs mask,Oa P N k0 dz bs mask st K i):wC P N k0 dz bs mask st K:=by
 intro ops hn kK hN hok rd dg M0 w0 c0 fuel listed a w hl hcnt hc hm fP Q' hQ;have same:∀ j,j<ops.size→listed.getD j true=listed.getD j false:=fun j hj=>by simp [show j<listed.size by omega]
 cases fuel with
 | zero=>
  exfalso
  have hall:=ou hcnt;have:(List.range dz.length).all (fun i=>mask.testBit i)=true:=List.all_eq_true.2 fun i hi=>by
   have hi:=List.mem_range.1 hi;rw [← hm i (by omega),← same i (by omega)];exact hall i (by omega)
  rw [this] at hne;cases hne
 | succ fuel=>
  refine ⟨fun hr=> ?_,fun i hi=> ?_⟩
  ·have:=qj (vX hok hl hr)
   omega
  ·obtain ⟨h1,o,h2,h3⟩:=mem_ready.1 hi
   have hi':i<ops.size:=(Array.getElem?_eq_some_iff.1 h2).1;have hn0:listed.getD i false=false:=by rw [← same i hi'];exact h1
   have hp:Bm ops (fun j=>listed.getD j false) i:=fun o' ho' e he hbd=>by
    rw [h2] at ho';injection ho' with ho';subst ho';exact h3 e he hbd
   have hin:i∈LP dz.length bs mask:=by
    unfold LP;rw [List.mem_filter,List.mem_range];refine ⟨by omega,?_⟩;rw [Bool.and_eq_true];refine ⟨by rw [← hm i hi',hn0];rfl,List.all_eq_true.2 fun j hj=> ?_⟩;have hj:=List.mem_range.1 hj;cases ho:gC bs j i with
    | false=>rfl
    | true=>
     rw [← hm j (by omega),sk hok hc hi' (by omega) hp ho];rfl
   obtain ⟨si,e,c2,g1,g2,g3,g4⟩:=h i hin;obtain ⟨o',ho',hco⟩:=kK i si g1;rw [h2] at ho';injection ho' with ho';subst ho';have hD:∀ j,(listed.getD j false || j == i)=(listed.setIfInBounds i true).getD j false:=fun j=>by
    by_cases hji:j=i
    ·subst hji
     simp [show j<listed.size by omega]
    ·rw [getD_set_ne false (Ne.symm hji)]
     simp [beq_eq_false_iff_ne.2 hji]
   have fin:∀ a' w',iC N dg M0 w0 c0 k0 (lN st si e) a' w'→wpAnyIn (jP rd) 0 P .any ops Q' fuel (listed.setIfInBounds i true) a' w':=fun a' w' hSt'=>by
    refine g4 ops hn kK hN hok rd dg M0 w0 c0 fuel _ a' w' (by simpa using hl) (by have:=qi h1 ops.size;simp [hi'] at this;omega) (fun j o' hDj ho' ed he hbd=> ?_) (fun j hj=> ?_) hSt' Q' hQ
    ·simp only [← hD] at hDj ⊢
     simp only [Bool.or_eq_true,beq_iff_eq] at hDj;rcases hDj with h | rfl
     ·simp [hc j o' h ho' ed he hbd]
     ·rw [h2] at ho';injection ho' with ho';subst ho'
      have:=h3 ed he hbd;simp [this]
    ·rw [← hD,hm j hj,Nat.testBit_or,Nat.testBit_two_pow]
     congr 1
     by_cases hji:j=i
     ·subst hji;simp
     ·rw [beq_eq_false_iff_ne.2 hji,decide_eq_false (fun e=>hji e.symm)]
   exact Ew h2 hco (fun d hd=>hN si (List.mem_of_getElem? g1) d hd) g2 g3 fP fin
theorem SW.tree {st:St}{Q:Exit→St→Prop}{dz:List SI}{bs:List Nat}(hm:P.follows .mixedOrders=true)(h:wC P N k0 dz bs 0 st (Q .normal)):SW P N k0 (.fm dz bs true) st Q:=by
 intro c hc rd hrf dg M0 w0 c0 a w fP;cases c <;> simp only [cK] at hc <;> first
  | (cases hc;done)
  | (exfalso;split at hc <;> cases hc;done)
  | (exfalso;obtain ⟨_,_,h'⟩:=Option.map_eq_some_iff.1 hc;cases h';done)
  | skip
 rename_i id ops draw
 split at hc <;> first | (cases hc;done) | skip
 rename_i sis' bs' hreg;injection hc with hc;injection hc with h1 h2 h3;subst h1;subst h2;subst h3;unfold D9 at hreg
 split at hreg <;> first | (cases hreg;done) | skip
 rename_i sis2 hsis
 split at hreg <;> first | (cases hreg;done) | skip
 rename_i hchk;injection hreg with hreg;injection hreg with hr1 hr2;subst hr1;rw [hr2] at hchk;simp only [Bool.and_eq_true,Bool.not_true,Bool.false_or] at hchk;obtain ⟨⟨hok,_⟩,hin⟩:=hchk;obtain ⟨hlen,kK⟩:=mY hsis;have hn:ops.size=sis2.length:=by simpa using hlen
 refine wpIn_region_any hm ?_;have hSt2:iC N dg M0 w0 c0 k0 st a w.drew:=by
  obtain ⟨b1,b2,b3,μ,M,b4,b5,b6⟩:=fP;exact ⟨b1,b2.ev b5 (Ev.refl _ (fun _=>False) _ _ _ fun _ _ h=>h).drew,b3,μ,M,b4,b5.drew,b6.drew⟩
 refine h ops hn (fun j si hj=> ?_) (fun si hs d hd=> ?_) hok rd dg M0 w0 c0 ops.size _ a w.drew (by simp) ?_ (fun j o h=> ?_) (fun j hj=>by simp [hj]) hSt2 _ fun st' a' w' hk hs=>⟨st',hk,hs⟩
 ·have hj':j<ops.size:=by rw [hn];exact (List.getElem?_eq_some_iff.1 hj).1
  obtain ⟨si',h1,h2⟩:=kK j ops[j] (by simp [hj']);rw [hj] at h1;injection h1 with h1;subst h1;exact ⟨ops[j],Array.getElem?_eq_getElem hj',h2⟩
 ·have:=List.all_eq_true.1 hin si hs
  rw [hd] at this
  simpa using this
 ·have:∀ n,n≤ops.size→iB (Array.replicate ops.size false) n=n:=by
   intro n
   induction n with
   | zero=>intro _;rfl
   | succ n ih=>intro hn';simp only [iB,ih (by omega)];simp [show n<ops.size by omega]
  exact this _ (Nat.le_refl _)
 ·exfalso
  by_cases hj:j<ops.size
  ·simp [hj] at h
  ·simp [hj] at h
end
section
variable {P:Program} {N k0:Nat} {dz:List SI} {bs:List Nat} {mask:Nat} {st:St} {K:St→Prop}
theorem wC.s1 (i:Nat)(hne:(List.range dz.length).all (fun i=>mask.testBit i)=false:=by kernel_rfl)(hr:LP dz.length bs mask=[i]:=by rfl)(h1:Oa P N k0 dz bs mask st K i):wC P N k0 dz bs mask st K:=
 wC.step hne fun j hj=>by rw [hr] at hj;simp at hj;subst hj;exact h1
theorem wC.s2 (i j:Nat)(hne:(List.range dz.length).all (fun i=>mask.testBit i)=false:=by kernel_rfl)(hr:LP dz.length bs mask=[i,j]:=by rfl)(h1:Oa P N k0 dz bs mask st K i)(h2:Oa P N k0 dz bs mask st K j):wC P N k0 dz bs mask st K:=
 wC.step hne fun q hj=>by rw [hr] at hj;simp at hj;rcases hj with rfl | rfl <;> assumption
theorem wC.s3 (i j l:Nat)(hne:(List.range dz.length).all (fun i=>mask.testBit i)=false:=by kernel_rfl)(hr:LP dz.length bs mask=[i,j,l]:=by rfl)(h1:Oa P N k0 dz bs mask st K i)(h2:Oa P N k0 dz bs mask st K j)(h3:Oa P N k0 dz bs mask st K l):wC P N k0 dz bs mask st K:=
 wC.step hne fun q hj=>by rw [hr] at hj;simp at hj;rcases hj with rfl | rfl | rfl <;> assumption
theorem Oa.mk {i:Nat}{d:Option Nat}{op:SO}{g:Option (Nat×Bool)}{env env':List (Nat×SV)}{hp oq F F':Hp}{k k' mask':Nat}{v:SV}{nk:Nat}{ob:Prop}{Φ:Prop}(φ:Φ)
  (hsi:dz[i]? =some ⟨d,op,g⟩:=by rfl)
  (hg:g=none∨∃ t w,g=some (t,w)∧env.lookup t=some (.d (.bool w)):=by first | exact .inl rfl | exact .inr ⟨_,_,rfl,rfl⟩)
  (he:Φ→ff P ⟨env,hp,k⟩ op []=some (⟨v,F,F',nk,ob⟩,[]):=by
   intro φ;simp (disch:=omega) only [Go.Sl.seg,lE,gF,ff,dH,ev,pY,vn,lN,List.lookup,Nat.reduceBEq,Nat.reduceAdd,Nat.reduceMul,Nat.zero_add,SV.cells,if_true,if_false,reduceIte,Bool.false_eq_true,dA,bS,bZ,b_,fC,fK,cM,lk,List.filter,Nat.reduceBNe,bne_self_eq_false,eq_self,z7,yh,gq,vu,vv,DT,aB.cells_one,BEq.rfl,beq_self_eq_true,Bool.true_or,Nat.reduceEqDiff,List.map_cons,List.map_nil,List.nil_append,List.cons_append,List.append_nil,Int.toNat_natCast,Nat.mul_one,Nat.add_zero,iT,iS,kH,iD,iE,iF,iI,iJ,iK,kI,Option.isSome_some,Option.isSome_none,Option.isNone_some,Option.isNone_none,Nat.zero_ne_one,Nat.one_ne_zero,Bool.and_false,Bool.and_true,List.drop_zero,aB.aI,aB.bk,aB.bD,Dt.cells_one,Dt.bk,Dt.Ao,Dt.Ap,Dt.bD,Dt.aI,Dt.Ay,Dt.Az,lU,e_,vw,tU,List.all_cons,List.all_nil,SV.dO,Int.cast_ofNat_Int,Int.reduceBNe,Int.reduceBEq,Int.reduceLT,Int.reduceLE,Int.reduceGT,Int.reduceGE,ng,uo,uq,Bool.not_true,Bool.not_false,Bool.or_false,Bool.or_true,Bool.false_or,Bool.or_self,aB.qm,aB.Aq,aB.uk,aB.um,aB.dM,aB.dN,Dt.qm,Dt.Ar,Dt.dM,Dt.dN,List.all_append,aB.yK,Dt.qC,Bool.cond_true,Bool.cond_false,wrap_i64,jC,wrap_u32',wrap_u8',af,uD,kX,kY,Int.reduceToNat,List.length_nil,List.getElem?_cons_zero,List.getElem?_cons_succ,List.take_succ_cons,List.take_zero,List.drop_succ_cons,decide_true,decide_false,Bool.true_and,Bool.and_self,Bool.false_and,nh,ni,jU,jV,jB,MM.eL,kS,ox,nw,nB,nt,ny,nu,nA,nq,nr,ag.cells_one,ag.bk,ag.kU,ag.As,ag.uw,ag.Au,ag.kV,ag.ux,ag.uy,ag.Ku,ag.iL,ag.iM,ag.qn,ag.Kv,ag.Av,ag.uz,ag.Aw,ag.qo,ag.qp,ag.uA,ag.uB,ag.bD,ag.aI,Cr.cells_one,Cr.bk,Cr.kU,Cr.kV,Cr.Ax,Cr.uC,Cr.iL,Cr.iM,Cr.qn,Cr.qq,Cr.bD,Cr.aI,Cr.qC,nC,nD,nE,nG,Sp.cells_one,Sp.bk,Sp.kU,Sp.gN,Sp.bD,Sp.aI,Sp.fL,Sp.qC,nI,nH,φ]
   with_reducible rfl)
  (bz:ob:=by first | trivial | (repeat' (first | exact trivial | omega | apply And.intro | (simp [-List.length_flatMap,-Int.natCast_add];done) | (simp [-List.length_flatMap,-Int.natCast_add] <;> omega))))
  (hh:Φ→bS (dA op) hp F F'=oq:=by (intro φ;simp only [φ,dA,bS,bZ,b_,fC,fK,cM,lk,List.lookup,Nat.reduceBEq,BEq.rfl,beq_self_eq_true,if_true,if_false,reduceIte,Nat.reduceEqDiff,Bool.false_eq_true,Option.isSome_some,Option.isSome_none] <;> with_reducible rfl))
  (hk:k+nk=k':=by first | (simp only [Nat.add_zero,Nat.reduceAdd] <;> rfl) | rfl)
  (hm:mask ||| 2 ^ i=mask':=by first | (simp only [Nat.reducePow,Nat.reduceOr] <;> rfl) | rfl)
  (NO:qZ d v env=env':=by (simp only [qZ] <;> rfl))
  (h:wC P N k0 dz bs mask' ⟨env',oq,k'⟩ K):Oa P N k0 dz bs mask ⟨env,hp,k⟩ K i:=by
 subst hm;refine ⟨⟨d,op,g⟩,⟨v,F,F',nk,ob⟩,[],hsi,fu hg (he φ),bz,?_⟩;rw [g_,hh φ,hk,NO];exact h
end
section
end
section
variable {P:Program}
structure pF {σ:Type}(G:Hp)(Fh:σ→Hp)(s:σ)(kk:Nat):Prop where
 nd:(G.map (·.1)).Nodup
 lt:∀ n,n∈G.map (·.1)→n<kk
 no:∀ n,n∈G.map (·.1)→lk (Fh s) n=none
 ok:G.ok (fun n=>decide (n<kk))=true
 okF:(Fh s).ok (fun n=>decide (n<kk))=true
theorem gf {G:Hp}{n:Nat}(h:n∉G.map (·.1)):lk G n=none:=by
 cases hh:lk G n with
 | none=>rfl
 | some o=>
  exfalso;apply h
  clear h
  induction G with
  | nil=>simp [bE] at hh
  | cons x G ih=>
   rw [aa] at hh
   split at hh
   ·rename_i e;rw [e];simp
   ·rw [List.map_cons];exact List.mem_cons_of_mem _ (ih hh)
section
variable {σ:Type} {G:Hp} {Fh:σ→Hp} {s:σ} {kk:Nat}
theorem pF.sub (h:pF G Fh s kk):HSub (Fh s) (G++Fh s):=fun n ob hn=>by
 have:n∉G.map (·.1):=fun hm=>by rw [h.no n hm] at hn;cases hn
 rw [jF,gf this,Option.none_or];exact hn
theorem pF.all (h:pF G Fh s kk)(hF:∀ x,x∈Fh s→lk (Fh s) x.1=some x.2):∀ x,x∈G++Fh s→lk (G++Fh s) x.1=some x.2:=fun x hx=>by
 rcases List.mem_append.1 hx with hx | hx
 ·rw [jF,aG h.nd x hx];rfl
 ·exact h.sub x.1 x.2 (hF x hx)
theorem pF.xD (h:pF G Fh s kk):(G++Fh s).ok (fun n=>decide (n<kk))=true:=by
 have h1:=h.ok;have h2:=h.okF;unfold Hp.ok at*;rw [List.all_append,h1,h2];rfl
theorem pF.mono {k':Nat}(h:pF G Fh s kk)(hk:kk≤k'):pF G Fh s k':=⟨h.nd,fun n hn=>Nat.lt_of_lt_of_le (h.lt n hn) hk,h.no,Hp.bB hk h.ok,Hp.bB hk h.okF⟩
theorem pF.less {G':Hp}(h:pF G Fh s kk)(hs:G'.Sublist G):pF G' Fh s kk:=
 ⟨h.nd.sublist (hs.map _),fun n hn=>h.lt n ((hs.map _).subset hn),fun n hn=>h.no n ((hs.map _).subset hn),by
  have:=h.ok;unfold Hp.ok at*;rw [List.all_eq_true] at*;exact fun x hx=>this x (hs.subset hx),h.okF⟩
theorem pF.out (h:pF G Fh s kk){n:Nat}(hn:kk≤n):lk (Fh s) n=none:=Hp.out h.okF hn
theorem pF.new {n k':Nat}{ob:Ob}(h:pF G Fh s kk)(hn:kk≤n)(hk:n<k')(ho:ob.ok (fun m=>decide (m<k'))=true):pF ((n,ob)::G) Fh s k':=by
 refine ⟨List.nodup_cons.2 ⟨fun hm=> ?_,h.nd⟩,fun m hm=> ?_,fun m hm=> ?_,?_,Hp.bB (by omega) h.okF⟩
 ·have:=h.lt n hm;omega
 ·rcases List.mem_cons.1 hm with rfl | hm
  ·exact hk
  ·have:=h.lt m hm;omega
 ·rcases List.mem_cons.1 hm with rfl | hm
  ·exact h.out hn
  ·exact h.no m hm
 ·have:=Hp.bB (show kk≤k' by omega) h.ok
  unfold Hp.ok at*;rw [List.all_cons,this,ho]
  simpa using hk
theorem pF.keep {G1:Hp}(h1:pF G1 Fh s kk)(hs:∀ x,x∈G→x∈G1):∀ n ob,lk (G++Fh s) n=some ob→lk (G1++Fh s) n=some ob:=fun n ob hn=>by
 rw [jF] at hn;cases hg:lk G n with
 | some o=>
  rw [hg] at hn;have e:o=ob:=by simpa using hn
  have hm:(n,o)∈G:=by
   clear hn hs
   induction G with
   | nil=>simp [bE] at hg
   | cons x G ih=>
    rw [aa] at hg
    split at hg
    ·rename_i e;injection hg with hg;rw [e,← hg];simp
    ·exact List.mem_cons_of_mem _ (ih hg)
  rw [jF,aG h1.nd _ (hs _ hm),← e];rfl
 | none=>
  rw [hg,Option.none_or] at hn;have:n∉G1.map (·.1):=fun hm=>by rw [h1.no n hm] at hn;cases hn
  rw [jF,gf this,Option.none_or];exact hn
theorem aK.own {k0 k:Nat}{env qT:List (Nat×SV)}{hp:Hp}(h:pF G Fh s kk)(hF:∀ x,x∈Fh s→lk (Fh s) x.1=some x.2)(hk:k0≤kk)(he:bp id kk env qT)(hh:∀ n ob,lk (G++Fh s) n=some ob→lk hp n=some ob):aK k0 ⟨env,hp,k⟩ ⟨qT,G++Fh s,kk⟩ id:=
 aK.same hk he h.xD fun x hx=>hh _ _ (h.all hF x hx)
end
section
variable {N k0:Nat} {K:St→Prop}
end
end
section
def Ob.iw (n len:Nat)(ds:List DV):Ob→Ob
 | .box t cs=> .box t (SV.vB n len ds cs)
 | .map es c=> .map (es.map fun e=>(e.1,e.2.1,e.2.2.iw n len ds)) c
 | o=>o
theorem gP.iw {p:Nat→Prop}{μ:Nat→Nm}{M:Mem}{n len:Nat}{ds:List DV}(hg:∀ v,Rp p μ M (.gs n len) v→Rp p μ M (.d (.sl len ds)) v):∀ (r:List (Nat×SV×SV)) (es:List MapEntry),gP p μ M r es→gP p μ M (r.map fun e=>(e.1,e.2.1,e.2.2.iw n len ds)) es
 | [],es,h=>h
 | (b,k,v)::r,es,⟨e,es',h1,h2,h3,h4,h5⟩=>⟨e,es',h1,h2,h3,SV.pq hg v _ h4,gP.iw hg r es' h5⟩
def Cp (n len:Nat)(ds:List DV)(h:Hp):Hp:=h.map fun x=>(x.1,x.2.iw n len ds)
theorem Bz (n len:Nat)(ds:List DV):∀ (h:Hp) (m:Nat),lk (Cp n len ds h) m=(lk h m).map (Ob.iw n len ds)
 | [],m=>rfl
 | (q,o)::h,m=>by
  have ih:=Bz n len ds h m;unfold Cp at ih ⊢;rw [List.map_cons,aa,aa]
  split
  ·rfl
  ·exact ih
abbrev Ex (φ:Ob→Ob)(n len:Nat)(ds:List DV):Prop:=∀ (p:Nat→Prop) (μ:Nat→Nm) (M:Mem) (w:World),(∀ v,Rp p μ M (.gs n len) v→Rp p μ M (.d (.sl len ds)) v)→∀ m o,cE p μ M w m o→cE p μ M w m (φ o)
abbrev yT (φ:Ob→Ob)(h:Hp):Hp:=h.map fun x=>(x.1,φ x.2)
theorem oA (φ:Ob→Ob):∀ (h:Hp) (m:Nat),lk (yT φ h) m=(lk h m).map φ
 | [],m=>rfl
 | (q,o)::h,m=>by
  have ih:=oA φ h m;unfold yT at ih ⊢;rw [List.map_cons,aa,aa]
  split
  ·rfl
  ·exact ih
theorem bU.Mq {p:Nat→Prop}{μ:Nat→Nm}{M:Mem}{w:World}{h:Hp}{n len:Nat}{ds:List DV}{φ:Ob→Ob}(hφ:Ex φ n len ds)(hS:bU p μ M (lk h) w)(hg:∀ v,Rp p μ M (.gs n len) v→Rp p μ M (.d (.sl len ds)) v):bU p μ M (lk (yT φ h)) w:=by
 refine ⟨⟨hS.mem.cell,hS.mem.kF⟩,fun m ob hm=> ?_,fun m m' hm hm'=> ?_⟩
 ·rw [oA] at hm
  obtain ⟨o,ho,rfl⟩:=Option.map_eq_some_iff.1 hm;obtain ⟨a1,a2,a3⟩:=hS.obs m o ho;exact ⟨a1,hφ p μ M w hg _ _ a2,a3⟩
 ·have key:∀ m,lk (yT φ h) m≠none→lk h m≠none:=fun m hm hn=>hm (by rw [oA,hn];rfl)
  exact hS.inj m m' (key m hm) (key m' hm')
theorem Ky (n len:Nat)(ds:List DV):Ex (Ob.iw n len ds) n len ds:=fun p μ M w hg m o a2=>by
 cases o with
 | box t cs=>
  simp only [cE,Ob.iw] at a2 ⊢;obtain ⟨b1,vs,b2,b3⟩:=a2;exact ⟨b1,vs,b2,SV.qW hg cs _ b3⟩
 | map es c=>
  simp only [cE,Ob.iw] at a2 ⊢;obtain ⟨b1,vs,b2,b3⟩:=a2;exact ⟨b1,vs,b2,gP.iw hg es _ b3⟩
 | _=>exact a2
section
variable {P:Program} {N k0:Nat} {st:St} {Q:Exit→St→Prop}
theorem iC.HK {φ:Ob→Ob}{dg:Nat→Nm}{M0:Mem}{w0:World}{c0:Nat→Option Ob}{a:Act}{w:World}(n:Nat){e sz len:Nat}{cs:List SV}{ds:List DV}(hφ:Ex φ n len ds)(hn:lk st.hp n=some (.arr e sz len cs))(hcs:cs=ds.map .d)
    (h:iC N dg M0 w0 c0 k0 st a w):iC N dg M0 w0 c0 k0 ⟨iZ n len ds st.env,yT φ (cM st.hp n),st.k⟩ a w:=by
  subst hcs;obtain ⟨l7,hdf,hsz,μ,M,fc,hS,hE⟩:=h;obtain ⟨hpn,bz,hMn⟩:=hS.obs n _ hn;rcases bz with ⟨hdead,hl0,hds⟩ | ⟨hlive,vs,hb,hl1,hl2,LM,hl4,hr⟩
  · have hd0:ds=[]:=by simpa using hds
    subst hd0;subst hl0;have hg:∀ v,Rp (· <st.k) μ M (.gs n 0) v→Rp (· <st.k) μ M (.d (.sl 0 [])) v:=fun v hv=>by
      refine Rp.cU.2 ?_;simp only [bX];obtain ⟨h,_⟩ | ⟨_,_,A,e1⟩:=hv.lI
      · rw [hdead] at h;cases h
      · exact ⟨A,0,e1,Nat.le_refl _,fun _=>trivial,fun h=>absurd h (Nat.lt_irrefl _)⟩
    have hsub:∀ m ob,lk (cM st.hp n) m=some ob→lk st.hp m=some ob:=fun m ob hm=>by
      rw [dY] at hm
      split at hm
      · cases hm
      · exact hm
    refine ⟨l7,hdf,hsz,μ,M,fun t s hs=> ?_,(hS.sub hsub).Mq hφ hg,hE.yo fun m hm=> ?_⟩
    · rw [kN] at hs
      obtain ⟨s',hs',rfl⟩:=Option.map_eq_some_iff.1 hs;exact SV.pq hg s' _ (fc t s' hs')
    · obtain ⟨o1,ho1⟩:=Option.ne_none_iff_exists'.1 hm
      rw [oA] at ho1;obtain ⟨o2,ho2,_⟩:=Option.map_eq_some_iff.1 ho1;rw [hsub m o2 ho2];simp
  have hMn:=hMn hlive;have hlen:ds.length=len*sz:=by simpa using hl1
  let M':Mem:=fun b o=>if b=(μ n).blk then (if o<len*sz then vs[o]? else none) else M b o
  have hne:∀ b,b≠(μ n).blk→∀ o,M' b o=M b o:=fun b hb o=>by simp [M',hb]
  have hle:Mem.le M M':=fun b o v hv=>by
    have:b≠(μ n).blk:=fun e=>by rw [e,hMn] at hv;cases hv
    rw [hne b this];exact hv
  have hoth:∀ m,lk st.hp m≠none→m≠n→(μ m).live=true→(μ m).blk≠(μ n).blk:=fun m hm hmn lm e=>hmn (hS.inj m n hm (by rw [hn];simp) lm hlive e)
  have hsub:∀ m ob,lk (cM st.hp n) m=some ob→lk st.hp m=some ob∧m≠n:=fun m ob hm=>by
    rw [dY] at hm
    split at hm
    · cases hm
    · rename_i e;exact ⟨hm,e⟩
  have hg:∀ v,Rp (· <st.k) μ M' (.gs n len) v→Rp (· <st.k) μ M' (.d (.sl len ds)) v:=fun v hv=>by
    obtain ⟨_,e1⟩ | ⟨h,_⟩:=hv.lI
    rotate_left
    · rw [hlive] at h;cases h
    refine Rp.cU.2 ?_;simp only [bX];refine ⟨_,_,e1,hl2,fun h0=> ?_,fun _=>⟨_,_,rfl,dB.mk fun i c hi=> ?_⟩⟩
    · subst h0
      simp at hlen;exact hlen
    · obtain ⟨u,hu,hru⟩:=hr.Jy hi
      have hil:i<len*sz:=by rw [← hlen];exact (List.getElem?_eq_some_iff.1 hi).1
      refine ⟨u,?_,bX.mono hle _ _ hru⟩;rw [List.getElem?_take_of_lt hil] at hu;simp only [M',if_true,Nat.zero_add,hil]
      simpa using hu
  have hS2:bU (· <st.k) μ M' (lk (cM st.hp n)) w:=by
    refine ⟨⟨fun b o v hv=> ?_,hS.mem.kF.le hle⟩,fun m ob hm=> ?_,fun m m' hm hm' lm lm' e=> ?_⟩
    · by_cases hbn:b=(μ n).blk
      · subst hbn
        simp only [M',if_true] at hv
        split at hv
        · rw [cell_of hb];exact hv
        · cases hv
      · rw [hne b hbn] at hv
        exact hS.mem b o v hv
    · obtain ⟨hm1,hmn⟩:=hsub m ob hm
      obtain ⟨a1,a2,a3⟩:=hS.obs m ob hm1;refine ⟨a1,a2.more (fun _ h=>h) (fun _ _=>rfl) hle fun _=>rfl,fun lm o=> ?_⟩;rw [hne _ (hoth m (by rw [hm1];simp) hmn lm)];exact a3 lm o
    · obtain ⟨o1,ho1⟩:=Option.ne_none_iff_exists'.1 hm
      obtain ⟨o2,ho2⟩:=Option.ne_none_iff_exists'.1 hm';exact hS.inj m m' (by rw [(hsub m o1 ho1).1];simp) (by rw [(hsub m' o2 ho2).1];simp) lm lm' e
  refine ⟨l7,hdf,hsz,μ,M',fun t s hs=> ?_,hS2.Mq hφ hg,⟨hE.old,Mem.le_trans hE.mem hle,fun b hb0 hf=> ?_,hE.size,fun m hm=> ?_,hE.os,hE.tape,hE.output⟩⟩
  · rw [kN] at hs
    obtain ⟨s',hs',rfl⟩:=Option.map_eq_some_iff.1 hs;exact SV.pq hg s' _ ((fc t s' hs').more (fun _ h=>h) (fun _ _=>rfl) hle)
  · have hbn:b≠(μ n).blk:=fun e=>by
      rcases hE.names n (by rw [hn];simp) with ⟨_,hh⟩ | ⟨h,h'⟩
      · rcases hh hlive with h | ⟨m,hm,lm,e'⟩
        · omega
        · exact hf m hm lm (e'.trans e.symm)
      · rw [hE.old n h] at e hlive
        exact hf n h' hlive e.symm
    obtain ⟨f1,f2⟩:=hE.frame b hb0 hf;exact ⟨f1,fun o=>by rw [hne b hbn];exact f2 o⟩
  · obtain ⟨o1,ho1⟩:=Option.ne_none_iff_exists'.1 hm
    rw [oA] at ho1;obtain ⟨o2,ho2,_⟩:=Option.map_eq_some_iff.1 ho1;exact hE.names m (by rw [(hsub m o2 ho2).1];simp)
theorem iC.tG {dg:Nat→Nm}{M0:Mem}{w0:World}{c0:Nat→Option Ob}{a:Act}{w:World}(n:Nat){e sz len:Nat}{cs:List SV}{ds:List DV}(hn:lk st.hp n=some (.arr e sz len cs))(hcs:cs=ds.map .d)
  (h:iC N dg M0 w0 c0 k0 st a w):iC N dg M0 w0 c0 k0 ⟨iZ n len ds st.env,Cp n len ds (cM st.hp n),st.k⟩ a w:=h.HK n (Ky n len ds) hn hcs
theorem SW.tG {s:bP}(n:Nat){e sz len:Nat}{cs:List SV}(ds:List DV)(hn:lk st.hp n=some (.arr e sz len cs))(hcs:cs=ds.map .d)(h:SW P N k0 s ⟨iZ n len ds st.env,Cp n len ds (cM st.hp n),st.k⟩ Q):SW P N k0 s st Q:=
 fun c hc rd hrf dg M0 w0 c0 a w fP=>h c hc rd hrf dg M0 w0 c0 a w (fP.tG n hn hcs)
end
end
section
variable {P:Program}
theorem SC.NP {f:FuncId}{k nk m len sz:Nat}{t:TypeId}{as:List SV}{ds:List DV}{v:SV}(h:aF P f (.d (.sl len ds)::as) [] k nk v [])(hv:SV.Plain v)(ha:∀ c,c∈as→SV.Plain c)(hl:ds.length=len*sz):
  aF P f (.gs m len::as) [(m,.arr t sz len (ds.map .d))] k nk v [(m,.arr t sz len (ds.map .d))]:=by
 refine ⟨by simpa using h.1,fun p μ M w vals hp hr hS=> ?_⟩;obtain ⟨hpm,bz,hnone⟩:=hS.obs m (.arr t sz len (ds.map .d)) (by simp [aa])
 let M':Mem:=fun b o=>if (μ m).live=true∧b=(μ m).blk then w.cell? ⟨b,o,none⟩ else M b o
 have hMM:Mem.le M M':=fun b o x hx=>by
  show (if (μ m).live=true∧b=(μ m).blk then w.cell? ⟨b,o,none⟩ else M b o)=some x
  split
  ·exact hS.mem b o x hx
  ·exact hx
 have hr':aU (fun _=>False) μ M' (.d (.sl len ds)::as) vals.toList:=by
  obtain ⟨u,us,e,h1,h2⟩:=aU.aD.1 hr;rw [e];refine aU.aD.2 ⟨u,us,rfl,Rp.cU.2 ?_,SV.AE ha h2⟩;have h3:=h1.rep;simp only [dy] at h3;simp only [cE] at bz;simp only [bX];rcases h3 with ⟨hlv,rfl⟩ | ⟨hlv,rfl,A,rfl⟩
  ·rcases bz with ⟨h4,_⟩ | ⟨_,vs,hb,_,h5,_,h6,hcs⟩
   ·rw [hlv] at h4;cases h4
   refine ⟨_,_,rfl,h5,fun hz=> ?_,fun hz=>⟨(μ m).blk,0,rfl,Bx 0 ds fun i x hx=> ?_⟩⟩
   ·subst hz;simpa using hl
   ·obtain ⟨u,hu,hd⟩:=hcs.get (i:=i) (c:= .d x) (by simp [hx])
    refine ⟨u,?_,bX.mono hMM x u (Rp.cU.1 hd)⟩;show (if (μ m).live=true∧(μ m).blk=(μ m).blk then w.cell? ⟨(μ m).blk,0+i,none⟩ else M (μ m).blk (0+i))=some u;rw [if_pos ⟨hlv,rfl⟩,cell_of hb];rw [List.getElem?_take] at hu
    split at hu
    ·simpa using hu
    ·cases hu
  ·exact ⟨A,0,rfl,Nat.le_refl _,fun _=>by simpa using hl,fun hz=>absurd hz (Nat.lt_irrefl 0)⟩
 have rY:bU (fun _=>False) μ M' (lk []) w:=by
  refine ⟨⟨fun b o x hx=> ?_,hS.mem.kF.le hMM⟩,fun n ob hn=>by simp [bE] at hn,fun n _ hn=>by simp [bE] at hn⟩;have hx:(if (μ m).live=true∧b=(μ m).blk then w.cell? ⟨b,o,none⟩ else M b o)=some x:=hx
  split at hx
  ·exact hx
  ·exact hS.mem b o x hx
 refine (h.2 (fun _=>False) μ M' w vals (fun _ _ h=>h) hr' rY).mono ?_;rintro e w' ⟨r,F',a_,M'',u,rfl,⟨rfl,rfl⟩,hru,hS2,hE⟩;have hfr:∀ b,b<w.heap.size→w'.heap[b]? =w.heap[b]? :=fun b hb=>(hE.frame b hb (fun n hn=>by simp [bE] at hn)).1
 refine ⟨r,[(m,.arr t sz len (ds.map .d))],μ,M,u,rfl,⟨rfl,rfl⟩,hv _ _ _ _ _ _ u hru,⟨⟨fun b o x hx=>hS2.mem b o x (hE.mem b o x (hMM b o x hx)),hS.mem.kF⟩,fun n ob hn=> ?_,hS.inj⟩,⟨fun _ _=>rfl,Mem.le_refl M,fun b hb _=>⟨hfr b hb,fun _=>rfl⟩,hE.size,fun n hn=> .inr ⟨fun hnew=> ?_,hn⟩,hE.os,hE.tape,hE.output⟩⟩
 ·obtain ⟨a1,a2,a3⟩:=hS.obs n ob hn
  have hnm:n=m∧ob= .arr t sz len (ds.map .d):=by
   rw [aa] at hn
   split at hn
   ·rename_i e;exact ⟨e,(Option.some.inj hn).symm⟩
   ·simp [bE] at hn
  obtain ⟨rfl,rfl⟩:=hnm;exact ⟨.inl a1,a2.more (fun n h=> .inl h) (fun _ _=>rfl) (Mem.le_refl M) (fun hlv=>hfr _ (a2.lt hlv)),a3⟩
 ·have:n=m:=by
   rw [aa] at hn
   split at hn
   ·rename_i e;exact e
   ·simp [bE] at hn
  subst this;exact hp n hnew hpm
end
end Go.Sl
