/-
 A box's cell that holds no map: a map of one's own that is nil.
-/
import Derived.Test.YtaelhkkjgfobhaaGreatK5
import Derived.Test.YtaelhkkjgfobhaaGreatK4
set_option linter.unusedVariables false
set_option linter.unusedSimpArgs false
set_option linter.unusedSectionVars false
namespace Go.Sl
open Go.RowKit
def iZ (bs:List Nat)(ts:List (Bool×List Nat)):Bool:=
 qu ts.length fun i j=>i == j || (ts.getD i (true,[])).1 || eG bs i j || eG bs j i || !((ts.getD i (true,[])).2.any fun n=>(ts.getD j (true,[])).2.contains n)
theorem dY {f:Bool}{bs:List Nat}{ts:List (Bool×List Nat)}(h:(!f || iZ bs ts)=true):(!f || ku bs ts)=true:=by
 rw [← h]
 congr 1
 unfold ku iZ
 congr 1
 funext i j
 generalize (i == j)=a
 generalize (ts.getD i (true,[])).1=b
 generalize eG bs i j=c
 generalize eG bs j i=d
 generalize List.any _ _=e
 cases a <;> cases b <;> cases c <;> cases d <;> cases e <;> rfl
section
variable {P:Program} {N k0:Nat} {st:St} {Q:Exit→St→Prop}
end
end Go.Sl
namespace Go.Sl
section
section
variable {P:Program} {N k0:Nat} {st r_:St} {Q:Exit→St→Prop} {cH:List SI} {bs:List Nat} {draw:Bool} {Φ C1 C2 C3 C4:Prop}
abbrev RF (P:Program)(L:List Nat)(cH:List SI)(bs:List Nat)(draw:Bool)(st r_:St):Prop:=RW P cH st fun st' ts=>(!draw || ku bs ts)=true∧au L st' fun s=>s=r_
theorem RF.sw {L:List Nat}(hm:P.follows .mixedOrders=true)(hr:RF P L cH bs draw st r_)(h:Q .normal r_):SW P N k0 (.ey cH bs draw) st Q:=by
 refine SW.dL L hm ?_
 obtain ⟨de,st',ob,ts,h1,h2,h3,h4⟩:=hr
 refine ⟨de,st',ob,ts,h1,h2,h3,?_⟩
 unfold au at h4 ⊢
 rw [h4];exact h
theorem SW.g0 (L:List Nat)(hm:P.follows .mixedOrders=true)(φ:Φ)(h:Q .normal r_)
  (hr:Φ→RF P L cH bs draw st r_:=by
   intro φ
   (repeat (first | refine RW.ro φ (h:= ?_) | refine RW.skip (h:= ?_) | refine RW.op φ (h:= ?_) | refine RW.eF φ (h:= ?_) | refine RW.bH (h:= ?_)))
   exact RW.nil ⟨dY (by kernel_rfl),au.mk (h:=rfl)⟩):SW P N k0 (.ey cH bs draw) st Q:=RF.sw hm (hr φ) h
theorem SW.g1 (L:List Nat)(hm:P.follows .mixedOrders=true)(φ:Φ)(c1:C1)(h:Q .normal r_)
  (hr:Φ→C1→RF P L cH bs draw st r_:=by
   intro φ c1
   (repeat (first | refine RW.ro φ (h:= ?_) | refine RW.skip (h:= ?_) | refine RW.op φ (h:= ?_) | refine RW.eF φ (h:= ?_) | refine RW.bH (h:= ?_) | (refine RW.bJ (h:= ?_);(first | refine ak.mk φ (hc:=c1) (h:= ?_) | refine ak.mk φ (hc:=c1 _) (h:= ?_) | refine ak.mk φ (hs:=c1.1) (hc:=c1.2) (h:= ?_)))))
   exact RW.nil ⟨dY (by kernel_rfl),au.mk (h:=rfl)⟩):SW P N k0 (.ey cH bs draw) st Q:=RF.sw hm (hr φ c1) h
theorem SW.g2 (L:List Nat)(hm:P.follows .mixedOrders=true)(φ:Φ)(c1:C1)(c2:C2)(h:Q .normal r_)
  (hr:Φ→C1→C2→RF P L cH bs draw st r_:=by
   intro φ c1 c2
   (repeat (first | refine RW.ro φ (h:= ?_) | refine RW.skip (h:= ?_) | refine RW.op φ (h:= ?_) | refine RW.eF φ (h:= ?_) | refine RW.bH (h:= ?_) | (refine RW.bJ (h:= ?_);(first | refine ak.mk φ (hc:=c1) (h:= ?_) | refine ak.mk φ (hc:=c1 _) (h:= ?_) | refine ak.mk φ (hs:=c1.1) (hc:=c1.2) (h:= ?_) | refine ak.mk φ (hc:=c2) (h:= ?_) | refine ak.mk φ (hc:=c2 _) (h:= ?_) | refine ak.mk φ (hs:=c2.1) (hc:=c2.2) (h:= ?_)))))
   exact RW.nil ⟨dY (by kernel_rfl),au.mk (h:=rfl)⟩):SW P N k0 (.ey cH bs draw) st Q:=RF.sw hm (hr φ c1 c2) h
theorem SW.g4 (L:List Nat)(hm:P.follows .mixedOrders=true)(φ:Φ)(c1:C1)(c2:C2)(c3:C3)(c4:C4)(h:Q .normal r_)
  (hr:Φ→C1→C2→C3→C4→RF P L cH bs draw st r_:=by
   intro φ c1 c2 c3 c4
   (repeat (first | refine RW.ro φ (h:= ?_) | refine RW.skip (h:= ?_) | refine RW.op φ (h:= ?_) | refine RW.eF φ (h:= ?_) | refine RW.bH (h:= ?_) | (refine RW.bJ (h:= ?_);(first | refine ak.mk φ (hc:=c1) (h:= ?_) | refine ak.mk φ (hc:=c1 _) (h:= ?_) | refine ak.mk φ (hs:=c1.1) (hc:=c1.2) (h:= ?_) | refine ak.mk φ (hc:=c2) (h:= ?_) | refine ak.mk φ (hc:=c2 _) (h:= ?_) | refine ak.mk φ (hs:=c2.1) (hc:=c2.2) (h:= ?_) | refine ak.mk φ (hc:=c3) (h:= ?_) | refine ak.mk φ (hc:=c3 _) (h:= ?_) | refine ak.mk φ (hs:=c3.1) (hc:=c3.2) (h:= ?_) | refine ak.mk φ (hc:=c4) (h:= ?_) | refine ak.mk φ (hc:=c4 _) (h:= ?_) | refine ak.mk φ (hs:=c4.1) (hc:=c4.2) (h:= ?_)))))
   exact RW.nil ⟨dY (by kernel_rfl),au.mk (h:=rfl)⟩):SW P N k0 (.ey cH bs draw) st Q:=RF.sw hm (hr φ c1 c2 c3 c4) h
end
end
section
section
variable {P:Program} {N k0:Nat} {st r_:St} {Q:Exit→St→Prop} {cH:List SI} {bs:List Nat} {draw:Bool} {Φ:Prop}
variable {r r':List SI} {K K':St→List (Bool×List Nat)→Prop} {C:Prop} {F:List (Bool×List Nat)→Prop} {q:St→Prop} {L:List Nat}
theorem RW.gG (φ:Φ)(cs:C)(h:RW P r' r_ K')(hr:Φ→C→RW P r' r_ K'→RW P r st K:=by
   intro φ cs g
   (repeat (first | refine RW.skip (h:= ?_) | refine RW.ro φ (h:= ?_) | refine RW.op φ (h:= ?_) | refine RW.eF φ (h:= ?_) | refine RW.bH (h:= ?_) | (refine RW.bJ (h:= ?_);(first | refine ak.mk φ (hc:=cs.1 _) (h:= ?_) | refine ak.mk φ (hc:=cs.2.1 _) (h:= ?_) | refine ak.mk φ (hc:=cs.2.2.1 _) (h:= ?_) | refine ak.mk φ (hc:=cs.2.2.2.1 _) (h:= ?_) | refine ak.mk φ (hc:=cs.2.2.2.2.1 _) (h:= ?_) | refine ak.mk φ (hc:=cs.2.2.2.2.2.1 _) (h:= ?_) | refine ak.mk φ (hc:=cs.2.2.2.2.2.2.1 _) (h:= ?_) | refine ak.mk φ (hc:=cs.2.2.2.2.2.2.2.1 _) (h:= ?_) | refine ak.mk φ (hc:=cs.2.2.2.2.2.2.2.2.1 _) (h:= ?_) | refine ak.mk φ (hc:=cs.2.2.2.2.2.2.2.2.2.1 _) (h:= ?_) | refine ak.mk φ (hc:=cs.2.2.2.2.2.2.2.2.2.2.1 _) (h:= ?_) | refine ak.mk φ (hc:=cs.2.2.2.2.2.2.2.2.2.2.2.1 _) (h:= ?_)))))
   exact g):RW P r st K:=hr φ cs h
theorem SW.gB (L:List Nat)(hm:P.follows .mixedOrders=true)(φ:Φ)(cs:C)(h:RW P r' r_ K')(hr:Φ→C→RW P r' r_ K'→RW P cH st fun st' ts=>(!draw || ku bs ts)=true∧au L st' (Q .normal):=by
   intro φ cs g
   (repeat (first | refine RW.skip (h:= ?_) | refine RW.ro φ (h:= ?_) | refine RW.op φ (h:= ?_) | refine RW.eF φ (h:= ?_) | refine RW.bH (h:= ?_) | (refine RW.bJ (h:= ?_);(first | refine ak.mk φ (hc:=cs.1 _) (h:= ?_) | refine ak.mk φ (hc:=cs.2.1 _) (h:= ?_) | refine ak.mk φ (hc:=cs.2.2.1 _) (h:= ?_) | refine ak.mk φ (hc:=cs.2.2.2.1 _) (h:= ?_) | refine ak.mk φ (hc:=cs.2.2.2.2.1 _) (h:= ?_) | refine ak.mk φ (hc:=cs.2.2.2.2.2.1 _) (h:= ?_) | refine ak.mk φ (hc:=cs.2.2.2.2.2.2.1 _) (h:= ?_) | refine ak.mk φ (hc:=cs.2.2.2.2.2.2.2.1 _) (h:= ?_) | refine ak.mk φ (hc:=cs.2.2.2.2.2.2.2.2.1 _) (h:= ?_) | refine ak.mk φ (hc:=cs.2.2.2.2.2.2.2.2.2.1 _) (h:= ?_) | refine ak.mk φ (hc:=cs.2.2.2.2.2.2.2.2.2.2.1 _) (h:= ?_) | refine ak.mk φ (hc:=cs.2.2.2.2.2.2.2.2.2.2.2.1 _) (h:= ?_)))))
   exact g):SW P N k0 (.ey cH bs draw) st Q:=SW.dL L hm (hr φ cs h)
theorem RW.gE (φ:Φ)(cs:C)(h:q r_)(hr:Φ→C→RW P r st (fun st' ts=>F ts∧au L st' fun s=>s=r_):=by
   intro φ cs
   (repeat (first | refine RW.skip (h:= ?_) | refine RW.ro φ (h:= ?_) | refine RW.op φ (h:= ?_) | refine RW.eF φ (h:= ?_) | refine RW.bH (h:= ?_) | (refine RW.bJ (h:= ?_);(first | refine ak.mk φ (hc:=cs.1 _) (h:= ?_) | refine ak.mk φ (hc:=cs.2.1 _) (h:= ?_) | refine ak.mk φ (hc:=cs.2.2.1 _) (h:= ?_) | refine ak.mk φ (hc:=cs.2.2.2.1 _) (h:= ?_) | refine ak.mk φ (hc:=cs.2.2.2.2.1 _) (h:= ?_) | refine ak.mk φ (hc:=cs.2.2.2.2.2.1 _) (h:= ?_) | refine ak.mk φ (hc:=cs.2.2.2.2.2.2.1 _) (h:= ?_) | refine ak.mk φ (hc:=cs.2.2.2.2.2.2.2.1 _) (h:= ?_) | refine ak.mk φ (hc:=cs.2.2.2.2.2.2.2.2.1 _) (h:= ?_) | refine ak.mk φ (hc:=cs.2.2.2.2.2.2.2.2.2.1 _) (h:= ?_) | refine ak.mk φ (hc:=cs.2.2.2.2.2.2.2.2.2.2.1 _) (h:= ?_) | refine ak.mk φ (hc:=cs.2.2.2.2.2.2.2.2.2.2.2.1 _) (h:= ?_)))))
   exact RW.nil ⟨by kernel_rfl,au.mk (h:=rfl)⟩):RW P r st fun st' ts=>F ts∧au L st' q:=by
 obtain ⟨de,st',ob,ts,h1,h2,h3,h4⟩:=hr φ cs
 refine ⟨de,st',ob,ts,h1,h2,h3,?_⟩
 unfold au at h4 ⊢
 rw [h4];exact h
theorem SW.gM (L:List Nat)(hm:P.follows .mixedOrders=true)(φ:Φ)(cs:C)(h:Q .normal r_)(hr:Φ→C→RF P L cH bs draw st r_:=by
   intro φ cs
   (repeat (first | refine RW.skip (h:= ?_) | refine RW.ro φ (h:= ?_) | refine RW.op φ (h:= ?_) | refine RW.eF φ (h:= ?_) | refine RW.bH (h:= ?_) | (refine RW.bJ (h:= ?_);(first | refine ak.mk φ (hc:=cs.1 _) (h:= ?_) | refine ak.mk φ (hc:=cs.2.1 _) (h:= ?_) | refine ak.mk φ (hc:=cs.2.2.1 _) (h:= ?_) | refine ak.mk φ (hc:=cs.2.2.2.1 _) (h:= ?_) | refine ak.mk φ (hc:=cs.2.2.2.2.1 _) (h:= ?_) | refine ak.mk φ (hc:=cs.2.2.2.2.2.1 _) (h:= ?_) | refine ak.mk φ (hc:=cs.2.2.2.2.2.2.1 _) (h:= ?_) | refine ak.mk φ (hc:=cs.2.2.2.2.2.2.2.1 _) (h:= ?_) | refine ak.mk φ (hc:=cs.2.2.2.2.2.2.2.2.1 _) (h:= ?_) | refine ak.mk φ (hc:=cs.2.2.2.2.2.2.2.2.2.1 _) (h:= ?_) | refine ak.mk φ (hc:=cs.2.2.2.2.2.2.2.2.2.2.1 _) (h:= ?_) | refine ak.mk φ (hc:=cs.2.2.2.2.2.2.2.2.2.2.2.1 _) (h:= ?_)))))
   exact RW.nil ⟨dY (by kernel_rfl),au.mk (h:=rfl)⟩):SW P N k0 (.ey cH bs draw) st Q:=RF.sw hm (hr φ cs) h
end
end
section
section
variable {P:Program} {N k0:Nat} {st r_:St} {Q:Exit→St→Prop} {cH:List SI} {bs:List Nat} {draw:Bool} {Φ C X:Prop}
theorem SW.gK (L:List Nat)(hm:P.follows .mixedOrders=true)(φ:Φ)(κ:X)(cs:C)(h:Q .normal r_)
  (hr:Φ→X→C→RF P L cH bs draw st r_:=by
   intro φ κ cs
   (repeat (first | refine RW.ro φ (h:= ?_) | refine RW.skip (h:= ?_) | refine RW.op φ (h:= ?_) | refine RW.eF φ (h:= ?_) | refine RW.bH (h:= ?_) | (refine RW.bJ (h:= ?_);(first | refine ak.mk φ (hc:=cs.1) (h:= ?_) | refine ak.mk φ (hc:=cs.1 _) (h:= ?_) | refine ak.mk φ (hs:=cs.1.1) (hc:=cs.1.2) (h:= ?_) | refine ak.mk φ (hc:=cs.2.1) (h:= ?_) | refine ak.mk φ (hc:=cs.2.1 _) (h:= ?_) | refine ak.mk φ (hs:=cs.2.1.1) (hc:=cs.2.1.2) (h:= ?_) | refine ak.mk φ (hc:=cs.2.2.1) (h:= ?_) | refine ak.mk φ (hc:=cs.2.2.1 _) (h:= ?_) | refine ak.mk φ (hs:=cs.2.2.1.1) (hc:=cs.2.2.1.2) (h:= ?_) | refine ak.mk φ (hc:=cs.2.2.2.1) (h:= ?_) | refine ak.mk φ (hc:=cs.2.2.2.1 _) (h:= ?_) | refine ak.mk φ (hs:=cs.2.2.2.1.1) (hc:=cs.2.2.2.1.2) (h:= ?_)))))
   exact RW.nil ⟨dY (by simp [iZ,qu,eG,cg,List.range,List.range.loop,κ] <;> (first | decide | (repeat (first | assumption | refine ⟨?_,?_⟩ | exact .inl (by decide) | exact .inl (.inr (by decide)) | exact .inl (.inl (by decide)) | refine .inr ?_)))),au.mk (h:=rfl)⟩):SW P N k0 (.ey cH bs draw) st Q:=RF.sw hm (hr φ κ cs) h
end
end
end Go.Sl
namespace Go.Sl
open Go.RowKit
section
variable {P:Program}
end
section
theorem aH {h:Hp}(hn:(h.map (·.1)).Nodup):∀ x,x∈h→lk h x.1=some x.2:=by
 induction h with
 | nil=>intro x hx;cases hx
 | cons y h ih=>
  intro x hx
  rw [List.map_cons,List.nodup_cons] at hn
  obtain ⟨a,o⟩:=y
  rw [aa]
  rcases List.mem_cons.1 hx with rfl | hx
  ·simp
  ·have:x.1≠a:=fun e=>hn.1 (by rw [← e];exact List.mem_map.2 ⟨x,hx,rfl⟩)
   rw [if_neg this]
   exact ih hn.2 x hx
def rQ (F:Hp)(x:Nat×Ob):Nat×Ob:=match lk F x.1 with
 | some o=>(x.1,o)
 | none=>x
theorem xA:∀ {h:Hp} {n:Nat} {o:Ob},(h.map (·.1)).Nodup→n∈h.map (·.1)→gw h n o=h.map fun x=>if x.1=n then (n,o) else x
 | [],n,o,_,hm=>by cases hm
 | (m,o')::h,n,o,hn,hm=>by
  rw [List.map_cons,List.nodup_cons] at hn
  simp only [gw,List.map_cons]
  by_cases e:m=n
  ·subst e
   simp only [if_true]
   congr 1
   symm
   conv=>rhs;rw [← List.map_id h]
   refine List.map_congr_left fun x hx=> ?_
   rw [if_neg fun e=>hn.1 (by rw [← e];exact List.mem_map.2 ⟨x,hx,rfl⟩)]
   rfl
  ·rw [if_neg e,if_neg e,xA hn.2 ((List.mem_cons.1 hm).resolve_left fun h=>e h.symm)]
theorem lg {h:Hp}{n:Nat}(hm:n∈h.map (·.1)):∃ o,lk h n=some o:=by
 induction h with
 | nil=>cases hm
 | cons y h ih=>
  obtain ⟨m,o⟩:=y
  rw [aa]
  by_cases e:n=m
  ·exact ⟨o,by rw [if_pos e]⟩
  ·rw [if_neg e]
   exact ih ((List.mem_cons.1 hm).resolve_left e)
theorem tj (F:Hp)(x:Nat×Ob):(rQ F x).1=x.1:=by unfold rQ;split <;> rfl
theorem vi {h:Hp}(hn:(h.map (·.1)).Nodup):∀ {F:Hp},(F.map (·.1)).Nodup→(∀ n,n∈F.map (·.1)→n∈h.map (·.1))→dg h F=h.map (rQ F)
 | [],_,_=>by
  simp only [dg]
  conv=>lhs;rw [← List.map_id h]
  rfl
 | (n,o)::F,hF,hsub=>by
  rw [List.map_cons,List.nodup_cons] at hF
  have ih:=vi hn hF.2 fun m hm=>hsub m (List.mem_cons_of_mem _ hm)
  have hnames:(h.map (rQ F)).map (·.1)=h.map (·.1):=by rw [List.map_map];exact List.map_congr_left fun x _=>tj F x
  have hmem:n∈(h.map (rQ F)).map (·.1):=by rw [hnames];exact hsub n (by simp)
  simp only [dg]
  rw [ih]
  unfold fZ
  obtain ⟨o1,ho1⟩:=lg hmem
  rw [ho1]
  dsimp only
  rw [xA (by rw [hnames];exact hn) hmem,List.map_map]
  refine List.map_congr_left fun x _=> ?_
  show (if (rQ F x).1=n then (n,o) else rQ F x)=rQ ((n,o)::F) x
  rw [tj]
  unfold rQ
  rw [aa]
  by_cases e:x.1=n
  ·simp [e]
  ·simp [e]
theorem xB {F:Hp}:∀ {A B:Hp},A.map (·.1)=B.map (·.1)→(∀ x,x∈B→lk F x.1=some x.2)→A.map (rQ F)=B
 | [],[],_,_=>rfl
 | [],_::_,h,_=>by simp at h
 | _::_,[],h,_=>by simp at h
 | a::A,b::B,h,hl=>by
  simp only [List.map_cons,List.cons.injEq] at h ⊢
  refine ⟨?_,xB h.2 fun x hx=>hl x (List.mem_cons_of_mem _ hx)⟩
  have:=hl b (by simp)
  unfold rQ
  rw [h.1,this]
theorem l6 {h F':Hp}:∀ {F:Hp},(∀ n,n∈F.map (·.1)→(lk F' n).isSome=true)→dh h F' F=h
 | [],_=>rfl
 | (n,o)::F,hs=>by
  simp only [dh]
  rw [if_pos (hs n (by simp)),l6 fun m hm=>hs m (List.mem_cons_of_mem _ hm)]
theorem tn {pre F F':Hp}(he:F.map (·.1)=F'.map (·.1))(hn:((pre++F).map (·.1)).Nodup):dg (dh (pre++F) F' F) F'=pre++F':=by
 have hn2:(F'.map (·.1)).Nodup:=by rw [← he];rw [List.map_append,List.nodup_append] at hn;exact hn.2.1
 rw [l6 fun n h=>by rw [he] at h;obtain ⟨o,ho⟩:=lg h;rw [ho];rfl]
 rw [vi hn hn2 fun n h=>by rw [List.map_append,List.mem_append,he];exact .inr h,List.map_append,xB he (aH hn2)]
 congr 1
 conv=>rhs;rw [← List.map_id pre]
 refine List.map_congr_left fun x hx=> ?_
 have : lk F' x.1=none:=by
  cases hh:lk F' x.1 with
  | none=>rfl
  | some o=>
   rw [List.map_append,List.nodup_append] at hn
   have h1:x.1∈F'.map (·.1):=by
    have:∀ {h:Hp} {n:Nat} {o:Ob},lk h n=some o→n∈h.map (·.1):=by
     intro h
     induction h with
     | nil=>intro n o h;simp [bt] at h
     | cons y h ih=>
      intro n o hl
      rw [aa] at hl
      split at hl
      ·rename_i e;subst e;simp
      ·exact List.mem_cons_of_mem _ (ih hl)
    exact this hh
   exact absurd rfl (hn.2.2 x.1 (List.mem_map.2 ⟨x,hx,rfl⟩) x.1 (by rw [he];exact h1))
 unfold rQ
 rw [this];rfl
theorem vj {n:Nat}{a b:Ob}{F F':Hp}(he:F.map (·.1)=F'.map (·.1))(hn:(((n,a)::F).map (·.1)).Nodup):dg (dh ((n,a)::F) ((n,b)::F') F) F'=(n,a)::F':=by
 have h1:=tn (pre:=[(n,a)]) he hn
 rw [l6 fun m hm=>by rw [he] at hm;obtain ⟨o,ho⟩:=lg hm;rw [ho];rfl] at h1
 rw [l6 fun m hm=>by
  rw [he] at hm
  obtain ⟨o,ho⟩:=lg hm
  rw [aa]
  split
  ·rfl
  ·rw [ho];rfl]
 exact h1
theorem dB (F G:Hp)(m:Nat):lk (F++G) m=(lk F m).or (lk G m):=by
 unfold lk
 exact List.lookup_append ..
theorem pO {F H:Hp}{n:Nat}{o:Ob}(hn:lk F n=none)(h:HSub F H):HSub F ((n,o)::H):=fun m ob hm=>by
 rw [aa,if_neg fun e=>by rw [e,hn] at hm;cases hm]
 exact h m ob hm
theorem qJ {h:Hp}{n:Nat}{o:Ob}(hl:lk h n=some o):n∈h.map (·.1):=by
 induction h with
 | nil=>simp [bt] at hl
 | cons y h ih=>
  rw [aa] at hl
  split at hl
  ·rename_i e;subst e;simp
  ·exact List.mem_cons_of_mem _ (ih hl)
theorem oP {h:Hp}{n:Nat}(hn:n∉h.map (·.1)):lk h n=none:=by
 cases hh:lk h n with
 | none=>rfl
 | some o=>exact absurd (qJ hh) hn
theorem iQ {h:Hp}{n:Nat}(hn:lk h n=none):n∉h.map (·.1):=fun hm=>by
 obtain ⟨o,ho⟩:=lg hm
 rw [hn] at ho;cases ho
theorem vX {H:Hp}{n:Nat}{o:Ob}(hn:lk H n=none)(h:(H.map (·.1)).Nodup):(((n,o)::H).map (·.1)).Nodup:=by
 rw [List.map_cons,List.nodup_cons]
 exact ⟨iQ hn,h⟩
theorem av {H:Hp}{n:Nat}{o:Ob}{q:Nat→Bool}(h1:q n=true)(h2:o.ok q=true)(h:H.ok q=true):Hp.ok q ((n,o)::H)=true:=by
 simp only [Hp.ok,List.all_cons,Bool.and_eq_true] at h ⊢
 exact ⟨⟨h1,h2⟩,h⟩
theorem bW.trim {p:Nat→Prop}{μ:Nat→Nm}{M:Mem}{w:World}{m:Nm}{e sz len:Nat}{cs:List SV}(h:bW p μ M w m (.arr e sz len cs)){n:Nat}(hn:n≤len):bW p μ M w m (.arr e sz n (cs.take (n*sz))):=by
 rcases h with ⟨h1,h2,h3⟩ | ⟨h0,vs,hb,h1,h2,h3,h4,h5⟩
 ·subst h2;subst h3
  exact .inl ⟨h1,by omega,by simp⟩
 ·have hle:n*sz≤len*sz:=Nat.mul_le_mul_right sz hn
  refine .inr ⟨h0,vs,hb,?_,by omega,h3,h4,?_⟩
  ·rw [List.length_take,h1,Nat.min_eq_left hle]
  ·have:=h5.take (n*sz)
   rwa [List.take_take,Nat.min_eq_left hle] at this
theorem SW.trim {P:Program}{N k0:Nat}{s:bX}{st:St}{Q:Exit→St→Prop}{n e sz len:Nat}{cs:List SV}(i:Nat)(hl:lk st.hp n=some (.arr e sz len cs))(hi:i≤len)
  (h:SW P N k0 s ⟨st.env,fZ st.hp n (.arr e sz i (cs.take (i*sz))),st.k⟩ Q):SW P N k0 s st Q:=by
 refine fun cc hc rd hrf cE M0 w0 c0 a w eO=>h cc hc rd hrf cE M0 w0 c0 a w ?_
 obtain ⟨mH,hdf,hsz,μ,M,fQ,hS,hE⟩:=eO
 refine ⟨mH,hdf,hsz,μ,M,fQ,⟨hS.mem,fun m ob hm=> ?_,fun m m' h1 h2=>hS.inj m m' ?_ ?_⟩,?_⟩
 ·rw [pz] at hm
  split at hm
  ·rename_i e;subst e
   injection hm with hm;subst hm
   obtain ⟨a1,a2,a3⟩:=hS.obs _ _ hl
   exact ⟨a1,a2.trim hi,a3⟩
  ·exact hS.obs m ob hm
 ·rw [pz] at h1
  split at h1
  ·rename_i e;subst e;rw [hl];simp
  ·exact h1
 ·rw [pz] at h2
  split at h2
  ·rename_i e;subst e;rw [hl];simp
  ·exact h2
 ·exact hE.wN fun m hm=>by
   rw [pz] at hm
   split at hm
   ·rename_i e;subst e;rw [hl];simp
   ·exact hm
theorem Ce {P:Program}{op:Op}{neg:Bool}{kd:Nat}{x':X}(hc:cO P op=some (.gX neg kd x')):∃ b t x y t',op= .binOp b t x y t'∧isEq b=true∧dO b=neg∧wT P t y=some kd∧cX x=some x':=by
 cases op <;> simp only [cO] at hc <;> try (cases hc;done)
 case binOp b t x y t'=>
  refine ⟨b,t,x,y,t',rfl,?_⟩
  by_cases hq:isEq b=true
  ·rw [if_pos hq] at hc
   split at hc
   ·repeat' (first | contradiction | (cases hc;done) | split at hc)
   ·repeat' (first | contradiction | (cases hc;done) | split at hc)
   ·repeat' (first | contradiction | (cases hc;done) | split at hc)
   ·repeat' (first | contradiction | (cases hc;done) | split at hc)
   ·split at hc <;> first | (cases hc;done) | skip
    rename_i h1 h2
    injection hc with hc
    injection hc with e1 e2 e3
    subst e2;subst e3
    exact ⟨hq,e1,h1,h2⟩
  ·rw [if_neg hq] at hc
   repeat' (first | contradiction | (cases hc;done) | split at hc)
 all_goals (repeat' (first | contradiction | (cases hc;done) | (obtain ⟨_,_,hh⟩:=Option.map_eq_some_iff.1 hc;cases hh;done) | split at hc))
theorem AM {P:Program}{o:Oper}{E:Nat→Option SV}{H:Nat→Option Ob}{k:Nat}{neg:Bool}{x':X}{n:Nat}{cs:List DV}(hc:cO P o.op=some (.gX neg 3 x'))(hx:ev E x'=some (.d (.sl n cs))):
  lX P o E H k 0 [] (fun v F'=>F'=[]∧(v= .d (.bool neg)∨(n=0∧v= .d (.bool !neg)))):=by
 obtain ⟨op,t,x,y,t',ho,hop,hneg,hy,hcx⟩:=Ce hc
 subst hneg
 refine ⟨aQ,fun rd p μ M a w K QQ hnew hk hS hK=> ?_⟩
 obtain ⟨A,c,e1,e2,e3,e4⟩:=(by simpa [bQ] using Rp.cu.1 (hk.get (by simp [ho,Op.operands]) hcx hx):∃ A cp,a.eval x= .slice A n cp∧n≤cp∧(n=0→cs=[])∧(0<n→∃ b q,A=some ⟨b,q,none⟩∧cQ M b q cs))
 have hty:∃ e,P.underlying t=some (.slice e)∧a.eval y= .slice none 0 0:=by
  unfold wT at hy
  split at hy <;> first | (cases hy;done) | skip
  all_goals first
   | (injection hy with hy;cases hy;done)
   | exact ⟨_,by assumption,rfl⟩
 obtain ⟨el,hty,hyv⟩:=hty
 have h0:∀ d,(Op.equalIn (d+1) t (a.eval x) (a.eval y)).run P w= .ok A.isNone w:=fun d=>by
  rw [e1,hyv];cases A <;> simp [Op.equalIn,run_underlying hty]
 have h1:=h0 9999
 clear h0
 have n5:eqGuard op t x y (a.eval x) (a.eval y)=Pure.pure ():=by rw [e1];simp [eqGuard_at_slice]
 have hb:(binOp op t (a.eval x) (a.eval y)).run P w= .ok (.bool (bif dO op then !A.isNone else A.isNone)) w:=by
  rw [e1,hyv] at h1 ⊢
  rcases lN hop with rfl | rfl <;> simp [binOp,Op.equal,Op.maxDepth,h1,dO]
 have hex:(execOp a.eval o).run P w= .ok (.value (.bool (bif dO op then !A.isNone else A.isNone))) w:=by
  simp only [execOp,ho,Sem.run_bind,n5,Sem.run_pure,Result.andThen_ok,hb]
 refine gr hex (hK (.d (.bool (bif dO op then !A.isNone else A.isNone))) [] _ μ M w ⟨rfl,?_⟩ (Rp.bz.2 rfl) (hS.more fun _ h=> .inl h) (Ev.refl _ _ _ _ _ fun n h=>by simp [bt] at h))
 by_cases hn:n=0
 ·cases A <;> cases dO op <;> simp [hn]
 ·obtain ⟨b,q,rfl,_⟩:=e4 (by omega)
  left
  cases dO op <;> rfl
theorem bw.Jk {P:Program}{N k0:Nat}{st:St}{K:St→Prop}{si:SI}{r:List SI}{F:Hp}{nk:Nat}{Q:SV→Hp→Prop}(hg:si.g=none)(hq:∀ o:Oper,cO P o.op=some si.op→lX P o (fun t=>st.env.lookup t) (lk st.hp) st.k nk F Q)
  (hro:∀ v F',Q v F'→F'=F) (h:∀ v F',Q v F'→bw P N k0 r (kr st si ⟨v,F,F',nk,True⟩) K):bw P N k0 (si::r) st K:=by
 refine bw.cons fun ops o hc hN rd cE M0 w0 c0 a w eO i ho Q' KK B7=> ?_
 obtain ⟨g1,g2,g3⟩:=fI hc
 have hgn:o.guard=none:=by
  rcases g3 with ⟨h,_⟩ | ⟨j,w,t,h,_,h'⟩
  ·exact h
  ·rw [hg] at h';cases h'
 unfold wpOpIn
 simp only [ho,Region.wanted,hgn,if_true]
 exact (gH.step g2 (fun d hd=>hN d (by rw [g2];exact hd)) (hq o g1) (fun v F' hQ hr=>hro v F' hQ) eO fun v F' hQ a' w' hSt'=>B7 _ a' w' (h v F' hQ) hSt')
theorem SW.Jl {P:Program}{N k0:Nat}{st:St}{Q:Exit→St→Prop}{d s t n:Nat}{cs:List DV}{neg:Bool}{bs:List Nat}(hl:st.env.lookup s=some (.d (.sl n cs)))
  (h1:Q .normal ⟨(d,.d (.bool neg))::(t,.d (.sl n cs))::st.env,st.hp,st.k⟩) (h2:n=0→Q .normal ⟨(d,.d (.bool !neg))::(t,.d (.sl n cs))::st.env,st.hp,st.k⟩):
  SW P N k0 (.ey [⟨some t,.mv (.t s),none⟩,⟨some d,.gX neg 3 (.t t),none⟩] bs false) st Q:=by
 refine SW.yu (bw.one (de:=[]) (c2:=[]) (e:=⟨.d (.sl n cs),[],[],0,True⟩) (by simp only [eW,eV,cZ,ev,hl]) trivial ?_)
 refine bw.Jk rfl (fun o hc=>AM (n:=n) (cs:=cs) hc (by simp [kr,ev])) (fun v F' h=>h.1) fun v F' hv=>bw.nil ?_
 obtain ⟨rfl,rfl | ⟨h0,rfl⟩⟩:=hv
 ·exact h1
 ·exact h2 h0
theorem SB.same {P:Program}{f:FuncId}{args:List SV}{F:Hp}{k nk:Nat}{v:SV}(h:SB P f args F k nk fun r F'=>r=v∧F'=F)(lP:F.ok (fun m=>(lk F m).isSome)=true)(ha:SV.ay (fun m=>(lk F m).isSome) args=true)(hv:∀ q,v.ok q=true):aM P f args F k nk v F:=by
 unfold aM
 refine h.here (fun m=>(lk F m).isSome) (fun m h e=>by rw [e] at h;cases h) ha lP ?_
 rintro x F' ⟨rfl,rfl⟩ _ _
 exact ⟨hv _,Hp.dy (fun m hm=>by rw [hm];rfl) lP⟩
end
section
variable {P:Program} {N k0:Nat}
theorem Cf {ops:Array Oper}{o:Oper}{si:SI}{st:St}{e:kH}{c1 c2:List CR}{i:Nat}{rd:Option Nat}{cE:Nat→Nm}{M0:Mem}{w0:World}{c0:Nat→Option Ob}{a:Act}{w:World}{Q':Exit→Act→World→Prop}{KK:Act→World→Prop}
  (ho:ops[i]? =some o) (hc:oz P ops o=some si) (hN:∀ d,si.dst=some d→d<N) (hop:eW P st si c1=some (e,c2)) (bn:e.ob) (eO:gH N cE M0 w0 c0 k0 st a w) (B7:∀ a' w',gH N cE M0 w0 c0 k0 (kr st si e) a' w'→KK a' w'):wpOpIn (jc rd) 0 P ops Q' i KK a w:=by
 obtain ⟨b1,b2,b3⟩:=oM hc hop bn
 obtain ⟨g1,g2,g3⟩:=fI hc
 unfold wpOpIn
 simp only [ho]
 obtain ⟨mH,hdf,hsz,μ,M,fQ,hS,hE⟩:=eO
 have eO:gH N cE M0 w0 c0 k0 st a w:=⟨mH,hdf,hsz,μ,M,fQ,hS,hE⟩
 rcases b1 with ⟨j,want,t,sv,hg,hd,hE',hb,e1,e2,e3,e4⟩ | ⟨hg,hs⟩
 ·have hv:=fQ t _ hE'
  have hw:Region.wanted o (yielded ops a.tmps)=false:=by
   simp only [Region.wanted,hg]
   unfold kN at hb
   split at hb
   ·rw [gD hd (Rp.bz.1 hv)]
    simpa using hb
   ·obtain ⟨vs,e,hvs⟩:=Rp.dP.1 hv
    have hvs0:vs= #[]:=by have:=aR.aP.1 hvs;simpa using this
    rw [oJ hd (by rw [e,hvs0];rfl)]
    rfl
   ·cases hb
  simp only [hw,Bool.false_eq_true,if_false]
  obtain ⟨v,F,F',nk,eo⟩:=e
  simp only at e1 e2 e3 e4
  subst e1;subst e2;subst e3;subst e4
  exact ⟨fun _ _=>trivial,B7 _ _ (gH.skip g2 (fun d hd=>hN d (by rw [g2];exact hd)) eO)⟩
 ·have hw:Region.wanted o (yielded ops a.tmps)=true:=by
   rcases hg with hg | ⟨j,want,t,hg,hd,hE'⟩
   ·simp [Region.wanted,hg]
   ·have hv:=Rp.bz.1 (fQ t _ hE')
    simp only [Region.wanted,hg,gD hd hv]
    simp
  simp only [hw,if_true]
  exact (gH.step g2 (fun d hd=>hN d (by rw [g2];exact hd)) hs.q (fun v F' hQ hr=>by rw [hQ.2];exact b2 hr) eO fun v F' hQ a' w' hSt'=>B7 a' w' (by rw [hQ.1,hQ.2] at hSt';exact hSt'))
def IJ (n:Nat)(bs:List Nat)(mask:Nat):List Nat:=(List.range n).filter fun i=> !mask.testBit i && (List.range n).all fun j=> !eG bs j i || mask.testBit j
def vk (P:Program)(N k0:Nat)(cH:List SI)(bs:List Nat)(mask:Nat)(st:St)(K:St→Prop):Prop:=
 ∀ (ops:Array Oper),ops.size=cH.length→(∀ (j:Nat) (si:SI),cH[j]? =some si→∃ o:Oper,ops[j]? =some o∧oz P ops o=some si)→(∀ si∈cH,∀ d,si.dst=some d→d<N)→okB ops bs=true→
  ∀ (rd:Option Nat) (cE:Nat→Nm) (M0:Mem) (w0:World) (c0:Nat→Option Ob) (fuel:Nat) (listed:Array Bool) (a:Act) (w:World),listed.size=ops.size→gF listed ops.size=fuel→sL ops (fun j=>listed.getD j false)→
   (∀ j,j<ops.size→listed.getD j false=mask.testBit j)→gH N cE M0 w0 c0 k0 st a w→∀ Q':Exit→Act→World→Prop,(∀ st' a' w',K st'→gH N cE M0 w0 c0 k0 st' a' w'→Q' .normal a' w')→
   wpAnyIn (jc rd) 0 P .any ops Q' fuel listed a w
def Oa (P:Program)(N k0:Nat)(cH:List SI)(bs:List Nat)(mask:Nat)(st:St)(K:St→Prop)(i:Nat):Prop:=
 ∃ si e c2,cH[i]? =some si∧eW P st si []=some (e,c2)∧e.ob∧vk P N k0 cH bs (mask ||| 2 ^ i) (kr st si e) K
theorem vk.done {cH:List SI}{bs:List Nat}{mask:Nat}{st:St}{K:St→Prop}(h:(List.range cH.length).all (fun i=>mask.testBit i)=true)(hk:K st):vk P N k0 cH bs mask st K:=by
 intro ops hn jL hN hok rd cE M0 w0 c0 fuel listed a w hl hcnt hc hm eO Q' hQ
 have hall:∀ j,j<ops.size→listed.getD j true=true:=fun j hj=>by
  have h1:=List.all_eq_true.1 h j (List.mem_range.2 (by omega))
  have h2:=hm j hj
  rw [h1] at h2
  simpa [show j<listed.size by omega] using h2
 have h0:fuel=0:=by rw [← hcnt];exact oL hall
 subst h0
 refine ⟨List.eq_nil_iff_forall_not_mem.2 fun i hi=> ?_,hQ st a w hk eO⟩
 obtain ⟨h1,o,h2,_⟩:=mem_ready.1 hi
 rw [hall i (Array.getElem?_eq_some_iff.1 h2).1] at h1
 cases h1
theorem vk.step {cH:List SI}{bs:List Nat}{mask:Nat}{st:St}{K:St→Prop}(hne:(List.range cH.length).all (fun i=>mask.testBit i)=false)(h:∀ i∈IJ cH.length bs mask,Oa P N k0 cH bs mask st K i):vk P N k0 cH bs mask st K:=by
 intro ops hn jL hN hok rd cE M0 w0 c0 fuel listed a w hl hcnt hc hm eO Q' hQ
 have same:∀ j,j<ops.size→listed.getD j true=listed.getD j false:=fun j hj=>by simp [show j<listed.size by omega]
 cases fuel with
 | zero=>
  exfalso
  have hall:=mK hcnt
  have:(List.range cH.length).all (fun i=>mask.testBit i)=true:=List.all_eq_true.2 fun i hi=>by
   have hi:=List.mem_range.1 hi
   rw [← hm i (by omega),← same i (by omega)]
   exact hall i (by omega)
  rw [this] at hne;cases hne
 | succ fuel=>
  refine ⟨fun hr=> ?_,fun i hi=> ?_⟩
  ·have:=oL (uL hok hl hr)
   omega
  ·obtain ⟨h1,o,h2,h3⟩:=mem_ready.1 hi
   have hi':i<ops.size:=(Array.getElem?_eq_some_iff.1 h2).1
   have hn0:listed.getD i false=false:=by rw [← same i hi'];exact h1
   have hp:zw ops (fun j=>listed.getD j false) i:=fun o' ho' e he hbd=>by
    rw [h2] at ho';injection ho' with ho';subst ho'
    exact h3 e he hbd
   have hin:i∈IJ cH.length bs mask:=by
    unfold IJ
    rw [List.mem_filter,List.mem_range]
    refine ⟨by omega,?_⟩
    rw [Bool.and_eq_true]
    refine ⟨by rw [← hm i hi',hn0];rfl,List.all_eq_true.2 fun j hj=> ?_⟩
    have hj:=List.mem_range.1 hj
    cases ho:eG bs j i with
    | false=>rfl
    | true=>
     rw [← hm j (by omega),qw hok hc hi' (by omega) hp ho];rfl
   obtain ⟨si,e,c2,g1,g2,g3,g4⟩:=h i hin
   obtain ⟨o',ho',hco⟩:=jL i si g1
   rw [h2] at ho';injection ho' with ho';subst ho'
   have hD:∀ j,(listed.getD j false || j == i)=(listed.setIfInBounds i true).getD j false:=fun j=>by
    by_cases hji:j=i
    ·subst hji
     simp [show j<listed.size by omega]
    ·rw [getD_set_ne false (Ne.symm hji)]
     simp [beq_eq_false_iff_ne.2 hji]
   have fin:∀ a' w',gH N cE M0 w0 c0 k0 (kr st si e) a' w'→wpAnyIn (jc rd) 0 P .any ops Q' fuel (listed.setIfInBounds i true) a' w':=fun a' w' hSt'=>by
    refine g4 ops hn jL hN hok rd cE M0 w0 c0 fuel _ a' w' (by simpa using hl) (by have:=oK h1 ops.size;simp [hi'] at this;omega) (fun j o' hDj ho' ed he hbd=> ?_) (fun j hj=> ?_) hSt' Q' hQ
    ·simp only [← hD] at hDj ⊢
     simp only [Bool.or_eq_true,beq_iff_eq] at hDj
     rcases hDj with h | rfl
     ·simp [hc j o' h ho' ed he hbd]
     ·rw [h2] at ho';injection ho' with ho';subst ho'
      have:=h3 ed he hbd
      simp [this]
    ·rw [← hD,hm j hj,Nat.testBit_or,Nat.testBit_two_pow]
     congr 1
     by_cases hji:j=i
     ·subst hji;simp
     ·rw [beq_eq_false_iff_ne.2 hji,decide_eq_false (fun e=>hji e.symm)]
   exact Cf h2 hco (fun d hd=>hN si (List.mem_of_getElem? g1) d hd) g2 g3 eO fin
theorem SW.tree {st:St}{Q:Exit→St→Prop}{cH:List SI}{bs:List Nat}(hm:P.follows .mixedOrders=true)(h:vk P N k0 cH bs 0 st (Q .normal)):SW P N k0 (.ey cH bs true) st Q:=by
 intro c hc rd hrf cE M0 w0 c0 a w eO
 cases c <;> simp only [cK] at hc <;> first
  | (cases hc;done)
  | (exfalso;split at hc <;> cases hc;done)
  | (exfalso;obtain ⟨_,_,h'⟩:=Option.map_eq_some_iff.1 hc;cases h';done)
  | skip
 rename_i id ops draw
 split at hc <;> first | (cases hc;done) | skip
 rename_i sis' bs' hreg
 injection hc with hc
 injection hc with h1 h2 h3
 subst h1;subst h2;subst h3
 unfold BS at hreg
 split at hreg <;> first | (cases hreg;done) | skip
 rename_i sis2 hsis
 split at hreg <;> first | (cases hreg;done) | skip
 rename_i hchk
 injection hreg with hreg
 injection hreg with hr1 hr2
 subst hr1
 rw [hr2] at hchk
 simp only [Bool.and_eq_true,Bool.not_true,Bool.false_or] at hchk
 obtain ⟨⟨hok,_⟩,hin⟩:=hchk
 obtain ⟨hlen,jL⟩:=lU hsis
 have hn:ops.size=sis2.length:=by simpa using hlen
 refine wpIn_region_any hm ?_
 have hSt2:gH N cE M0 w0 c0 k0 st a w.drew:=by
  obtain ⟨b1,b2,b3,μ,M,b4,b5,b6⟩:=eO
  exact ⟨b1,b2.ev b5 (Ev.refl _ (fun _=>False) _ _ _ fun _ _ h=>h).drew,b3,μ,M,b4,b5.drew,b6.drew⟩
 refine h ops hn (fun j si hj=> ?_) (fun si hs d hd=> ?_) hok rd cE M0 w0 c0 ops.size _ a w.drew (by simp) ?_ (fun j o h=> ?_) (fun j hj=>by simp [hj]) hSt2 _ fun st' a' w' hk hs=>⟨st',hk,hs⟩
 ·have hj':j<ops.size:=by rw [hn];exact (List.getElem?_eq_some_iff.1 hj).1
  obtain ⟨si',h1,h2⟩:=jL j ops[j] (by simp [hj'])
  rw [hj] at h1;injection h1 with h1;subst h1
  exact ⟨ops[j],Array.getElem?_eq_getElem hj',h2⟩
 ·have:=List.all_eq_true.1 hin si hs
  rw [hd] at this
  simpa using this
 ·have:∀ n,n≤ops.size→gF (Array.replicate ops.size false) n=n:=by
   intro n
   induction n with
   | zero=>intro _;rfl
   | succ n ih=>intro hn';simp only [gF,ih (by omega)];simp [show n<ops.size by omega]
  exact this _ (Nat.le_refl _)
 ·exfalso
  by_cases hj:j<ops.size
  ·simp [hj] at h
  ·simp [hj] at h
end
section
variable {P:Program} {N k0:Nat} {cH:List SI} {bs:List Nat} {mask:Nat} {st:St} {K:St→Prop}
theorem vk.s1 (i:Nat)(hne:(List.range cH.length).all (fun i=>mask.testBit i)=false:=by kernel_rfl)(hr:IJ cH.length bs mask=[i]:=by rfl)(h1:Oa P N k0 cH bs mask st K i):vk P N k0 cH bs mask st K:=
 vk.step hne fun j hj=>by rw [hr] at hj;simp at hj;subst hj;exact h1
theorem vk.s2 (i j:Nat)(hne:(List.range cH.length).all (fun i=>mask.testBit i)=false:=by kernel_rfl)(hr:IJ cH.length bs mask=[i,j]:=by rfl)(h1:Oa P N k0 cH bs mask st K i)(h2:Oa P N k0 cH bs mask st K j):vk P N k0 cH bs mask st K:=
 vk.step hne fun q hj=>by rw [hr] at hj;simp at hj;rcases hj with rfl | rfl <;> assumption
theorem vk.s3 (i j l:Nat)(hne:(List.range cH.length).all (fun i=>mask.testBit i)=false:=by kernel_rfl)(hr:IJ cH.length bs mask=[i,j,l]:=by rfl)(h1:Oa P N k0 cH bs mask st K i)(h2:Oa P N k0 cH bs mask st K j)(h3:Oa P N k0 cH bs mask st K l):vk P N k0 cH bs mask st K:=
 vk.step hne fun q hj=>by rw [hr] at hj;simp at hj;rcases hj with rfl | rfl | rfl <;> assumption
theorem Oa.mk {i:Nat}{d:Option Nat}{op:SO}{g:Option (Nat×Bool)}{env env':List (Nat×SV)}{hp oI F F':Hp}{k k' mask':Nat}{v:SV}{nk:Nat}{ob:Prop}{Φ:Prop}(φ:Φ)
  (hsi:cH[i]? =some ⟨d,op,g⟩:=by rfl)
  (hg:g=none∨∃ t w,g=some (t,w)∧env.lookup t=some (.d (.bool w)):=by first | exact .inl rfl | exact .inr ⟨_,_,rfl,rfl⟩)
  (he:Φ→eV P ⟨env,hp,k⟩ op []=some (⟨v,F,F',nk,ob⟩,[]):=by
   intro φ
   simp (disch:=omega) only [Go.Sl.seg,kA,gi,eV,cZ,ev,oG,wQ,kr,List.lookup,Nat.reduceBEq,Nat.reduceAdd,Nat.reduceMul,Nat.zero_add,SV.cells,if_true,if_false,reduceIte,Bool.false_eq_true,cg,bV,dg,dh,fZ,gw,di,lk,List.filter,Nat.reduceBNe,bne_self_eq_false,eq_self,zm,wP,fU,vI,vJ,ED,aL.cells_one,BEq.rfl,beq_self_eq_true,Bool.true_or,Nat.reduceEqDiff,List.map_cons,List.map_nil,List.nil_append,List.cons_append,List.append_nil,Int.toNat_natCast,Nat.mul_one,Nat.add_zero,g_,gZ,j_,iD,iE,iF,iG,iH,iI,kf,Option.isSome_some,Option.isSome_none,Option.isNone_some,Option.isNone_none,Nat.zero_ne_one,Nat.one_ne_zero,Bool.and_false,Bool.and_true,List.drop_zero,aL.aI,aL.bg,aL.bD,Dt.cells_one,Dt.bg,Dt.As,Dt.Au,Dt.bD,Dt.aI,Dt.AG,Dt.AH,mD,eH,vK,uh,List.all_cons,List.all_nil,SV.dG,Int.cast_ofNat_Int,Int.reduceBNe,Int.reduceBEq,Int.reduceLT,Int.reduceLE,Int.reduceGT,Int.reduceGE,nu,uT,uU,Bool.not_true,Bool.not_false,Bool.or_false,Bool.or_true,Bool.false_or,Bool.or_self,aL.qB,aL.Av,aL.uR,aL.uS,aL.dJ,aL.dK,Dt.qB,Dt.Aw,Dt.dJ,Dt.dK,List.all_append,aL.yt,Dt.qh,Bool.cond_true,Bool.cond_false,wrap_i64,jF,wrap_u32',wrap_u8',af,u_,kZ,k9,Int.reduceToNat,List.length_nil,List.getElem?_cons_zero,List.getElem?_cons_succ,List.take_succ_cons,List.take_zero,List.drop_succ_cons,decide_true,decide_false,Bool.true_and,Bool.and_self,Bool.false_and,nv,nw,kR,kS,jE,MM.ej,kT,oO,nG,nJ,nE,nH,nF,nI,nC,nD,ag.cells_one,ag.bg,ag.kX,ag.Ax,ag.uX,ag.Ay,ag.kY,ag.uY,ag.uZ,ag.IF,ag.iL,ag.iM,ag.qE,ag.IG,ag.Az,ag.u0,ag.AA,ag.qF,ag.qG,ag.u5,ag.u6,ag.bD,ag.aI,Cr.cells_one,Cr.bg,Cr.kX,Cr.kY,Cr.AD,Cr.u7,Cr.iL,Cr.iM,Cr.qE,Cr.qH,Cr.bD,Cr.aI,Cr.qh,nL,nM,nN,nO,Sp.cells_one,Sp.bg,Sp.kX,Sp.gN,Sp.bD,Sp.aI,Sp.fE,Sp.qh,nQ,nP,φ]
   with_reducible rfl)
  (bn:ob:=by first | trivial | (repeat' (first | exact trivial | omega | apply And.intro | (simp [-List.length_flatMap,-Int.natCast_add];done) | (simp [-List.length_flatMap,-Int.natCast_add] <;> omega))))
  (hh:Φ→bV (cg op) hp F F'=oI:=by (intro φ;simp only [φ,cg,bV,dg,dh,fZ,gw,di,lk,List.lookup,Nat.reduceBEq,BEq.rfl,beq_self_eq_true,if_true,if_false,reduceIte,Nat.reduceEqDiff,Bool.false_eq_true,Option.isSome_some,Option.isSome_none] <;> with_reducible rfl))
  (hk:k+nk=k':=by first | (simp only [Nat.add_zero,Nat.reduceAdd] <;> rfl) | rfl)
  (hm:mask ||| 2 ^ i=mask':=by first | (simp only [Nat.reducePow,Nat.reduceOr] <;> rfl) | rfl)
  (KM:s4 d v env=env':=by (simp only [s4] <;> rfl))
  (h:vk P N k0 cH bs mask' ⟨env',oI,k'⟩ K):Oa P N k0 cH bs mask ⟨env,hp,k⟩ K i:=by
 subst hm
 refine ⟨⟨d,op,g⟩,⟨v,F,F',nk,ob⟩,[],hsi,fJ hg (he φ),bn,?_⟩
 rw [ig,hh φ,hk,KM]
 exact h
end
section
end
section
variable {P:Program}
structure gW {σ:Type}(G:Hp)(Fh:σ→Hp)(s:σ)(kk:Nat):Prop where
 nd:(G.map (·.1)).Nodup
 lt:∀ n,n∈G.map (·.1)→n<kk
 no:∀ n,n∈G.map (·.1)→lk (Fh s) n=none
 ok:G.ok (fun n=>decide (n<kk))=true
 okF:(Fh s).ok (fun n=>decide (n<kk))=true
theorem ff {G:Hp}{n:Nat}(h:n∉G.map (·.1)):lk G n=none:=by
 cases hh:lk G n with
 | none=>rfl
 | some o=>
  exfalso;apply h
  clear h
  induction G with
  | nil=>simp [bt] at hh
  | cons x G ih=>
   rw [aa] at hh
   split at hh
   ·rename_i e;rw [e];simp
   ·rw [List.map_cons];exact List.mem_cons_of_mem _ (ih hh)
section
variable {σ:Type} {G:Hp} {Fh:σ→Hp} {s:σ} {kk:Nat}
theorem gW.sub (h:gW G Fh s kk):HSub (Fh s) (G++Fh s):=fun n ob hn=>by
 have:n∉G.map (·.1):=fun hm=>by rw [h.no n hm] at hn;cases hn
 rw [dB,ff this,Option.none_or];exact hn
theorem gW.all (h:gW G Fh s kk)(hF:∀ x,x∈Fh s→lk (Fh s) x.1=some x.2):∀ x,x∈G++Fh s→lk (G++Fh s) x.1=some x.2:=fun x hx=>by
 rcases List.mem_append.1 hx with hx | hx
 ·rw [dB,aH h.nd x hx];rfl
 ·exact h.sub x.1 x.2 (hF x hx)
theorem gW.rR (h:gW G Fh s kk):(G++Fh s).ok (fun n=>decide (n<kk))=true:=by
 have h1:=h.ok
 have h2:=h.okF
 unfold Hp.ok at*
 rw [List.all_append,h1,h2];rfl
theorem gW.mono {k':Nat}(h:gW G Fh s kk)(hk:kk≤k'):gW G Fh s k':=⟨h.nd,fun n hn=>Nat.lt_of_lt_of_le (h.lt n hn) hk,h.no,Hp.bE hk h.ok,Hp.bE hk h.okF⟩
theorem gW.KN {G':Hp}(h:gW G Fh s kk)(hn:G'.map (·.1)=G.map (·.1))(ho:G'.ok (fun n=>decide (n<kk))=true):gW G' Fh s kk:=⟨by rw [hn];exact h.nd,by rw [hn];exact h.lt,by rw [hn];exact h.no,ho,h.okF⟩
theorem gW.less {G':Hp}(h:gW G Fh s kk)(hs:G'.Sublist G):gW G' Fh s kk:=
 ⟨h.nd.sublist (hs.map _),fun n hn=>h.lt n ((hs.map _).subset hn),fun n hn=>h.no n ((hs.map _).subset hn),by
  have:=h.ok
  unfold Hp.ok at*
  rw [List.all_eq_true] at*
  exact fun x hx=>this x (hs.subset hx),h.okF⟩
theorem gW.out (h:gW G Fh s kk){n:Nat}(hn:kk≤n):lk (Fh s) n=none:=Hp.out h.okF hn
theorem gW.new {n k':Nat}{ob:Ob}(h:gW G Fh s kk)(hn:kk≤n)(hk:n<k')(ho:ob.ok (fun m=>decide (m<k'))=true):gW ((n,ob)::G) Fh s k':=by
 refine ⟨List.nodup_cons.2 ⟨fun hm=> ?_,h.nd⟩,fun m hm=> ?_,fun m hm=> ?_,?_,Hp.bE (by omega) h.okF⟩
 ·have:=h.lt n hm;omega
 ·rcases List.mem_cons.1 hm with rfl | hm
  ·exact hk
  ·have:=h.lt m hm;omega
 ·rcases List.mem_cons.1 hm with rfl | hm
  ·exact h.out hn
  ·exact h.no m hm
 ·have:=Hp.bE (show kk≤k' by omega) h.ok
  unfold Hp.ok at*
  rw [List.all_cons,this,ho]
  simpa using hk
theorem gW.cut {G1:Hp}(h1:gW G1 Fh s kk)(hn:(G.map (·.1)).Nodup)(hs:∀ x,x∈G→x∈G1):gW G Fh s kk:=
 ⟨hn,fun n hm=>by
  obtain ⟨x,hx,rfl⟩:=List.mem_map.1 hm
  exact h1.lt _ (List.mem_map.2 ⟨x,hs x hx,rfl⟩),fun n hm=>by
  obtain ⟨x,hx,rfl⟩:=List.mem_map.1 hm
  exact h1.no _ (List.mem_map.2 ⟨x,hs x hx,rfl⟩),by
  have:=h1.ok
  unfold Hp.ok at*
  rw [List.all_eq_true] at*
  exact fun x hx=>this x (hs x hx),h1.okF⟩
theorem gW.keep {G1:Hp}(h1:gW G1 Fh s kk)(hs:∀ x,x∈G→x∈G1):∀ n ob,lk (G++Fh s) n=some ob→lk (G1++Fh s) n=some ob:=fun n ob hn=>by
 rw [dB] at hn
 cases hg:lk G n with
 | some o=>
  rw [hg] at hn
  have e:o=ob:=by simpa using hn
  have hm:(n,o)∈G:=by
   clear hn hs
   induction G with
   | nil=>simp [bt] at hg
   | cons x G ih=>
    rw [aa] at hg
    split at hg
    ·rename_i e;injection hg with hg;rw [e,← hg];simp
    ·exact List.mem_cons_of_mem _ (ih hg)
  rw [dB,aH h1.nd _ (hs _ hm),← e];rfl
 | none=>
  rw [hg,Option.none_or] at hn
  have:n∉G1.map (·.1):=fun hm=>by rw [h1.no n hm] at hn;cases hn
  rw [dB,ff this,Option.none_or];exact hn
theorem aJ.own {k0 k:Nat}{env pG:List (Nat×SV)}{hp:Hp}(h:gW G Fh s kk)(hF:∀ x,x∈Fh s→lk (Fh s) x.1=some x.2)(hk:k0≤kk)(he:aY id kk env pG)(hh:∀ n ob,lk (G++Fh s) n=some ob→lk hp n=some ob):aJ k0 ⟨env,hp,k⟩ ⟨pG,G++Fh s,kk⟩ id:=
 aJ.same hk he h.rR fun x hx=>hh _ _ (h.all hF x hx)
end
section
variable {N k0:Nat} {K:St→Prop}
end
end
section
def Ob.iB (n len:Nat)(ds:List DV):Ob→Ob
 | .box t cs=> .box t (SV.rP n len ds cs)
 | .map es c=> .map (es.map fun e=>(e.1,e.2.1,e.2.2.iB n len ds)) c
 | o=>o
theorem fT.iB {p:Nat→Prop}{μ:Nat→Nm}{M:Mem}{n len:Nat}{ds:List DV}(hg:∀ v,Rp p μ M (.gs n len) v→Rp p μ M (.d (.sl len ds)) v):∀ (r:List (Nat×SV×SV)) (es:List MapEntry),fT p μ M r es→fT p μ M (r.map fun e=>(e.1,e.2.1,e.2.2.iB n len ds)) es
 | [],es,h=>h
 | (b,k,v)::r,es,⟨e,es',h1,h2,h3,h4,h5⟩=>⟨e,es',h1,h2,h3,SV.nr hg v _ h4,fT.iB hg r es' h5⟩
def yy (n len:Nat)(ds:List DV)(h:Hp):Hp:=h.map fun x=>(x.1,x.2.iB n len ds)
theorem zJ (n len:Nat)(ds:List DV):∀ (h:Hp) (m:Nat),lk (yy n len ds h) m=(lk h m).map (Ob.iB n len ds)
 | [],m=>rfl
 | (q,o)::h,m=>by
  have ih:=zJ n len ds h m
  unfold yy at ih ⊢
  rw [List.map_cons,aa,aa]
  split
  ·rfl
  ·exact ih
abbrev Cg (φ:Ob→Ob)(n len:Nat)(ds:List DV):Prop:=∀ (p:Nat→Prop) (μ:Nat→Nm) (M:Mem) (w:World),(∀ v,Rp p μ M (.gs n len) v→Rp p μ M (.d (.sl len ds)) v)→∀ m o,bW p μ M w m o→bW p μ M w m (φ o)
abbrev xC (φ:Ob→Ob)(h:Hp):Hp:=h.map fun x=>(x.1,φ x.2)
theorem mQ (φ:Ob→Ob):∀ (h:Hp) (m:Nat),lk (xC φ h) m=(lk h m).map φ
 | [],m=>rfl
 | (q,o)::h,m=>by
  have ih:=mQ φ h m
  unfold xC at ih ⊢
  rw [List.map_cons,aa,aa]
  split
  ·rfl
  ·exact ih
theorem bK.Jm {p:Nat→Prop}{μ:Nat→Nm}{M:Mem}{w:World}{h:Hp}{n len:Nat}{ds:List DV}{φ:Ob→Ob}(hφ:Cg φ n len ds)(hS:bK p μ M (lk h) w)(hg:∀ v,Rp p μ M (.gs n len) v→Rp p μ M (.d (.sl len ds)) v):bK p μ M (lk (xC φ h)) w:=by
 refine ⟨⟨hS.mem.cell,hS.mem.j9⟩,fun m ob hm=> ?_,fun m m' hm hm'=> ?_⟩
 ·rw [mQ] at hm
  obtain ⟨o,ho,rfl⟩:=Option.map_eq_some_iff.1 hm
  obtain ⟨a1,a2,a3⟩:=hS.obs m o ho
  exact ⟨a1,hφ p μ M w hg _ _ a2,a3⟩
 ·have key:∀ m,lk (xC φ h) m≠none→lk h m≠none:=fun m hm hn=>hm (by rw [mQ,hn];rfl)
  exact hS.inj m m' (key m hm) (key m' hm')
theorem Hy (n len:Nat)(ds:List DV):Cg (Ob.iB n len ds) n len ds:=fun p μ M w hg m o a2=>by
 cases o with
 | box t cs=>
  simp only [bW,Ob.iB] at a2 ⊢
  obtain ⟨b1,vs,b2,b3⟩:=a2
  exact ⟨b1,vs,b2,SV.pI hg cs _ b3⟩
 | map es c=>
  simp only [bW,Ob.iB] at a2 ⊢
  obtain ⟨b1,vs,b2,b3⟩:=a2
  exact ⟨b1,vs,b2,fT.iB hg es _ b3⟩
 | _=>exact a2
section
variable {P:Program} {N k0:Nat} {st:St} {Q:Exit→St→Prop}
theorem gH.Fi {φ:Ob→Ob}{cE:Nat→Nm}{M0:Mem}{w0:World}{c0:Nat→Option Ob}{a:Act}{w:World}(n:Nat){e sz len:Nat}{cs:List SV}{ds:List DV}(hφ:Cg φ n len ds)(hn:lk st.hp n=some (.arr e sz len cs))(hcs:cs=ds.map .d)
    (h:gH N cE M0 w0 c0 k0 st a w):gH N cE M0 w0 c0 k0 ⟨kQ n len ds st.env,xC φ (di st.hp n),st.k⟩ a w:=by
  subst hcs
  obtain ⟨mH,hdf,hsz,μ,M,fQ,hS,hE⟩:=h
  obtain ⟨hpn,bn,hMn⟩:=hS.obs n _ hn
  rcases bn with ⟨hdead,hl0,hds⟩ | ⟨hlive,vs,hb,hl1,hl2,ID,hl4,hr⟩
  · have hd0:ds=[]:=by simpa using hds
    subst hd0;subst hl0
    have hg:∀ v,Rp (· <st.k) μ M (.gs n 0) v→Rp (· <st.k) μ M (.d (.sl 0 [])) v:=fun v hv=>by
      refine Rp.cu.2 ?_
      simp only [bQ]
      obtain ⟨h,_⟩ | ⟨_,_,A,e1⟩:=hv.jZ
      · rw [hdead] at h;cases h
      · exact ⟨A,0,e1,Nat.le_refl _,fun _=>trivial,fun h=>absurd h (Nat.lt_irrefl _)⟩
    have hsub:∀ m ob,lk (di st.hp n) m=some ob→lk st.hp m=some ob:=fun m ob hm=>by
      rw [cR] at hm
      split at hm
      · cases hm
      · exact hm
    refine ⟨mH,hdf,hsz,μ,M,fun t s hs=> ?_,(hS.sub hsub).Jm hφ hg,hE.wN fun m hm=> ?_⟩
    · rw [jO] at hs
      obtain ⟨s',hs',rfl⟩:=Option.map_eq_some_iff.1 hs
      exact SV.nr hg s' _ (fQ t s' hs')
    · obtain ⟨o1,ho1⟩:=Option.ne_none_iff_exists'.1 hm
      rw [mQ] at ho1
      obtain ⟨o2,ho2,_⟩:=Option.map_eq_some_iff.1 ho1
      rw [hsub m o2 ho2];simp
  have hMn:=hMn hlive
  have hlen:ds.length=len*sz:=by simpa using hl1
  let M':Mem:=fun b o=>if b=(μ n).blk then (if o<len*sz then vs[o]? else none) else M b o
  have hne:∀ b,b≠(μ n).blk→∀ o,M' b o=M b o:=fun b hb o=>by simp [M',hb]
  have hle:Mem.le M M':=fun b o v hv=>by
    have:b≠(μ n).blk:=fun e=>by rw [e,hMn] at hv;cases hv
    rw [hne b this];exact hv
  have hoth:∀ m,lk st.hp m≠none→m≠n→(μ m).live=true→(μ m).blk≠(μ n).blk:=fun m hm hmn lm e=>hmn (hS.inj m n hm (by rw [hn];simp) lm hlive e)
  have hsub:∀ m ob,lk (di st.hp n) m=some ob→lk st.hp m=some ob∧m≠n:=fun m ob hm=>by
    rw [cR] at hm
    split at hm
    · cases hm
    · rename_i e;exact ⟨hm,e⟩
  have hg:∀ v,Rp (· <st.k) μ M' (.gs n len) v→Rp (· <st.k) μ M' (.d (.sl len ds)) v:=fun v hv=>by
    obtain ⟨_,e1⟩ | ⟨h,_⟩:=hv.jZ
    rotate_left
    · rw [hlive] at h;cases h
    refine Rp.cu.2 ?_
    simp only [bQ]
    refine ⟨_,_,e1,hl2,fun h0=> ?_,fun _=>⟨_,_,rfl,cQ.mk fun i c hi=> ?_⟩⟩
    · subst h0
      simp at hlen
      exact hlen
    · obtain ⟨u,hu,hru⟩:=hr.Gx hi
      have hil:i<len*sz:=by rw [← hlen];exact (List.getElem?_eq_some_iff.1 hi).1
      refine ⟨u,?_,bQ.mono hle _ _ hru⟩
      rw [List.getElem?_take_of_lt hil] at hu
      simp only [M',if_true,Nat.zero_add,hil]
      simpa using hu
  have hS2:bK (· <st.k) μ M' (lk (di st.hp n)) w:=by
    refine ⟨⟨fun b o v hv=> ?_,hS.mem.j9.le hle⟩,fun m ob hm=> ?_,fun m m' hm hm' lm lm' e=> ?_⟩
    · by_cases hbn:b=(μ n).blk
      · subst hbn
        simp only [M',if_true] at hv
        split at hv
        · rw [cell_of hb];exact hv
        · cases hv
      · rw [hne b hbn] at hv
        exact hS.mem b o v hv
    · obtain ⟨hm1,hmn⟩:=hsub m ob hm
      obtain ⟨a1,a2,a3⟩:=hS.obs m ob hm1
      refine ⟨a1,a2.more (fun _ h=>h) (fun _ _=>rfl) hle fun _=>rfl,fun lm o=> ?_⟩
      rw [hne _ (hoth m (by rw [hm1];simp) hmn lm)]
      exact a3 lm o
    · obtain ⟨o1,ho1⟩:=Option.ne_none_iff_exists'.1 hm
      obtain ⟨o2,ho2⟩:=Option.ne_none_iff_exists'.1 hm'
      exact hS.inj m m' (by rw [(hsub m o1 ho1).1];simp) (by rw [(hsub m' o2 ho2).1];simp) lm lm' e
  refine ⟨mH,hdf,hsz,μ,M',fun t s hs=> ?_,hS2.Jm hφ hg,⟨hE.old,Mem.le_trans hE.mem hle,fun b hb0 hf=> ?_,hE.size,fun m hm=> ?_,hE.os,hE.tape,hE.output⟩⟩
  · rw [jO] at hs
    obtain ⟨s',hs',rfl⟩:=Option.map_eq_some_iff.1 hs
    exact SV.nr hg s' _ ((fQ t s' hs').more (fun _ h=>h) (fun _ _=>rfl) hle)
  · have hbn:b≠(μ n).blk:=fun e=>by
      rcases hE.names n (by rw [hn];simp) with ⟨_,hh⟩ | ⟨h,h'⟩
      · rcases hh hlive with h | ⟨m,hm,lm,e'⟩
        · omega
        · exact hf m hm lm (e'.trans e.symm)
      · rw [hE.old n h] at e hlive
        exact hf n h' hlive e.symm
    obtain ⟨f1,f2⟩:=hE.frame b hb0 hf
    exact ⟨f1,fun o=>by rw [hne b hbn];exact f2 o⟩
  · obtain ⟨o1,ho1⟩:=Option.ne_none_iff_exists'.1 hm
    rw [mQ] at ho1
    obtain ⟨o2,ho2,_⟩:=Option.map_eq_some_iff.1 ho1
    exact hE.names m (by rw [(hsub m o2 ho2).1];simp)
theorem gH.pP {cE:Nat→Nm}{M0:Mem}{w0:World}{c0:Nat→Option Ob}{a:Act}{w:World}(n:Nat){e sz len:Nat}{cs:List SV}{ds:List DV}(hn:lk st.hp n=some (.arr e sz len cs))(hcs:cs=ds.map .d)
  (h:gH N cE M0 w0 c0 k0 st a w):gH N cE M0 w0 c0 k0 ⟨kQ n len ds st.env,yy n len ds (di st.hp n),st.k⟩ a w:=h.Fi n (Hy n len ds) hn hcs
theorem SW.pP {s:bX}(n:Nat){e sz len:Nat}{cs:List SV}(ds:List DV)(hn:lk st.hp n=some (.arr e sz len cs))(hcs:cs=ds.map .d)(h:SW P N k0 s ⟨kQ n len ds st.env,yy n len ds (di st.hp n),st.k⟩ Q):SW P N k0 s st Q:=
 fun c hc rd hrf cE M0 w0 c0 a w eO=>h c hc rd hrf cE M0 w0 c0 a w (eO.pP n hn hcs)
end
end
end Go.Sl
