/-
 Maps with flat keys, as rows of entries: what they say, what their operations give.
-/
import Derived.Test.YtefjaphfnkbbkaaU7
set_option linter.unusedVariables false
set_option linter.unusedSimpArgs false
set_option linter.unusedSectionVars false
namespace Go.Sl
theorem gv (es:List (Nat×SV×SV))(c:Nat)(k v:SV):qy es c k v none= .map (es++[(c,k,v)]) (c+1):=rfl
theorem gw (es:List (Nat×SV×SV))(c:Nat)(k v:SV)(i:Nat):qy es c k v (some i)= .map (es.modify i fun e=>(e.1,e.2.1,v)) c:=rfl
theorem gx (es:List (Nat×SV×SV))(c:Nat):v7 es c none= .map es c:=rfl
theorem gy (es:List (Nat×SV×SV))(c i:Nat):v7 es c (some i)= .map (es.eraseIdx i) c:=rfl
theorem gz (es:List (Nat×SV×SV))(z:SV):lP es z none=z:=rfl
theorem gA (es:List (Nat×SV×SV))(z:SV)(i:Nat):lP es z (some i)=match es[i]? with
 | some e=>e.2.2
 | none=>z:=rfl
section
variable {K V:Type} [DecidableEq K]
abbrev MM (K V:Type):=List (Nat×K×V)
def MM.idx (L:MM K V)(a:K):Option Nat:=L.findIdx? fun x=>decide (a=x.2.1)
def MM.get (L:MM K V)(a:K):Option V:=(L.find? fun x=>decide (a=x.2.1)).map (·.2.2)
def MM.has (L:MM K V)(a:K):Bool:=(MM.get L a).isSome
def MM.keys (L:MM K V):List K:=L.map (·.2.1)
def MM.put (L:MM K V)(c:Nat)(a:K)(v:V):MM K V:=match MM.idx L a with
 | some i=>L.modify i fun x=>(x.1,x.2.1,v)
 | none=>L++[(c,a,v)]
def MM.nO (L:MM K V)(c:Nat)(a:K):Nat:=if MM.has L a then c else c+1
def MM.del (L:MM K V)(a:K):MM K V:=match MM.idx L a with
 | some i=>L.eraseIdx i
 | none=>L
structure MM.wf (L:MM K V)(c:Nat):Prop where
 keys:(MM.keys L).Nodup
 times:(L.map (·.1)).Nodup
 old:∀ x,x∈L→x.1<c
theorem MM.iP {L:MM K V}{a:K}:MM.idx L a=none↔MM.get L a=none:=by
 unfold MM.idx MM.get
 induction L with
 | nil=>simp
 | cons x L ih=>
  simp only [List.findIdx?_cons,List.find?_cons]
  by_cases h:a=x.2.1
  ·simp [h]
  ·simp only [h,decide_false,Bool.false_eq_true,if_false,Option.map_eq_none_iff] at ih ⊢
   exact ih
theorem MM.dH {L:MM K V}{a:K}:(MM.idx L a).isSome=MM.has L a:=by
 unfold MM.has
 rw [Bool.eq_iff_iff,Option.isSome_iff_ne_none,Option.isSome_iff_ne_none,ne_eq,ne_eq,MM.iP]
theorem MM.vc:∀ {L:MM K V} {a:K} {i:Nat},MM.idx L a=some i→∃ x,L[i]? =some x∧x.2.1=a∧MM.get L a=some x.2.2
 | [],a,i,h=>by simp [MM.idx] at h
 | x ::L,a,i,h=>by
  unfold MM.idx at h
  unfold MM.get
  simp only [List.findIdx?_cons,List.find?_cons] at h ⊢
  by_cases e:a=x.2.1
  ·simp only [e,decide_true,if_true] at h ⊢
   injection h with h;subst h
   exact ⟨x,rfl,rfl,rfl⟩
  ·simp only [e,decide_false,Bool.false_eq_true,if_false,Option.map_eq_some_iff] at h ⊢
   obtain ⟨j,hj,rfl⟩:=h
   obtain ⟨y,h1,h2,h3⟩:=MM.vc (L:=L) (a:=a) (i:=j) hj
   exact ⟨y,by simpa using h1,h2,by simpa [MM.get] using h3⟩
theorem MM.get_mem:∀ {L:MM K V} {a:K} {v:V},MM.get L a=some v→∃ t,(t,a,v)∈L
 | [],a,v,h=>by simp [MM.get] at h
 | x ::L,a,v,h=>by
  unfold MM.get at h
  simp only [List.find?_cons] at h
  by_cases e:a=x.2.1
  ·simp only [e,decide_true,Option.map_some,Option.some.injEq] at h
   refine ⟨x.1,?_⟩
   subst h
   rw [e];simp
  ·simp only [e,decide_false] at h
   obtain ⟨t,ht⟩:=MM.get_mem (L:=L) (a:=a) (v:=v) h
   exact ⟨t,by simp [ht]⟩
theorem MM.jQ {L:MM K V}{a:K}:MM.has L a=true↔a∈MM.keys L:=by
 unfold MM.has MM.get MM.keys
 induction L with
 | nil=>simp
 | cons x L ih=>
  simp only [List.find?_cons,List.map_cons,List.mem_cons]
  by_cases e:a=x.2.1
  ·simp [e]
  ·simp only [e,decide_false,false_or];exact ih
theorem MM.get_of_mem:∀ {L:MM K V} (h:(MM.keys L).Nodup) {t:Nat} {a:K} {v:V},(t,a,v)∈L→MM.get L a=some v
 | [],_,t,a,v,h=>by cases h
 | x ::L,hn,t,a,v,h=>by
  unfold MM.get
  simp only [MM.keys,List.map_cons,List.nodup_cons] at hn
  simp only [List.find?_cons]
  rcases List.mem_cons.1 h with rfl | h
  ·simp
  ·have:a≠x.2.1:=fun e=>hn.1 (by rw [← e];exact List.mem_map.2 ⟨_,h,rfl⟩)
   simp only [this,decide_false]
   exact MM.get_of_mem (L:=L) hn.2 h
theorem MM.rX {L:MM K V}{c:Nat}{a:K}{v:V}:MM.keys (MM.put L c a v)=if MM.has L a then MM.keys L else MM.keys L++[a]:=by
 unfold MM.put
 rw [← MM.dH]
 split
 ·rename_i i h
  rw [h]
  simp only [Option.isSome_some,if_true,MM.keys]
  apply List.ext_getElem?
  intro j
  simp only [List.getElem?_map,List.getElem?_modify]
  cases L[j]? with
  | none=>simp
  | some x=>by_cases e:i=j <;> simp [e]
 ·rename_i h
  rw [h];simp [MM.keys]
theorem MM.ug {L:MM K V}{c:Nat}{a:K}{v:V}:(MM.put L c a v).map (·.1)=if MM.has L a then L.map (·.1) else L.map (·.1)++[c]:=by
 unfold MM.put
 rw [← MM.dH]
 split
 ·rename_i i h
  rw [h]
  simp only [Option.isSome_some,if_true]
  apply List.ext_getElem?
  intro j
  simp only [List.getElem?_map,List.getElem?_modify]
  cases L[j]? with
  | none=>simp
  | some x=>by_cases e:i=j <;> simp [e]
 ·rename_i h
  rw [h];simp
theorem MM.zB {L:MM K V}{c:Nat}{a b:K}{v:V}:MM.has (MM.put L c a v) b=(decide (b=a) || MM.has L b):=by
 rw [Bool.eq_iff_iff,MM.jQ,MM.rX]
 split
 ·rename_i h
  simp only [Bool.or_eq_true,decide_eq_true_eq,MM.jQ]
  refine ⟨.inr,fun h'=> ?_⟩
  rcases h' with rfl | h'
  ·exact MM.jQ.1 h
  ·exact h'
 ·simp only [List.mem_append,List.mem_singleton,Bool.or_eq_true,decide_eq_true_eq,MM.jQ]
  exact Or.comm
theorem MM.jR {L:MM K V}{c:Nat}{a b:K}{v:V}:MM.get (MM.put L c a v) b=if b=a then some v else MM.get L b:=by
 unfold MM.put
 split
 ·rename_i i h
  revert i h
  induction L with
  | nil=>intro i h;simp [MM.idx] at h
  | cons x L ih=>
   intro i h
   unfold MM.idx at h
   simp only [List.findIdx?_cons] at h
   by_cases e:a=x.2.1
   ·simp only [e,decide_true,if_true] at h
    injection h with h;subst h
    simp only [MM.get,List.modify_zero_cons,List.find?_cons]
    by_cases eb:b=x.2.1
    ·simp [eb,e]
    ·simp [eb,e]
   ·simp only [e,decide_false,Bool.false_eq_true,if_false,Option.map_eq_some_iff] at h
    obtain ⟨j,hj,rfl⟩:=h
    have:=ih j hj
    simp only [MM.get,List.modify_succ_cons,List.find?_cons] at this ⊢
    by_cases eb:b=x.2.1
    ·simp only [eb,decide_true]
     rw [if_neg (fun h=>e h.symm)]
    ·simp only [eb,decide_false]
     exact this
 ·rename_i h
  have hn:=MM.iP.1 h
  unfold MM.get at hn ⊢
  rw [List.find?_append]
  by_cases eb:b=a
  ·subst eb
   have:List.find? (fun x=>decide (b=x.2.1)) L=none:=by simpa using hn
   rw [this];simp
  ·simp only [List.find?_cons,eb,decide_false,List.find?_nil,Option.or_none,if_false]
theorem MM.pV {L:MM K V}{c:Nat}(h:MM.wf L c)(a:K)(v:V):MM.wf (MM.put L c a v) (MM.nO L c a):=by
 refine ⟨?_,?_,fun x hx=> ?_⟩
 ·rw [MM.rX]
  split
  ·exact h.keys
  ·rename_i hh
   rw [List.nodup_append]
   refine ⟨h.keys,by simp,fun x hx y hy=> ?_⟩
   simp only [List.mem_singleton] at hy
   subst hy
   intro e
   subst e
   exact hh (MM.jQ.2 hx)
 ·rw [MM.ug]
  split
  ·exact h.times
  ·rw [List.nodup_append]
   refine ⟨h.times,by simp,fun x hx y hy=> ?_⟩
   simp only [List.mem_singleton] at hy
   obtain ⟨z,hz,rfl⟩:=List.mem_map.1 hx
   have:=h.old z hz
   omega
 ·have hm:x.1∈(MM.put L c a v).map (·.1):=List.mem_map.2 ⟨x,hx,rfl⟩
  rw [MM.ug] at hm
  unfold MM.nO
  split at hm
  ·rename_i hh
   obtain ⟨z,hz,e⟩:=List.mem_map.1 hm
   rw [if_pos hh,← e]
   exact h.old z hz
  ·rename_i hh
   rw [if_neg hh]
   rcases List.mem_append.1 hm with hm | hm
   ·obtain ⟨z,hz,e⟩:=List.mem_map.1 hm
    have:=h.old z hz
    omega
   ·simp only [List.mem_singleton] at hm
    omega
theorem MM.rY:MM.wf ([]:MM K V) 0:=⟨by simp [MM.keys],by simp,by simp⟩
theorem MM.pW {L:MM K V}(h:(L.map (·.1)).Nodup){x:Nat×K×V}(hx:x∈L):L.find? (fun y=>y.1 == x.1)=some x:=by
 induction L with
 | nil=>cases hx
 | cons y L ih=>
  simp only [List.map_cons,List.nodup_cons] at h
  simp only [List.find?_cons]
  rcases List.mem_cons.1 hx with rfl | hx
  ·simp
  ·have:y.1≠x.1:=fun e=>h.1 (by rw [e];exact List.mem_map.2 ⟨x,hx,rfl⟩)
   rw [show (y.1 == x.1)=false by simpa using this]
   exact ih h.2 hx
theorem uh {α β:Type}(f:α→β):∀ (l:List α) (i:Nat),(l.map f).eraseIdx i=(l.eraseIdx i).map f
 | [],i=>by simp
 | x::l,0=>by simp
 | x::l,i+1=>by simp [uh f l i]
theorem MM.B1 {L:MM K V}(h:(L.map (·.1)).Nodup){x y:Nat×K×V}(hx:x∈L)(hy:y∈L)(e:x.1=y.1):x=y:=by
 have h1:=MM.pW h hx
 have h2:=MM.pW h hy
 rw [e,h2] at h1
 exact (Option.some.inj h1).symm
def aH (kc:K→List SV)(vs:V→SV)(L:MM K V):List (Nat×SV×SV):=L.map fun x=>(x.1,SV.agg (kc x.2.1),vs x.2.2)
variable {kc:K→List SV} {vs:V→SV}
theorem pX {ks:List Bool}(heq:∀ a b,iu ks (kc a) (kc b)=some (decide (a=b)))(a:K):∀ (L:MM K V) (i:Nat),gL ks true (.agg (kc a)) (aH kc vs L) i=some ((MM.idx L a).map (· +i))
 | [],i=>by simp [aH,gL,MM.idx]
 | x ::L,i=>by
  have ih:=pX heq a L (i+1)
  have hk:gJ ks true (.agg (kc x.2.1))=true:=by simp [gJ,jj,SV.cells,heq]
  unfold aH at ih ⊢
  simp only [List.map_cons,gL,hk,if_true,SV.cells,heq]
  unfold MM.idx at ih ⊢
  simp only [List.findIdx?_cons]
  by_cases e:a=x.2.1
  ·simp [e]
  ·simp only [e,decide_false,Bool.false_eq_true,if_false]
   rw [ih]
   cases List.findIdx? (fun x=>decide (a=x.2.1)) L with
   | none=>rfl
   | some j=>simp;omega
theorem je (d:Dt)(vs:V→SV)(L:MM Dt V):gL [true,true] true (.agg d.cells) (aH Dt.cells vs L) 0=some (MM.idx L d):=by
 rw [pX Dt.nE d L 0];cases MM.idx L d <;> rfl
theorem kX (d:aS)(vs:V→SV)(L:MM aS V):gL [true,true,true,true,true,true,true,true] true (.agg d.cells) (aH aS.cells vs L) 0=some (MM.idx L d):=by
 rw [pX aS.wI d L 0];cases MM.idx L d <;> rfl
theorem mP (z:V)(L:MM K V)(a:K):lP (aH kc vs L) (vs z) (MM.idx L a)=vs ((MM.get L a).getD z):=by
 cases h:MM.idx L a with
 | none=>rw [MM.iP.1 h];rfl
 | some i=>
  obtain ⟨x,h1,h2,h3⟩:=MM.vc h
  rw [h3]
  simp [lP,aH,h1]
def iv (n:Int):SV:= .d (.int .i64 n)
theorem gX (L:MM K Int)(a:K):lP (aH kc iv L) (.d (.int .i64 0)) (MM.idx L a)= .d (.int .i64 ((MM.get L a).getD 0)):=mP (vs:=iv) 0 L a
theorem uj (L:MM K V)(c:Nat)(a:K)(v:V):qy (aH kc vs L) c (.agg (kc a)) (vs v) (MM.idx L a)= .map (aH kc vs (MM.put L c a v)) (MM.nO L c a):=by
 unfold MM.put MM.nO
 rw [← MM.dH]
 cases h:MM.idx L a with
 | none=>simp [qy,aH]
 | some i=>
  simp only [qy,Option.isSome_some,if_true,Ob.map.injEq,and_true,aH]
  apply List.ext_getElem?
  intro j
  simp only [List.getElem?_map,List.getElem?_modify]
  cases L[j]? with
  | none=>simp
  | some x=>by_cases e:i=j <;> simp [e]
theorem iQ (L:MM K Int)(c:Nat)(a:K)(n:Int):qy (aH kc iv L) c (.agg (kc a)) (.d (.int .i64 n)) (MM.idx L a)= .map (aH kc iv (MM.put L c a n)) (MM.nO L c a):=uj (vs:=iv) L c a n
def MM.vV (L:MM K V)(c:Nat)(a:K)(z:V):MM K V:=match MM.idx L a with
 | some _=>L
 | none=>L++[(c,a,z)]
def MM.IA (L:MM K V)(c:Nat)(a:K):Nat:=match MM.idx L a with
 | some i=>((L[i]?).map (·.1)).getD 0
 | none=>c
def MM.pos (L:MM K V)(a:K):Nat:=(MM.idx L a).getD L.length
theorem nP (L:MM K V)(c:Nat)(a:K):zo (aH kc vs L) c (MM.idx L a)=MM.IA L c a:=by
 unfold MM.IA
 cases h:MM.idx L a with
 | none=>rfl
 | some i=>
  simp only [zo,aH,List.getElem?_map]
  cases L[i]? <;> rfl
theorem ve (L:MM K V)(c:Nat)(a:K)(z:V):qz (aH kc vs L) c (.agg (kc a)) (vs z) (MM.idx L a)= .map (aH kc vs (MM.vV L c a z)) (MM.nO L c a):=by
 unfold MM.vV MM.nO
 rw [← MM.dH]
 cases h:MM.idx L a with
 | none=>simp [qz,aH]
 | some i=>simp [qz]
theorem qV {L:MM K V}{c:Nat}(hw:MM.wf L c)(a:K)(z:V):(aH kc vs (MM.vV L c a z)).findIdx? (fun e=>(e.1:Int) == ((MM.IA L c a:Nat):Int))=some (MM.pos L a):=by
 unfold MM.vV MM.IA MM.pos
 have key:∀ (l:MM K V) (i:Nat) (x:Nat×K×V),(l.map (·.1)).Nodup→l[i]? =some x→(aH kc vs l).findIdx? (fun e=>(e.1:Int) == ((x.1:Nat):Int))=some i:=by
  intro l
  induction l with
  | nil=>intro i x _ h;simp at h
  | cons y l ih=>
   intro i x hn h
   rw [List.map_cons,List.nodup_cons] at hn
   simp only [aH,List.map_cons,List.findIdx?_cons]
   cases i with
   | zero=>simp at h;subst h;simp
   | succ i=>
    simp at h
    have hne:((y.1:Int) == (x.1:Int))=false:=by
     have:y.1≠x.1:=fun e=>hn.1 (by rw [e];exact List.mem_map.2 ⟨x,List.mem_of_getElem? h,rfl⟩)
     simpa using fun h:(y.1:Int)=x.1=>this (by omega)
    rw [hne]
    have:=ih i x hn.2 h
    simp only [aH] at this
    simp [this]
 cases h:MM.idx L a with
 | none=>
  refine key (L++[(c,a,z)]) L.length (c,a,z) ?_ (by simp)
  rw [List.map_append,List.nodup_append]
  refine ⟨hw.times,by simp,fun x hx y hy e=> ?_⟩
  simp at hy
  obtain ⟨q,hq,rfl⟩:=List.mem_map.1 hx
  have:=hw.old q hq
  omega
 | some i=>
  obtain ⟨x,h1,_⟩:=MM.vc h
  simp only [h1,Option.map_some,Option.getD_some]
  exact key L i x hw.times h1
theorem mQ (L:MM K V)(c:Nat)(a:K)(z v:V):(aH kc vs (MM.vV L c a z)).modify (MM.pos L a) (fun e=>(e.1,e.2.1,vs v))=aH kc vs (MM.put L c a v):=by
 unfold MM.vV MM.pos MM.put
 have key:∀ (l:MM K V) (i:Nat),(aH kc vs l).modify i (fun e=>(e.1,e.2.1,vs v))=aH kc vs (l.modify i fun x=>(x.1,x.2.1,v)):=fun l i=>by
  unfold aH
  apply List.ext_getElem?
  intro j
  simp only [List.getElem?_map,List.getElem?_modify]
  cases l[j]? with
  | none=>simp
  | some x=>by_cases e:i=j <;> simp [e]
 cases h:MM.idx L a with
 | none=>
  simp only [Option.getD_none]
  rw [key]
  congr 1
  apply List.ext_getElem?
  intro j
  simp only [List.getElem?_modify,List.getElem?_append]
  by_cases h1:j<L.length
  ·simp [h1,show ¬ L.length=j by omega]
  ·simp only [h1,if_false]
   by_cases h2:L.length=j
   ·subst h2;simp
   ·simp [show ¬ j - L.length=0 by omega,show j - L.length≠0 by omega]
 | some i=>exact key L i
theorem iz (L:MM K V)(c:Nat)(a:K):v7 (aH kc vs L) c (MM.idx L a)= .map (aH kc vs (MM.del L a)) c:=by
 unfold MM.del
 cases h:MM.idx L a with
 | none=>rfl
 | some i=>simp only [v7,aH,uh]
theorem jt (L:MM K V):(aH kc vs L).length=L.length:=by simp [aH]
theorem wJ {L:MM K V}{e:Nat×SV×SV}(h:e∈aH kc vs L):∃ x,x∈L∧e=(x.1,SV.agg (kc x.2.1),vs x.2.2):=by
 obtain ⟨x,hx,rfl⟩:=List.mem_map.1 h
 exact ⟨x,hx,rfl⟩
theorem Ao {L:MM K V}(h:(L.map (·.1)).Nodup){x:Nat×K×V}(hx:x∈L):(aH kc vs L).find? (fun e=>e.1 == x.1)=some (x.1,SV.agg (kc x.2.1),vs x.2.2):=by
 unfold aH
 rw [List.find?_map]
 have:=MM.pW h hx
 simp only [Function.comp_def,this,Option.map_some]
theorem jv (ρ:Nat→Nat)(L:MM K V)(hk:∀ a,SV.bh ρ (kc a)=kc a)(hv:∀ v,(vs v).aV ρ=vs v):(aH kc vs L).map (fun e=>(e.1,e.2.1.aV ρ,e.2.2.aV ρ))=aH kc vs L:=by
 unfold aH
 rw [List.map_map]
 refine List.map_congr_left fun x _=> ?_
 simp [SV.aV,hk,hv]
theorem jS (q:Nat→Bool)(L:MM K V)(hk:∀ a,SV.aI q (kc a)=true)(hv:∀ v,(vs v).ok q=true):((aH kc vs L).all fun e=>e.2.1.ok q && e.2.2.ok q)=true:=by
 unfold aH
 simp [SV.ok,hk,hv]
end
theorem B3 (ρ:Nat→Nat)(n:Int):(iv n).aV ρ=iv n:=rfl
theorem Fq (q:Nat→Bool)(n:Int):(iv n).ok q=true:=rfl
abbrev Ap:=MM Dt Int
theorem oP (ρ:Nat→Nat)(L:Ap):(aH Dt.cells iv L).map (fun e=>(e.1,e.2.1.aV ρ,e.2.2.aV ρ))=aH Dt.cells iv L:=jv ρ L (fun a=>Dt.aD a ρ) (B3 ρ)
theorem jT (q:Nat→Bool)(L:Ap):((aH Dt.cells iv L).all fun e=>e.2.1.ok q && e.2.2.ok q)=true:=jS q L (fun a=>Dt.aj a q) (Fq q)
theorem rZ (ρ:Nat→Nat)(L:MM aS Int):(aH aS.cells iv L).map (fun e=>(e.1,e.2.1.aV ρ,e.2.2.aV ρ))=aH aS.cells iv L:=jv ρ L (fun a=>aS.aD a ρ) (B3 ρ)
theorem vf (q:Nat→Bool)(L:MM aS Int):((aH aS.cells iv L).all fun e=>e.2.1.ok q && e.2.2.ok q)=true:=jS q L (fun a=>aS.aj a q) (Fq q)
end Go.Sl
namespace Go.Sl
open Go.RowKit
structure aq where
 dot:Dt
 dep:aS
 time:Nat
 who:Nat
 dU:Dt
 kind:Nat
 aQ:Dt
 to:Nat
 bn:Nat
 depth:Nat
 cap:Nat
 at_:Dt
 iU:Dt
 item:Nat
 kn:Nat
 cu:Nat
 lines:DV
def aq.ds (o:aq):List DV:=
 .int .u8 o.dot.r:: .int .u32 o.dot.n::(o.dep.ds++(.int .u64 o.time:: .int .u32 o.who:: .int .u8 o.dU.r:: .int .u32 o.dU.n:: .int .u8 o.kind:: .int .u8 o.aQ.r:: .int .u32 o.aQ.n:: .int .u32 o.to:: .int .u8 o.bn:: .int .u8 o.depth:: .int .u64 o.cap::
  .int .u8 o.at_.r:: .int .u32 o.at_.n:: .int .u8 o.iU.r:: .int .u32 o.iU.n:: .int .u32 o.item:: .int .u32 o.kn:: .int .u32 o.cu::[o.lines]))
def aq.cells (o:aq):List SV:=o.ds.map .d
theorem aq.jm (o:aq):o.ds.map .d=o.cells:=rfl
@[simp] theorem aq.l8 (o:aq):o.ds.length=29:=rfl
@[simp] theorem aq.ji (o:aq):o.cells.length=29:=rfl
@[simp] theorem aq.aj (o:aq) (q:Nat→Bool):SV.aI q o.cells=true:=SV.bt _
@[simp] theorem aq.aD (o:aq) (ρ:Nat→Nat):SV.bh ρ o.cells=o.cells:=SV.fI _
theorem aq.cells_one (o:aq):o.cells.all SV.cL=true:=by simp [aq.cells,SV.cL]
@[simp] theorem aq.aP (o:aq):o.cells.take 29=o.cells:=rfl
theorem aq.dO (o:aq):o.cells.take 2=o.dot.cells:=rfl
theorem aq.yq (o:aq):(o.cells.drop 2).take 8=o.dep.cells:=rfl
theorem aq.r7 (o:aq):o.cells[10]? =some (u64 o.time):=rfl
theorem aq.nQ (o:aq):o.cells[11]? =some (u32 o.who):=rfl
theorem aq.jw (o:aq):(o.cells.drop 12).take 2=o.dU.cells:=rfl
theorem aq.r_ (o:aq):o.cells[14]? =some (u8 o.kind):=rfl
theorem aq.gP (o:aq):(o.cells.drop 15).take 2=o.aQ.cells:=rfl
theorem aq.Gk (o:aq):o.cells[17]? =some (u32 o.to):=rfl
theorem aq.gB (o:aq):o.cells[18]? =some (u8 o.bn):=rfl
theorem aq.gC (o:aq):o.cells[19]? =some (u8 o.depth):=rfl
theorem aq.nR (o:aq):o.cells[20]? =some (u64 o.cap):=rfl
theorem aq.Gl (o:aq):(o.cells.drop 21).take 2=o.at_.cells:=rfl
theorem aq.nS (o:aq):(o.cells.drop 23).take 2=o.iU.cells:=rfl
theorem aq.jx (o:aq):o.cells[25]? =some (u32 o.item):=rfl
theorem aq.m_ (o:aq):o.cells[26]? =some (u32 o.kn):=rfl
theorem aq.gh (o:aq):o.cells[27]? =some (u32 o.cu):=rfl
theorem aq.jY (o:aq):o.cells[28]? =some (.d o.lines):=rfl
theorem aq.sg (o:aq):o.cells[0]? =some (u8 o.dot.r):=rfl
theorem aq.sk (o:aq):o.cells[1]? =some (u32 o.dot.n):=rfl
theorem aq.aW (c o:aq):bE c.cells 0 o.cells=o.cells:=rfl
def aq.before (a b:aq):Bool:=b.dep.iy a.dot
abbrev Jh:List SV:=[.d (.int .u8 0),.d (.int .u32 0),.d (.int .u32 0),.d (.int .u32 0),.d (.int .u32 0),.d (.int .u32 0),.d (.int .u32 0),.d (.int .u32 0),.d (.int .u32 0),.d (.int .u32 0),.d (.int .u64 0),.d (.int .u32 0),.d (.int .u8 0),.d (.int .u32 0),.d (.int .u8 0),
 .d (.int .u8 0),.d (.int .u32 0),.d (.int .u32 0),.d (.int .u8 0),.d (.int .u8 0),.d (.int .u64 0),.d (.int .u8 0),.d (.int .u32 0),.d (.int .u8 0),.d (.int .u32 0),.d (.int .u32 0),.d (.int .u32 0),.d (.int .u32 0),.d .ay]
def aq.zero:aq:=⟨⟨0,0⟩,aS.zero,0,0,⟨0,0⟩,0,⟨0,0⟩,0,0,0,0,⟨0,0⟩,⟨0,0⟩,0,0,0,.ay⟩
theorem aq.aJ:([.d (.int .u8 0),.d (.int .u32 0),.d (.int .u32 0),.d (.int .u32 0),.d (.int .u32 0),.d (.int .u32 0),.d (.int .u32 0),.d (.int .u32 0),.d (.int .u32 0),.d (.int .u32 0),.d (.int .u64 0),.d (.int .u32 0),.d (.int .u8 0),.d (.int .u32 0),.d (.int .u8 0),
 .d (.int .u8 0),.d (.int .u32 0),.d (.int .u32 0),.d (.int .u8 0),.d (.int .u8 0),.d (.int .u64 0),.d (.int .u8 0),.d (.int .u32 0),.d (.int .u8 0),.d (.int .u32 0),.d (.int .u32 0),.d (.int .u32 0),.d (.int .u32 0),.d .ay]:List SV)=aq.zero.cells:=rfl
abbrev ops (l:List aq):SV:= .d (.sl l.length (l.flatMap aq.ds))
abbrev iF (l:List aq):List SV:=List.map SV.d (l.flatMap aq.ds)
@[simp] theorem kY (l:List aq):(l.flatMap aq.ds).length=l.length*29:=ct aq.ds 29 (fun _=>rfl) l
theorem wK {l:List aq}{i:Nat}{x:aq}(h:l[i]? =some x):List.take 29 (List.drop (i*29) (List.map SV.d (l.flatMap aq.ds)))=x.cells:=by
 rw [← List.map_drop,← List.map_take,iw aq.ds 29 (fun _=>rfl) l i x h]
 rfl
theorem Gm {l:List aq}{i:Nat}{x:aq}(h:l[i]? =some x){j:Nat}(hj:j<29):(List.map SV.d (l.flatMap aq.ds))[i*29+j]? =x.cells[j]? :=by
 rw [List.getElem?_map,kg aq.ds 29 (fun _=>rfl) l i j x h hj,aq.cells,List.getElem?_map]
theorem Eh {l:List aq}{i:Nat}{x:aq}(h:l[i]? =some x){j n:Nat}(hj:j+n≤29):List.take n (List.drop (i*29+j) (List.map SV.d (l.flatMap aq.ds)))=(x.cells.drop j).take n:=by
 rw [← wK h,List.drop_take,List.drop_drop,List.take_take,Nat.min_eq_left (by omega)]
theorem oQ {l:List aq}{i:Nat}{x:aq}(h:l[i]? =some x):(i*29+29≤(List.map SV.d (l.flatMap aq.ds)).length)=True:=eq_true (by
 have:=bq h
 rw [List.length_map,kY]
 omega)
theorem zC {α:Type}(f:α→List DV)(sz:Nat)(hs:0<sz)(hf:∀ x,(f x).length=sz)(l:List α)(i:Nat)(x:α)(h:i<l.length):bE (List.map SV.d (l.flatMap f)) (i*sz) ((f x).map .d)=List.map SV.d ((l.set i x).flatMap f):=by
 have hl:=ct f sz hf l
 have hle:i*sz+sz≤l.length*sz:=by rw [← Nat.succ_mul];exact Nat.mul_le_mul_right sz h
 rw [pM (by rw [List.length_map,List.length_map,hf,hl];exact hle)]
 rw [List.length_map,hf,← List.map_take,← List.map_drop,← List.map_append,← List.map_append]
 congr 1
 induction l generalizing i with
 | nil=>simp at h
 | cons y l ih=>
  cases i with
  | zero=>
   simp [hf,List.drop_append,List.drop_of_length_le (Nat.le_of_eq (hf y))]
  | succ i=>
   have:=ih i (by simpa using h) (ct f sz hf l) (by
    have h2:i<l.length:=by simpa using h
    rw [← Nat.succ_mul];exact Nat.mul_le_mul_right sz h2)
   rw [Nat.succ_mul]
   simp only [List.flatMap_cons,List.set_cons_succ]
   rw [List.take_append,List.drop_append,hf,List.take_of_length_le (by rw [hf];omega),List.drop_of_length_le (by rw [hf];omega)]
   rw [show i*sz+sz - sz=i*sz by omega,show i*sz+sz+sz - sz=i*sz+sz by omega,← this]
   simp
theorem Gn {l:List aq}{i:Nat}(x:aq)(h:i<l.length):bE (List.map SV.d (l.flatMap aq.ds)) (i*29) x.cells=List.map SV.d ((l.set i x).flatMap aq.ds):=zC aq.ds 29 (by omega) (fun _=>rfl) l i x h
structure Cr where
 dot:Dt
 dU:Dt
 par:Dt
 hold:Nat
 bn:Nat
 depth:Nat
 cap:Nat
 level:Int
 deriving DecidableEq
def Cr.ds (o:Cr):List DV:=[.int .u8 o.dot.r,.int .u32 o.dot.n,.int .u8 o.dU.r,.int .u32 o.dU.n,.int .u8 o.par.r,.int .u32 o.par.n,.int .u32 o.hold,.int .u8 o.bn,.int .u8 o.depth,.int .u64 o.cap,.int .i64 o.level]
def Cr.cells (o:Cr):List SV:=o.ds.map .d
@[simp] theorem Cr.l8 (o:Cr):o.ds.length=11:=rfl
@[simp] theorem Cr.ji (o:Cr):o.cells.length=11:=rfl
@[simp] theorem Cr.aj (o:Cr) (q:Nat→Bool):SV.aI q o.cells=true:=SV.bt _
@[simp] theorem Cr.aD (o:Cr) (ρ:Nat→Nat):SV.bh ρ o.cells=o.cells:=SV.fI _
theorem Cr.cells_one (o:Cr):o.cells.all SV.cL=true:=rfl
@[simp] theorem Cr.aP (o:Cr):o.cells.take 11=o.cells:=rfl
theorem Cr.dO (o:Cr):o.cells.take 2=o.dot.cells:=rfl
theorem Cr.jw (o:Cr):(o.cells.drop 2).take 2=o.dU.cells:=rfl
theorem Cr.yt (o:Cr):(o.cells.drop 4).take 2=o.par.cells:=rfl
theorem Cr.sn (o:Cr):o.cells[6]? =some (u32 o.hold):=rfl
theorem Cr.gB (o:Cr):o.cells[7]? =some (u8 o.bn):=rfl
theorem Cr.gC (o:Cr):o.cells[8]? =some (u8 o.depth):=rfl
theorem Cr.nR (o:Cr):o.cells[9]? =some (u64 o.cap):=rfl
theorem Cr.nT (o:Cr):o.cells[10]? =some (i64 o.level):=rfl
theorem Cr.aW (c o:Cr):bE c.cells 0 o.cells=o.cells:=rfl
def Cr.zero:Cr:=⟨⟨0,0⟩,⟨0,0⟩,⟨0,0⟩,0,0,0,0,0⟩
theorem Cr.aJ:([.d (.int .u8 0),.d (.int .u32 0),.d (.int .u8 0),.d (.int .u32 0),.d (.int .u8 0),.d (.int .u32 0),.d (.int .u32 0),.d (.int .u8 0),.d (.int .u8 0),.d (.int .u64 0),.d (.int .i64 0)]:List SV)=Cr.zero.cells:=rfl
theorem Cr.nE (a b:Cr):iu [true,true,true,true,true,true,true,true,true,true,true] a.cells b.cells=some (decide (a=b)):=by
 have h:iu [true,true,true,true,true,true,true,true,true,true,true] a.cells b.cells=some (((a.dot.r:Int) == b.dot.r) && (((a.dot.n:Int) == b.dot.n) && (((a.dU.r:Int) == b.dU.r) && (((a.dU.n:Int) == b.dU.n) && (((a.par.r:Int) == b.par.r) && (((a.par.n:Int) == b.par.n) &&
   (((a.hold:Int) == b.hold) && (((a.bn:Int) == b.bn) && (((a.depth:Int) == b.depth) && (((a.cap:Int) == b.cap) && ((a.level == b.level) && true))))))))))):=by simp [iu,DI,Cr.cells,Cr.ds]
 rw [h]
 congr 1
 obtain ⟨⟨a0,a1⟩,⟨a2,a3⟩,⟨a4,a5⟩,a6,a7,a8,a9,a10⟩:=a
 obtain ⟨⟨b0,b1⟩,⟨b2,b3⟩,⟨b4,b5⟩,b6,b7,b8,b9,b10⟩:=b
 rw [Bool.eq_iff_iff]
 simp
 omega
abbrev dw (l:List Cr):SV:= .d (.sl l.length (l.flatMap Cr.ds))
@[simp] theorem IB (l:List Cr):(l.flatMap Cr.ds).length=l.length*11:=ct Cr.ds 11 (fun _=>rfl) l
def ov (o:aq):SV:= .agg o.cells
def cv (o:Cr):SV:= .agg o.cells
section
variable {K:Type} [DecidableEq K] {kc:K→List SV}
theorem kZ (L:MM K aq)(a:K):lP (aH kc ov L) (.agg aq.zero.cells) (MM.idx L a)= .agg ((MM.get L a).getD aq.zero).cells:=mP (vs:=ov) aq.zero L a
theorem k6 (L:MM K Cr)(a:K):lP (aH kc cv L) (.agg Cr.zero.cells) (MM.idx L a)= .agg ((MM.get L a).getD Cr.zero).cells:=mP (vs:=cv) Cr.zero L a
theorem k7 (L:MM K aq)(c:Nat)(a:K):qz (aH kc ov L) c (.agg (kc a)) (.agg aq.zero.cells) (MM.idx L a)= .map (aH kc ov (MM.vV L c a aq.zero)) (MM.nO L c a):=ve (vs:=ov) L c a aq.zero
theorem k8 (L:MM K Cr)(c:Nat)(a:K):qz (aH kc cv L) c (.agg (kc a)) (.agg Cr.zero.cells) (MM.idx L a)= .map (aH kc cv (MM.vV L c a Cr.zero)) (MM.nO L c a):=ve (vs:=cv) L c a Cr.zero
theorem k9 (L:MM K Int)(c:Nat)(a:K):qz (aH kc iv L) c (.agg (kc a)) (.d (.int .i64 0)) (MM.idx L a)= .map (aH kc iv (MM.vV L c a 0)) (MM.nO L c a):=ve (vs:=iv) L c a 0
theorem k_ (L:MM K aq)(c:Nat)(a:K)(z v:aq):(aH kc ov (MM.vV L c a z)).modify (MM.pos L a) (fun e=>(e.1,e.2.1,.agg v.cells))=aH kc ov (MM.put L c a v):=mQ (vs:=ov) L c a z v
theorem lg (L:MM K Cr)(c:Nat)(a:K)(z v:Cr):(aH kc cv (MM.vV L c a z)).modify (MM.pos L a) (fun e=>(e.1,e.2.1,.agg v.cells))=aH kc cv (MM.put L c a v):=mQ (vs:=cv) L c a z v
theorem lp (L:MM K Int)(c:Nat)(a:K)(z v:Int):(aH kc iv (MM.vV L c a z)).modify (MM.pos L a) (fun e=>(e.1,e.2.1,.d (.int .i64 v)))=aH kc iv (MM.put L c a v):=mQ (vs:=iv) L c a z v
theorem jy (ρ:Nat→Nat)(L:MM Dt aq):(aH Dt.cells ov L).map (fun e=>(e.1,e.2.1.aV ρ,e.2.2.aV ρ))=aH Dt.cells ov L:=jv ρ L (fun a=>Dt.aD a ρ) (fun v=>by simp [ov,SV.aV])
theorem oR (q:Nat→Bool)(L:MM Dt aq):((aH Dt.cells ov L).all fun e=>e.2.1.ok q && e.2.2.ok q)=true:=jS q L (fun a=>Dt.aj a q) (fun v=>by simp [ov,SV.ok])
theorem jA (ρ:Nat→Nat)(L:MM Dt Cr):(aH Dt.cells cv L).map (fun e=>(e.1,e.2.1.aV ρ,e.2.2.aV ρ))=aH Dt.cells cv L:=jv ρ L (fun a=>Dt.aD a ρ) (fun v=>by simp [cv,SV.aV])
theorem oS (q:Nat→Bool)(L:MM Dt Cr):((aH Dt.cells cv L).all fun e=>e.2.1.ok q && e.2.2.ok q)=true:=jS q L (fun a=>Dt.aj a q) (fun v=>by simp [cv,SV.ok])
end
end Go.Sl
namespace Go.Sl
theorem aS.Hi (v:aS){r:Nat}(hr:r<8):(v.set r (v.get r+1)).count=v.count+1:=by
 match r,hr with
 | 0,_=>simp [aS.count,aS.set,aS.of,aS.get];omega
 | 1,_=>simp [aS.count,aS.set,aS.of,aS.get];omega
 | 2,_=>simp [aS.count,aS.set,aS.of,aS.get];omega
 | 3,_=>simp [aS.count,aS.set,aS.of,aS.get];omega
 | 4,_=>simp [aS.count,aS.set,aS.of,aS.get];omega
 | 5,_=>simp [aS.count,aS.set,aS.of,aS.get];omega
 | 6,_=>simp [aS.count,aS.set,aS.of,aS.get];omega
 | 7,_=>simp [aS.count,aS.set,aS.of,aS.get];omega
theorem vg {P:Program}{d:Nat}{t:TypeId}{k:IntKind}{ds:List DV}(ht:P.underlying t=some (.int k))(h:Fit P (d+1) t ds):∃ n,ds=[.int k n]∧(Lit.int k n).wf=true:=by
 rw [Fit,ht] at h
 exact h
theorem wf_u32 {n:Int}(h:(Lit.int .u32 n).wf=true):∃ m:Nat,n=(m:Int)∧m<4294967296:=by
 simp [Lit.wf,IntKind.min,IntKind.max,IntKind.signed,IntKind.bits] at h
 exact ⟨n.toNat,by omega,by omega⟩
theorem wf_u64 {n:Int}(h:(Lit.int .u64 n).wf=true):∃ m:Nat,n=(m:Int)∧m<18446744073709551616:=by
 simp [Lit.wf,IntKind.min,IntKind.max,IntKind.signed,IntKind.bits] at h
 exact ⟨n.toNat,by omega,by omega⟩
theorem wf_u8 {n:Int}(h:(Lit.int .u8 n).wf=true):∃ m:Nat,n=(m:Int)∧m<256:=by
 simp [Lit.wf,IntKind.min,IntKind.max,IntKind.signed,IntKind.bits] at h
 exact ⟨n.toNat,by omega,by omega⟩
theorem gY {P:Program}{d:Nat}{t:TypeId}{ds:List DV}(ht:P.underlying t=some (.int .u32))(h:Fit P (d+1) t ds):∃ m:Nat,m<4294967296∧ds=[.int .u32 m]:=by
 obtain ⟨n,rfl,hw⟩:=vg ht h
 obtain ⟨m,rfl,hm⟩:=wf_u32 hw
 exact ⟨m,hm,rfl⟩
theorem vh {P:Program}{d:Nat}{t:TypeId}{ds:List DV}(ht:P.underlying t=some (.int .u64))(h:Fit P (d+1) t ds):∃ m:Nat,m<18446744073709551616∧ds=[.int .u64 m]:=by
 obtain ⟨n,rfl,hw⟩:=vg ht h
 obtain ⟨m,rfl,hm⟩:=wf_u64 hw
 exact ⟨m,hm,rfl⟩
theorem sq {P:Program}{d:Nat}{t:TypeId}{ds:List DV}(ht:P.underlying t=some (.int .u8))(h:Fit P (d+1) t ds):∃ m:Nat,m<256∧ds=[.int .u8 m]:=by
 obtain ⟨n,rfl,hw⟩:=vg ht h
 obtain ⟨m,rfl,hm⟩:=wf_u8 hw
 exact ⟨m,hm,rfl⟩
theorem yu {ds:List DV}{o:Nat}{x:DV}(h:(ds.drop o).take 1=[x]):ds[o]? =some x:=by
 have:=congrArg (·[0]?) h
 simpa [List.getElem?_take] using this
theorem Ei {P:Program}{d:Nat}{t e:TypeId}{ds:List DV}(ht:P.underlying t=some (.array 8 e))(he:P.underlying e=some (.int .u32))(hc:P.cellsOf t=8)(hce:P.cellsOf e=1)(h:Fit P (d+2) t ds):∃ v:aS,v.wf∧ds=v.ds:=by
 rw [Fit,ht] at h
 dsimp only at h
 obtain ⟨hl,hi⟩:=h
 rw [hc] at hl
 rw [hce] at hi
 have key:∀ i,i<8→∃ m:Nat,m<4294967296∧ds[i]? =some (.int .u32 m):=fun i hlt=>by
  obtain ⟨m,hm,e1⟩:=gY (d:=d) he (hi i hlt)
  exact ⟨m,hm,yu (by simpa using e1)⟩
 obtain ⟨m0,h0,e0⟩:=key 0 (by omega)
 obtain ⟨m1,h1,e1⟩:=key 1 (by omega)
 obtain ⟨m2,h2,e2⟩:=key 2 (by omega)
 obtain ⟨m3,h3,e3⟩:=key 3 (by omega)
 obtain ⟨m4,h4,e4⟩:=key 4 (by omega)
 obtain ⟨m5,h5,e5⟩:=key 5 (by omega)
 obtain ⟨m6,h6,e6⟩:=key 6 (by omega)
 obtain ⟨m7,h7,e7⟩:=key 7 (by omega)
 refine ⟨⟨m0,m1,m2,m3,m4,m5,m6,m7⟩,fun r hr=> ?_,List.ext_getElem? fun i=> ?_⟩
 ·match r,hr with
  | 0,_=>exact h0
  | 1,_=>exact h1
  | 2,_=>exact h2
  | 3,_=>exact h3
  | 4,_=>exact h4
  | 5,_=>exact h5
  | 6,_=>exact h6
  | 7,_=>exact h7
 ·match i with
  | 0=>rw [e0];rfl
  | 1=>rw [e1];rfl
  | 2=>rw [e2];rfl
  | 3=>rw [e3];rfl
  | 4=>rw [e4];rfl
  | 5=>rw [e5];rfl
  | 6=>rw [e6];rfl
  | 7=>rw [e7];rfl
  | i+8=>rw [List.getElem?_eq_none (by omega),List.getElem?_eq_none (by simp [aS.ds])]
theorem aX {P:Program}{d:Nat}{t:TypeId}{fs:Array Field}{ds:List DV}(ht:P.underlying t=some (.struct fs))(h:Fit P (d+1) t ds)(i:Nat)(f:Field)(hf:fs[i]? =some f):
  Fit P d f.type ((ds.drop f.offset).take (P.cellsOf f.type)):=by
 rw [Fit,ht] at h
 dsimp only at h
 exact h.2 f (by simpa using Array.mem_of_getElem? hf)
theorem mR {P:Program}{d:Nat}{t:TypeId}{fs:Array Field}{ds:List DV}(ht:P.underlying t=some (.struct fs))(h:Fit P (d+1) t ds):ds.length=P.cellsOf t:=by
 rw [Fit,ht] at h
 dsimp only at h
 exact h.1
theorem Ej {P:Program}{d:Nat}{t:TypeId}{fs:Array Field}{fR fN:Field}{ds:List DV}(ht:P.underlying t=some (.struct fs))(h0:fs[0]? =some fR)(h1:fs[1]? =some fN)(o0:fR.offset=0)(o1:fN.offset=1)
  (t0:P.underlying fR.type=some (.int .u8)) (t1:P.underlying fN.type=some (.int .u32)) (hc:P.cellsOf t=2) (c0:P.cellsOf fR.type=1) (c1:P.cellsOf fN.type=1) (h:Fit P (d+2) t ds):∃ x:Dt,x.wf∧ds=x.ds:=by
 have f0:=aX ht h 0 fR h0
 have f1:=aX ht h 1 fN h1
 have hl:=mR ht h
 rw [hc] at hl
 rw [o0,c0] at f0
 rw [o1,c1] at f1
 obtain ⟨a,ha,ea⟩:=sq t0 f0
 obtain ⟨b,hb,eb⟩:=gY t1 f1
 have ea:=yu ea
 have eb:=yu eb
 refine ⟨⟨a,b⟩,⟨ha,hb⟩,List.ext_getElem? fun i=> ?_⟩
 match i with
 | 0=>rw [ea];rfl
 | 1=>rw [eb];rfl
 | i+2=>rw [List.getElem?_eq_none (by omega),List.getElem?_eq_none (by simp)]
theorem ko {P:Program}{d:Nat}{t e:TypeId}{ds:List DV}{α:Type}(f:α→List DV)(ok:α→Prop)(ht:P.underlying t=some (.slice e))(hp:∀ ds,Fit P d e ds→∃ x,ok x∧ds=f x)
  (h:Fit P (d+1) t ds):(ds=[.ay])∨∃ l:List α,(∀ x∈l,ok x)∧l.length≤9223372036854775807∧ds=[.sl l.length (l.flatMap f)]:=by
 rw [Fit,ht] at h
 dsimp only at h
 rcases h with h | ⟨n,cs,rfl,hn,hl,hi⟩
 ·exact .inl h
 ·refine .inr ?_
  have key:∀ k,k≤n→∃ l:List α,(∀ x∈l,ok x)∧l.length=k∧cs.take (k*P.cellsOf e)=l.flatMap f:=by
   intro k
   induction k with
   | zero=>intro _;exact ⟨[],by simp,rfl,by simp⟩
   | succ k ih=>
    intro hk
    obtain ⟨l,a1,a2,a3⟩:=ih (by omega)
    obtain ⟨x,b1,b2⟩:=hp _ (hi k hk)
    refine ⟨l++[x],fun y hy=> ?_,by simp [a2],?_⟩
    ·rcases List.mem_append.1 hy with h | h
     ·exact a1 y h
     ·simp at h;subst h;exact b1
    ·rw [Nat.succ_mul,List.take_add,a3,b2];simp
  obtain ⟨l,a1,a2,a3⟩:=key n (Nat.le_refl _)
  rw [List.take_of_length_le (by omega)] at a3
  exact ⟨l,a1,by omega,by rw [a2,a3]⟩
end Go.Sl
namespace Go.Sl
open Go.RowKit
section
structure Cm where
 line:Dt
 iU:Dt
 deriving DecidableEq
def Cm.ds (x:Cm):List DV:=x.line.ds++x.iU.ds
def Cm.wf (x:Cm):Prop:=x.line.wf∧x.iU.wf
@[simp] theorem zD (l:List Cm):(l.flatMap Cm.ds).length=l.length*4:=ct Cm.ds 4 (fun _=>rfl) l
def wL:List DV→List Cm
 | .int _ a:: .int _ b:: .int _ c:: .int _ d::r=>⟨⟨a.toNat,b.toNat⟩,⟨c.toNat,d.toNat⟩⟩::wL r
 | _=>[]
theorem sr:∀ l:List Cm,wL (l.flatMap Cm.ds)=l
 | []=>rfl
 | x::l=>by
  have:=sr l
  show wL (.int .u8 x.line.r:: .int .u32 x.line.n:: .int .u8 x.iU.r:: .int .u32 x.iU.n::l.flatMap Cm.ds)=_
  rw [wL,this]
  rfl
def Fs:DV→List Cm
 | .sl _ cs=>wL cs
 | _=>[]
theorem B4 (n:Nat)(l:List Cm):Fs (.sl n (l.flatMap Cm.ds))=l:=sr l
def aq.cl (o:aq):List Cm:=Fs o.lines
structure aq.qW (o:aq):Prop where
 eq:o.lines= .sl o.cl.length (o.cl.flatMap Cm.ds)
 le:o.cl.length≤9223372036854775807
theorem aq.qW.of {o:aq}{l:List Cm}(h:o.lines= .sl l.length (l.flatMap Cm.ds))(hl:l.length≤9223372036854775807):o.qW∧o.cl=l:=by
 have e:o.cl=l:=by unfold aq.cl;rw [h];exact B4 _ _
 exact ⟨⟨by rw [e];exact h,by rw [e];exact hl⟩,e⟩
def cZ (l:List aq)(d:Dt):Option aq:=l.find? fun o=>decide (o.dot=d)
end
section
def nz:DV→DV
 | .ay=> .sl 0 []
 | x=>x
theorem bH.nz {M:Mem}{v:Value}{x:DV}(h:bH M x v):bH M (Go.Sl.nz x) v:=by
 cases x with
 | ay=>exact h.oN
 | _=>exact h
theorem cq.nz {M:Mem}{b:Nat}:∀ (cs:List DV) (o:Nat),cq M b o cs→cq M b o (cs.map Go.Sl.nz)
 | [],o,h=>by simp [cq]
 | c::cs,o,h=>by
  simp only [cq,List.map_cons] at h ⊢
  obtain ⟨⟨u,h1,h2⟩,h3⟩:=h
  exact ⟨⟨u,h1,h2.nz⟩,cq.nz cs (o+1) h3⟩
theorem bH.Jr {M:Mem}{v:Value}{n:Nat}{cs:List DV}(h:bH M (.sl n cs) v):bH M (.sl n (cs.map Go.Sl.nz)) v:=by
 simp only [bH] at h ⊢
 obtain ⟨A,c,h1,h2,h3,h4⟩:=h
 refine ⟨A,c,h1,h2,fun hn=>by rw [h3 hn];rfl,fun hn=> ?_⟩
 obtain ⟨b,o,h5,h6⟩:=h4 hn
 exact ⟨b,o,h5,cq.nz cs o h6⟩
theorem vi {p:Nat→Prop}{μ:Nat→Nm}{M:Mem}{n:Nat}{cs:List DV}{r r':List SV}(hr:∀ vs,aM p μ M r' vs→aM p μ M r vs)(vs:List Value)(h:aM p μ M (.d (.sl n cs)::r') vs):aM p μ M (.d (.sl n (cs.map Go.Sl.nz))::r) vs:=by
 obtain ⟨u,us,rfl,h1,h2⟩:=aM.aC.1 h
 exact aM.aC.2 ⟨u,us,rfl,Rp.bN.2 (Rp.bN.1 h1).Jr,hr us h2⟩
theorem iR {p:Nat→Prop}{μ:Nat→Nm}{M:Mem}{r r':List SV}(hr:∀ vs,aM p μ M r' vs→aM p μ M r vs)(vs:List Value)(h:aM p μ M (.d .ay::r') vs):aM p μ M (.d (.sl 0 [])::r) vs:=by
 obtain ⟨u,us,rfl,h1,h2⟩:=aM.aC.1 h
 exact aM.aC.2 ⟨u,us,rfl,oN p μ M u h1,hr us h2⟩
theorem kr {p:Nat→Prop}{μ:Nat→Nm}{M:Mem}{x:SV}{r r':List SV}(hr:∀ vs,aM p μ M r' vs→aM p μ M r vs)(vs:List Value)(h:aM p μ M (x::r') vs):aM p μ M (x::r) vs:=by
 obtain ⟨u,us,rfl,h1,h2⟩:=aM.aC.1 h
 exact aM.aC.2 ⟨u,us,rfl,h1,hr us h2⟩
theorem zF {p:Nat→Prop}{μ:Nat→Nm}{M:Mem}:∀ (ds:List DV) (vs:List Value),aM p μ M (ds.map SV.d) vs→aM p μ M ((ds.map Go.Sl.nz).map SV.d) vs
 | [],vs,h=>h
 | d::ds,vs,h=>by
  obtain ⟨u,us,rfl,h1,h2⟩:=aM.aC.1 h
  exact aM.aC.2 ⟨u,us,rfl,Rp.bN.2 (Rp.bN.1 h1).nz,zF ds us h2⟩
theorem vj {p:Nat→Prop}{μ:Nat→Nm}{M:Mem}{ds:List DV}{r r':List SV}(hr:∀ vs,aM p μ M r' vs→aM p μ M r vs)(vs:List Value)(h:aM p μ M (.agg (ds.map SV.d)::r') vs):aM p μ M (.agg ((ds.map Go.Sl.nz).map SV.d)::r) vs:=by
 obtain ⟨u,us,rfl,h1,h2⟩:=aM.aC.1 h
 obtain ⟨ws,e,h3⟩:=Rp.dh.1 h1
 exact aM.aC.2 ⟨_,us,rfl,Rp.dh.2 ⟨ws,e,zF ds _ h3⟩,hr us h2⟩
def aq.nz (o:aq):aq:={ o with lines:=Go.Sl.nz o.lines}
theorem aq.zG (o:aq):o.nz.ds=o.ds.map Go.Sl.nz:=rfl
theorem Gp (l:List aq):((l.map aq.nz).flatMap aq.ds)=(l.flatMap aq.ds).map Go.Sl.nz:=by
 induction l with
 | nil=>rfl
 | cons o l ih=>simp only [List.map_cons,List.flatMap_cons,List.map_append,ih,aq.zG]
theorem gD {ds x:List DV}{a n b:Nat}(h:(ds.drop a).take n=x)(hb:a+n=b):ds.drop a=x++ds.drop b:=by
 rw [← h,← hb,← List.drop_drop,List.take_append_drop]
end
end Go.Sl
