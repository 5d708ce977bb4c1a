/-
 Maps with flat keys, as rows of entries: what they say, what their operations give.
-/
import Derived.Test.YtnakpdoioammhaaGreatDoorU7
set_option linter.unusedVariables false
set_option linter.unusedSimpArgs false
set_option linter.unusedSectionVars false
namespace Go.Sl
theorem iN (es:List (Nat×SV×SV))(c:Nat)(k v:SV):ck es c k v none= .map (es++[(c,k,v)]) (c+1):=rfl
theorem iO (es:List (Nat×SV×SV))(c:Nat)(k v:SV)(i:Nat):ck es c k v (some i)= .map (es.modify i fun e=>(e.1,e.2.1,v)) c:=rfl
theorem iP (es:List (Nat×SV×SV))(c:Nat):cI es c none= .map es c:=rfl
theorem iQ (es:List (Nat×SV×SV))(c i:Nat):cI es c (some i)= .map (es.eraseIdx i) c:=rfl
theorem iR (es:List (Nat×SV×SV))(z:SV):bX es z none=z:=rfl
theorem iS (es:List (Nat×SV×SV))(z:SV)(i:Nat):bX es z (some i)=match es[i]? with
 | some e=>e.2.2
 | none=>z:=rfl
section
variable {K V:Type} [DecidableEq K]
abbrev MM (K V:Type):=List (Nat×K×V)
def MM.idx (L:MM K V)(a:K):Option Nat:=L.findIdx? fun x=>decide (a=x.2.1)
def MM.get (L:MM K V)(a:K):Option V:=(L.find? fun x=>decide (a=x.2.1)).map (·.2.2)
def MM.has (L:MM K V)(a:K):Bool:=(MM.get L a).isSome
def MM.keys (L:MM K V):List K:=L.map (·.2.1)
def MM.put (L:MM K V)(c:Nat)(a:K)(v:V):MM K V:=match MM.idx L a with
 | some i=>L.modify i fun x=>(x.1,x.2.1,v)
 | none=>L++[(c,a,v)]
def MM.qv (L:MM K V)(c:Nat)(a:K):Nat:=if MM.has L a then c else c+1
def MM.del (L:MM K V)(a:K):MM K V:=match MM.idx L a with
 | some i=>L.eraseIdx i
 | none=>L
structure MM.wf (L:MM K V)(c:Nat):Prop where
 keys:(MM.keys L).Nodup
 times:(L.map (·.1)).Nodup
 old:∀ x,x∈L→x.1<c
theorem MM.k7 {L:MM K V}{a:K}:MM.idx L a=none↔MM.get L a=none:=by
 unfold MM.idx MM.get
 induction L with
 | nil=>simp
 | cons x L ih=>
  simp only [List.findIdx?_cons,List.find?_cons]
  by_cases h:a=x.2.1
  ·simp [h]
  ·simp only [h,decide_false,Bool.false_eq_true,if_false,Option.map_eq_none_iff] at ih ⊢
   exact ih
theorem MM.dB {L:MM K V}{a:K}:(MM.idx L a).isSome=MM.has L a:=by
 unfold MM.has
 rw [Bool.eq_iff_iff,Option.isSome_iff_ne_none,Option.isSome_iff_ne_none,ne_eq,ne_eq,MM.k7]
theorem MM.xH:∀ {L:MM K V} {a:K} {i:Nat},MM.idx L a=some i→∃ x,L[i]? =some x∧x.2.1=a∧MM.get L a=some x.2.2
 | [],a,i,h=>by simp [MM.idx] at h
 | x ::L,a,i,h=>by
  unfold MM.idx at h
  unfold MM.get
  simp only [List.findIdx?_cons,List.find?_cons] at h ⊢
  by_cases e:a=x.2.1
  ·simp only [e,decide_true,if_true] at h ⊢
   injection h with h;subst h
   exact ⟨x,rfl,rfl,rfl⟩
  ·simp only [e,decide_false,Bool.false_eq_true,if_false,Option.map_eq_some_iff] at h ⊢
   obtain ⟨j,hj,rfl⟩:=h
   obtain ⟨y,h1,h2,h3⟩:=MM.xH (L:=L) (a:=a) (i:=j) hj
   exact ⟨y,by simpa using h1,h2,by simpa [MM.get] using h3⟩
theorem MM.lS {L:MM K V}{a:K}:MM.has L a=true↔a∈MM.keys L:=by
 unfold MM.has MM.get MM.keys
 induction L with
 | nil=>simp
 | cons x L ih=>
  simp only [List.find?_cons,List.map_cons,List.mem_cons]
  by_cases e:a=x.2.1
  ·simp [e]
  ·simp only [e,decide_false,false_or];exact ih
theorem MM.get_of_mem:∀ {L:MM K V} (h:(MM.keys L).Nodup) {t:Nat} {a:K} {v:V},(t,a,v)∈L→MM.get L a=some v
 | [],_,t,a,v,h=>by cases h
 | x ::L,hn,t,a,v,h=>by
  unfold MM.get
  simp only [MM.keys,List.map_cons,List.nodup_cons] at hn
  simp only [List.find?_cons]
  rcases List.mem_cons.1 h with rfl | h
  ·simp
  ·have:a≠x.2.1:=fun e=>hn.1 (by rw [← e];exact List.mem_map.2 ⟨_,h,rfl⟩)
   simp only [this,decide_false]
   exact MM.get_of_mem (L:=L) hn.2 h
theorem MM.uO {L:MM K V}{c:Nat}{a:K}{v:V}:MM.keys (MM.put L c a v)=if MM.has L a then MM.keys L else MM.keys L++[a]:=by
 unfold MM.put
 rw [← MM.dB]
 split
 ·rename_i i h
  rw [h]
  simp only [Option.isSome_some,if_true,MM.keys]
  apply List.ext_getElem?
  intro j
  simp only [List.getElem?_map,List.getElem?_modify]
  cases L[j]? with
  | none=>simp
  | some x=>by_cases e:i=j <;> simp [e]
 ·rename_i h
  rw [h];simp [MM.keys]
theorem MM.tK {L:MM K V}{c:Nat}{a b:K}{v:V}:MM.get (MM.put L c a v) b=if b=a then some v else MM.get L b:=by
 unfold MM.put
 split
 ·rename_i i h
  revert i h
  induction L with
  | nil=>intro i h;simp [MM.idx] at h
  | cons x L ih=>
   intro i h
   unfold MM.idx at h
   simp only [List.findIdx?_cons] at h
   by_cases e:a=x.2.1
   ·simp only [e,decide_true,if_true] at h
    injection h with h;subst h
    simp only [MM.get,List.modify_zero_cons,List.find?_cons]
    by_cases eb:b=x.2.1
    ·simp [eb,e]
    ·simp [eb,e]
   ·simp only [e,decide_false,Bool.false_eq_true,if_false,Option.map_eq_some_iff] at h
    obtain ⟨j,hj,rfl⟩:=h
    have:=ih j hj
    simp only [MM.get,List.modify_succ_cons,List.find?_cons] at this ⊢
    by_cases eb:b=x.2.1
    ·simp only [eb,decide_true]
     rw [if_neg (fun h=>e h.symm)]
    ·simp only [eb,decide_false]
     exact this
 ·rename_i h
  have hn:=MM.k7.1 h
  unfold MM.get at hn ⊢
  rw [List.find?_append]
  by_cases eb:b=a
  ·subst eb
   have:List.find? (fun x=>decide (b=x.2.1)) L=none:=by simpa using hn
   rw [this];simp
  ·simp only [List.find?_cons,eb,decide_false,List.find?_nil,Option.or_none,if_false]
theorem MM.mM:∀ {L:MM K V} (h:(MM.keys L).Nodup) (a:K),MM.del L a=L.filter fun x=>decide (a≠x.2.1)
 | [],_,a=>rfl
 | x ::L,h,a=>by
  simp only [MM.keys,List.map_cons,List.nodup_cons] at h
  have ih:=MM.mM (L:=L) h.2 a
  unfold MM.del MM.idx at ih ⊢
  simp only [List.findIdx?_cons,List.filter_cons]
  by_cases e:a=x.2.1
  ·subst e
   simp only [decide_true,if_true,List.eraseIdx_zero,List.tail_cons,ne_eq,not_true,decide_false,Bool.false_eq_true,if_false]
   rw [List.filter_eq_self.2]
   intro y hy
   simp only [ne_eq,decide_eq_true_eq]
   intro e
   exact h.1 (by rw [e];exact List.mem_map.2 ⟨y,hy,rfl⟩)
  ·simp only [e,decide_false,Bool.false_eq_true,if_false,ne_eq,not_false_eq_true,decide_true,if_true]
   rw [← ih]
   cases List.findIdx? (fun x=>decide (a=x.2.1)) L <;> simp
theorem MM.oh {L:MM K V}(h:(L.map (·.1)).Nodup){x:Nat×K×V}(hx:x∈L):L.find? (fun y=>y.1 == x.1)=some x:=by
 induction L with
 | nil=>cases hx
 | cons y L ih=>
  simp only [List.map_cons,List.nodup_cons] at h
  simp only [List.find?_cons]
  rcases List.mem_cons.1 hx with rfl | hx
  ·simp
  ·have:y.1≠x.1:=fun e=>h.1 (by rw [e];exact List.mem_map.2 ⟨x,hx,rfl⟩)
   rw [show (y.1 == x.1)=false by simpa using this]
   exact ih h.2 hx
theorem sL {α β:Type}(f:α→β):∀ (l:List α) (i:Nat),(l.map f).eraseIdx i=(l.eraseIdx i).map f
 | [],i=>by simp
 | x::l,0=>by simp
 | x::l,i+1=>by simp [sL f l i]
theorem MM.AG {L:MM K V}(h:(L.map (·.1)).Nodup){x y:Nat×K×V}(hx:x∈L)(hy:y∈L)(e:x.1=y.1):x=y:=by
 have h1:=MM.oh h hx
 have h2:=MM.oh h hy
 rw [e,h2] at h1
 exact (Option.some.inj h1).symm
def aN (kc:K→List SV)(vs:V→SV)(L:MM K V):List (Nat×SV×SV):=L.map fun x=>(x.1,SV.agg (kc x.2.1),vs x.2.2)
variable {kc:K→List SV} {vs:V→SV}
theorem lT {ks:List Bool}(heq:∀ a b,eZ ks (kc a) (kc b)=some (decide (a=b)))(a:K):∀ (L:MM K V) (i:Nat),bM ks true (.agg (kc a)) (aN kc vs L) i=some ((MM.idx L a).map (· +i))
 | [],i=>by simp [aN,bM,MM.idx]
 | x ::L,i=>by
  have ih:=lT heq a L (i+1)
  have hk:bK ks true (.agg (kc x.2.1))=true:=by simp [bK,bD,SV.cells,heq]
  unfold aN at ih ⊢
  simp only [List.map_cons,bM,hk,if_true,SV.cells,heq]
  unfold MM.idx at ih ⊢
  simp only [List.findIdx?_cons]
  by_cases e:a=x.2.1
  ·simp [e]
  ·simp only [e,decide_false,Bool.false_eq_true,if_false]
   rw [ih]
   cases List.findIdx? (fun x=>decide (a=x.2.1)) L with
   | none=>rfl
   | some j=>simp;omega
theorem jq (d:Dt)(vs:V→SV)(L:MM Dt V):bM [true,true] true (.agg d.cells) (aN Dt.cells vs L) 0=some (MM.idx L d):=by
 rw [lT Dt.fV d L 0];cases MM.idx L d <;> rfl
theorem nj (d:ag)(vs:V→SV)(L:MM ag V):bM [true,true,true,true,true,true,true,true] true (.agg d.cells) (aN ag.cells vs L) 0=some (MM.idx L d):=by
 rw [lT ag.dX d L 0];cases MM.idx L d <;> rfl
theorem lU (z:V)(L:MM K V)(a:K):bX (aN kc vs L) (vs z) (MM.idx L a)=vs ((MM.get L a).getD z):=by
 cases h:MM.idx L a with
 | none=>rw [MM.k7.1 h];rfl
 | some i=>
  obtain ⟨x,h1,h2,h3⟩:=MM.xH h
  rw [h3]
  simp [bX,aN,h1]
def iv (n:Int):SV:= .d (.int .i64 n)
theorem gq (L:MM K Int)(a:K):bX (aN kc iv L) (.d (.int .i64 0)) (MM.idx L a)= .d (.int .i64 ((MM.get L a).getD 0)):=lU (vs:=iv) 0 L a
theorem oo (L:MM K V)(c:Nat)(a:K)(v:V):ck (aN kc vs L) c (.agg (kc a)) (vs v) (MM.idx L a)= .map (aN kc vs (MM.put L c a v)) (MM.qv L c a):=by
 unfold MM.put MM.qv
 rw [← MM.dB]
 cases h:MM.idx L a with
 | none=>simp [ck,aN]
 | some i=>
  simp only [ck,Option.isSome_some,if_true,Ob.map.injEq,and_true,aN]
  apply List.ext_getElem?
  intro j
  simp only [List.getElem?_map,List.getElem?_modify]
  cases L[j]? with
  | none=>simp
  | some x=>by_cases e:i=j <;> simp [e]
theorem gY (L:MM K Int)(c:Nat)(a:K)(n:Int):ck (aN kc iv L) c (.agg (kc a)) (.d (.int .i64 n)) (MM.idx L a)= .map (aN kc iv (MM.put L c a n)) (MM.qv L c a):=oo (vs:=iv) L c a n
def MM.zY (L:MM K V)(c:Nat)(a:K)(z:V):MM K V:=match MM.idx L a with
 | some _=>L
 | none=>L++[(c,a,z)]
def MM.Iv (L:MM K V)(c:Nat)(a:K):Nat:=match MM.idx L a with
 | some i=>((L[i]?).map (·.1)).getD 0
 | none=>c
def MM.pos (L:MM K V)(a:K):Nat:=(MM.idx L a).getD L.length
theorem qw (L:MM K V)(c:Nat)(a:K):xy (aN kc vs L) c (MM.idx L a)=MM.Iv L c a:=by
 unfold MM.Iv
 cases h:MM.idx L a with
 | none=>rfl
 | some i=>
  simp only [xy,aN,List.getElem?_map]
  cases L[i]? <;> rfl
theorem tL (L:MM K V)(c:Nat)(a:K)(z:V):oR (aN kc vs L) c (.agg (kc a)) (vs z) (MM.idx L a)= .map (aN kc vs (MM.zY L c a z)) (MM.qv L c a):=by
 unfold MM.zY MM.qv
 rw [← MM.dB]
 cases h:MM.idx L a with
 | none=>simp [oR,aN]
 | some i=>simp [oR]
theorem lV (L:MM K V)(c:Nat)(a:K)(z v:V):(aN kc vs (MM.zY L c a z)).modify (MM.pos L a) (fun e=>(e.1,e.2.1,vs v))=aN kc vs (MM.put L c a v):=by
 unfold MM.zY MM.pos MM.put
 have key:∀ (l:MM K V) (i:Nat),(aN kc vs l).modify i (fun e=>(e.1,e.2.1,vs v))=aN kc vs (l.modify i fun x=>(x.1,x.2.1,v)):=fun l i=>by
  unfold aN
  apply List.ext_getElem?
  intro j
  simp only [List.getElem?_map,List.getElem?_modify]
  cases l[j]? with
  | none=>simp
  | some x=>by_cases e:i=j <;> simp [e]
 cases h:MM.idx L a with
 | none=>
  simp only [Option.getD_none]
  rw [key]
  congr 1
  apply List.ext_getElem?
  intro j
  simp only [List.getElem?_modify,List.getElem?_append]
  by_cases h1:j<L.length
  ·simp [h1,show ¬ L.length=j by omega]
  ·simp only [h1,if_false]
   by_cases h2:L.length=j
   ·subst h2;simp
   ·simp [show ¬ j - L.length=0 by omega,show j - L.length≠0 by omega]
 | some i=>exact key L i
theorem jP (L:MM K V)(c:Nat)(a:K):cI (aN kc vs L) c (MM.idx L a)= .map (aN kc vs (MM.del L a)) c:=by
 unfold MM.del
 cases h:MM.idx L a with
 | none=>rfl
 | some i=>simp only [cI,aN,sL]
theorem k8 (L:MM K V):(aN kc vs L).length=L.length:=by simp [aN]
theorem uP {L:MM K V}{e:Nat×SV×SV}(h:e∈aN kc vs L):∃ x,x∈L∧e=(x.1,SV.agg (kc x.2.1),vs x.2.2):=by
 obtain ⟨x,hx,rfl⟩:=List.mem_map.1 h
 exact ⟨x,hx,rfl⟩
theorem yE {L:MM K V}(h:(L.map (·.1)).Nodup){x:Nat×K×V}(hx:x∈L):(aN kc vs L).find? (fun e=>e.1 == x.1)=some (x.1,SV.agg (kc x.2.1),vs x.2.2):=by
 unfold aN
 rw [List.find?_map]
 have:=MM.oh h hx
 simp only [Function.comp_def,this,Option.map_some]
theorem qx (ρ:Nat→Nat)(L:MM K V)(hk:∀ a,SV.aM ρ (kc a)=kc a)(hv:∀ v,(vs v).aP ρ=vs v):(aN kc vs L).map (fun e=>(e.1,e.2.1.aP ρ,e.2.2.aP ρ))=aN kc vs L:=by
 unfold aN
 rw [List.map_map]
 refine List.map_congr_left fun x _=> ?_
 simp [SV.aP,hk,hv]
theorem jr (q:Nat→Bool)(L:MM K V)(hk:∀ a,SV.aF q (kc a)=true)(hv:∀ v,(vs v).ok q=true):((aN kc vs L).all fun e=>e.2.1.ok q && e.2.2.ok q)=true:=by
 unfold aN
 simp [SV.ok,hk,hv]
end
theorem AH (ρ:Nat→Nat)(n:Int):(iv n).aP ρ=iv n:=rfl
theorem EK (q:Nat→Bool)(n:Int):(iv n).ok q=true:=rfl
abbrev G8:=MM Dt Int
theorem iT (ρ:Nat→Nat)(L:G8):(aN Dt.cells iv L).map (fun e=>(e.1,e.2.1.aP ρ,e.2.2.aP ρ))=aN Dt.cells iv L:=qx ρ L (fun a=>Dt.bN a ρ) (AH ρ)
theorem tM (q:Nat→Bool)(L:G8):((aN Dt.cells iv L).all fun e=>e.2.1.ok q && e.2.2.ok q)=true:=jr q L (fun a=>Dt.an a q) (EK q)
theorem qy (ρ:Nat→Nat)(L:MM ag Int):(aN ag.cells iv L).map (fun e=>(e.1,e.2.1.aP ρ,e.2.2.aP ρ))=aN ag.cells iv L:=qx ρ L (fun a=>ag.bN a ρ) (AH ρ)
theorem tN (q:Nat→Bool)(L:MM ag Int):((aN ag.cells iv L).all fun e=>e.2.1.ok q && e.2.2.ok q)=true:=jr q L (fun a=>ag.an a q) (EK q)
end Go.Sl
namespace Go.Sl
open Go.RowKit
structure ah where
 dot:Dt
 dep:ag
 time:Nat
 who:Nat
 e_:Dt
 kind:Nat
 gZ:Dt
 to:Nat
 dK:Nat
 depth:Nat
 cap:Nat
 at_:Dt
 ij:Dt
 item:Nat
 qz:Nat
 gr:Nat
 lines:DV
def ah.ds (o:ah):List DV:=
 .int .u8 o.dot.r:: .int .u32 o.dot.n::(o.dep.ds++(.int .u64 o.time:: .int .u32 o.who:: .int .u8 o.e_.r:: .int .u32 o.e_.n:: .int .u8 o.kind:: .int .u8 o.gZ.r:: .int .u32 o.gZ.n:: .int .u32 o.to:: .int .u8 o.dK:: .int .u8 o.depth:: .int .u64 o.cap::
  .int .u8 o.at_.r:: .int .u32 o.at_.n:: .int .u8 o.ij.r:: .int .u32 o.ij.n:: .int .u32 o.item:: .int .u32 o.qz:: .int .u32 o.gr::[o.lines]))
def ah.cells (o:ah):List SV:=o.ds.map .d
theorem ah.qp (o:ah):o.ds.map .d=o.cells:=rfl
@[simp] theorem ah.ku (o:ah):o.ds.length=29:=rfl
@[simp] theorem ah.jN (o:ah):o.cells.length=29:=rfl
@[simp] theorem ah.an (o:ah) (q:Nat→Bool):SV.aF q o.cells=true:=SV.cm _
@[simp] theorem ah.bN (o:ah) (ρ:Nat→Nat):SV.aM ρ o.cells=o.cells:=SV.dW _
theorem ah.cells_one (o:ah):o.cells.all SV.aZ=true:=by simp [ah.cells,SV.aZ]
@[simp] theorem ah.aq (o:ah):o.cells.take 29=o.cells:=rfl
theorem ah.gu (o:ah):o.cells.take 2=o.dot.cells:=rfl
theorem ah.qA (o:ah):(o.cells.drop 2).take 8=o.dep.cells:=rfl
theorem ah.uQ (o:ah):o.cells[10]? =some (u64 o.time):=rfl
theorem ah.AI (o:ah):o.cells[11]? =some (u32 o.who):=rfl
theorem ah.k9 (o:ah):(o.cells.drop 12).take 2=o.e_.cells:=rfl
theorem ah.uR (o:ah):o.cells[14]? =some (u8 o.kind):=rfl
theorem ah.uS (o:ah):(o.cells.drop 15).take 2=o.gZ.cells:=rfl
theorem ah.G9 (o:ah):o.cells[17]? =some (u32 o.to):=rfl
theorem ah.iU (o:ah):o.cells[18]? =some (u8 o.dK):=rfl
theorem ah.iV (o:ah):o.cells[19]? =some (u8 o.depth):=rfl
theorem ah.qB (o:ah):o.cells[20]? =some (u64 o.cap):=rfl
theorem ah.G_ (o:ah):(o.cells.drop 21).take 2=o.at_.cells:=rfl
theorem ah.AJ (o:ah):(o.cells.drop 23).take 2=o.ij.cells:=rfl
theorem ah.uT (o:ah):o.cells[25]? =some (u32 o.item):=rfl
theorem ah.AK (o:ah):o.cells[26]? =some (u32 o.qz):=rfl
theorem ah.qC (o:ah):o.cells[27]? =some (u32 o.gr):=rfl
theorem ah.qD (o:ah):o.cells[28]? =some (.d o.lines):=rfl
theorem ah.qE (o:ah):o.cells[0]? =some (u8 o.dot.r):=rfl
theorem ah.sM (o:ah):o.cells[1]? =some (u32 o.dot.n):=rfl
theorem ah.aB (c o:ah):bV c.cells 0 o.cells=o.cells:=rfl
def ah.before (a b:ah):Bool:=b.dep.aV a.dot
abbrev vZ:List SV:=[.d (.int .u8 0),.d (.int .u32 0),.d (.int .u32 0),.d (.int .u32 0),.d (.int .u32 0),.d (.int .u32 0),.d (.int .u32 0),.d (.int .u32 0),.d (.int .u32 0),.d (.int .u32 0),.d (.int .u64 0),.d (.int .u32 0),.d (.int .u8 0),.d (.int .u32 0),.d (.int .u8 0),
 .d (.int .u8 0),.d (.int .u32 0),.d (.int .u32 0),.d (.int .u8 0),.d (.int .u8 0),.d (.int .u64 0),.d (.int .u8 0),.d (.int .u32 0),.d (.int .u8 0),.d (.int .u32 0),.d (.int .u32 0),.d (.int .u32 0),.d (.int .u32 0),.d .aY]
def ah.zero:ah:=⟨⟨0,0⟩,ag.zero,0,0,⟨0,0⟩,0,⟨0,0⟩,0,0,0,0,⟨0,0⟩,⟨0,0⟩,0,0,0,.aY⟩
theorem ah.ak:([.d (.int .u8 0),.d (.int .u32 0),.d (.int .u32 0),.d (.int .u32 0),.d (.int .u32 0),.d (.int .u32 0),.d (.int .u32 0),.d (.int .u32 0),.d (.int .u32 0),.d (.int .u32 0),.d (.int .u64 0),.d (.int .u32 0),.d (.int .u8 0),.d (.int .u32 0),.d (.int .u8 0),
 .d (.int .u8 0),.d (.int .u32 0),.d (.int .u32 0),.d (.int .u8 0),.d (.int .u8 0),.d (.int .u64 0),.d (.int .u8 0),.d (.int .u32 0),.d (.int .u8 0),.d (.int .u32 0),.d (.int .u32 0),.d (.int .u32 0),.d (.int .u32 0),.d .aY]:List SV)=ah.zero.cells:=rfl
abbrev ops (l:List ah):SV:= .d (.sl l.length (l.flatMap ah.ds))
abbrev uU (l:List ah):List SV:=List.map SV.d (l.flatMap ah.ds)
@[simp] theorem Dc (l:List ah):(l.flatMap ah.ds).length=l.length*29:=eB ah.ds 29 (fun _=>rfl) l
theorem eX {l:List ah}{i:Nat}{x:ah}(h:l[i]? =some x):List.take 29 (List.drop (i*29) (List.map SV.d (l.flatMap ah.ds)))=x.cells:=by
 rw [← List.map_drop,← List.map_take,jM ah.ds 29 (fun _=>rfl) l i x h]
 rfl
theorem Fw {l:List ah}{i:Nat}{x:ah}(h:l[i]? =some x){j:Nat}(hj:j<29):(List.map SV.d (l.flatMap ah.ds))[i*29+j]? =x.cells[j]? :=by
 rw [List.getElem?_map,qo ah.ds 29 (fun _=>rfl) l i j x h hj,ah.cells,List.getElem?_map]
theorem bQ {l:List ah}{i:Nat}{x:ah}(h:l[i]? =some x):(i*29+29≤(List.map SV.d (l.flatMap ah.ds)).length)=True:=eq_true (by
 have:=dw h
 rw [List.length_map,Dc]
 omega)
structure Cr where
 dot:Dt
 e_:Dt
 par:Dt
 hold:Nat
 dK:Nat
 depth:Nat
 cap:Nat
 level:Int
 deriving DecidableEq
def Cr.ds (o:Cr):List DV:=[.int .u8 o.dot.r,.int .u32 o.dot.n,.int .u8 o.e_.r,.int .u32 o.e_.n,.int .u8 o.par.r,.int .u32 o.par.n,.int .u32 o.hold,.int .u8 o.dK,.int .u8 o.depth,.int .u64 o.cap,.int .i64 o.level]
def Cr.cells (o:Cr):List SV:=o.ds.map .d
@[simp] theorem Cr.ku (o:Cr):o.ds.length=11:=rfl
@[simp] theorem Cr.jN (o:Cr):o.cells.length=11:=rfl
@[simp] theorem Cr.an (o:Cr) (q:Nat→Bool):SV.aF q o.cells=true:=SV.cm _
@[simp] theorem Cr.bN (o:Cr) (ρ:Nat→Nat):SV.aM ρ o.cells=o.cells:=SV.dW _
theorem Cr.cells_one (o:Cr):o.cells.all SV.aZ=true:=rfl
@[simp] theorem Cr.aq (o:Cr):o.cells.take 11=o.cells:=rfl
theorem Cr.gu (o:Cr):o.cells.take 2=o.dot.cells:=rfl
theorem Cr.k9 (o:Cr):(o.cells.drop 2).take 2=o.e_.cells:=rfl
theorem Cr.AL (o:Cr):(o.cells.drop 4).take 2=o.par.cells:=rfl
theorem Cr.uV (o:Cr):o.cells[6]? =some (u32 o.hold):=rfl
theorem Cr.iU (o:Cr):o.cells[7]? =some (u8 o.dK):=rfl
theorem Cr.iV (o:Cr):o.cells[8]? =some (u8 o.depth):=rfl
theorem Cr.qB (o:Cr):o.cells[9]? =some (u64 o.cap):=rfl
theorem Cr.qF (o:Cr):o.cells[10]? =some (i64 o.level):=rfl
theorem Cr.aB (c o:Cr):bV c.cells 0 o.cells=o.cells:=rfl
def Cr.zero:Cr:=⟨⟨0,0⟩,⟨0,0⟩,⟨0,0⟩,0,0,0,0,0⟩
theorem Cr.ak:([.d (.int .u8 0),.d (.int .u32 0),.d (.int .u8 0),.d (.int .u32 0),.d (.int .u8 0),.d (.int .u32 0),.d (.int .u32 0),.d (.int .u8 0),.d (.int .u8 0),.d (.int .u64 0),.d (.int .i64 0)]:List SV)=Cr.zero.cells:=rfl
theorem Cr.fV (a b:Cr):eZ [true,true,true,true,true,true,true,true,true,true,true] a.cells b.cells=some (decide (a=b)):=by
 have h:eZ [true,true,true,true,true,true,true,true,true,true,true] a.cells b.cells=some (((a.dot.r:Int) == b.dot.r) && (((a.dot.n:Int) == b.dot.n) && (((a.e_.r:Int) == b.e_.r) && (((a.e_.n:Int) == b.e_.n) && (((a.par.r:Int) == b.par.r) && (((a.par.n:Int) == b.par.n) &&
   (((a.hold:Int) == b.hold) && (((a.dK:Int) == b.dK) && (((a.depth:Int) == b.depth) && (((a.cap:Int) == b.cap) && ((a.level == b.level) && true))))))))))):=by simp [eZ,yw,Cr.cells,Cr.ds]
 rw [h]
 congr 1
 obtain ⟨⟨a0,a1⟩,⟨a2,a3⟩,⟨a4,a5⟩,a6,a7,a8,a9,a10⟩:=a
 obtain ⟨⟨b0,b1⟩,⟨b2,b3⟩,⟨b4,b5⟩,b6,b7,b8,b9,b10⟩:=b
 rw [Bool.eq_iff_iff]
 simp
 omega
abbrev c_ (l:List Cr):SV:= .d (.sl l.length (l.flatMap Cr.ds))
@[simp] theorem HH (l:List Cr):(l.flatMap Cr.ds).length=l.length*11:=eB Cr.ds 11 (fun _=>rfl) l
def ov (o:ah):SV:= .agg o.cells
def cv (o:Cr):SV:= .agg o.cells
section
variable {K:Type} [DecidableEq K] {kc:K→List SV}
theorem nq (L:MM K ah)(a:K):bX (aN kc ov L) (.agg ah.zero.cells) (MM.idx L a)= .agg ((MM.get L a).getD ah.zero).cells:=lU (vs:=ov) ah.zero L a
theorem nr (L:MM K Cr)(a:K):bX (aN kc cv L) (.agg Cr.zero.cells) (MM.idx L a)= .agg ((MM.get L a).getD Cr.zero).cells:=lU (vs:=cv) Cr.zero L a
theorem nt (L:MM K ah)(c:Nat)(a:K):oR (aN kc ov L) c (.agg (kc a)) (.agg ah.zero.cells) (MM.idx L a)= .map (aN kc ov (MM.zY L c a ah.zero)) (MM.qv L c a):=tL (vs:=ov) L c a ah.zero
theorem nu (L:MM K Cr)(c:Nat)(a:K):oR (aN kc cv L) c (.agg (kc a)) (.agg Cr.zero.cells) (MM.idx L a)= .map (aN kc cv (MM.zY L c a Cr.zero)) (MM.qv L c a):=tL (vs:=cv) L c a Cr.zero
theorem nv (L:MM K Int)(c:Nat)(a:K):oR (aN kc iv L) c (.agg (kc a)) (.d (.int .i64 0)) (MM.idx L a)= .map (aN kc iv (MM.zY L c a 0)) (MM.qv L c a):=tL (vs:=iv) L c a 0
theorem nw (L:MM K ah)(c:Nat)(a:K)(z v:ah):(aN kc ov (MM.zY L c a z)).modify (MM.pos L a) (fun e=>(e.1,e.2.1,.agg v.cells))=aN kc ov (MM.put L c a v):=lV (vs:=ov) L c a z v
theorem nx (L:MM K Cr)(c:Nat)(a:K)(z v:Cr):(aN kc cv (MM.zY L c a z)).modify (MM.pos L a) (fun e=>(e.1,e.2.1,.agg v.cells))=aN kc cv (MM.put L c a v):=lV (vs:=cv) L c a z v
theorem ny (L:MM K Int)(c:Nat)(a:K)(z v:Int):(aN kc iv (MM.zY L c a z)).modify (MM.pos L a) (fun e=>(e.1,e.2.1,.d (.int .i64 v)))=aN kc iv (MM.put L c a v):=lV (vs:=iv) L c a z v
theorem gv (ρ:Nat→Nat)(L:MM Dt ah):(aN Dt.cells ov L).map (fun e=>(e.1,e.2.1.aP ρ,e.2.2.aP ρ))=aN Dt.cells ov L:=qx ρ L (fun a=>Dt.bN a ρ) (fun v=>by simp [ov,SV.aP])
theorem dI (q:Nat→Bool)(L:MM Dt ah):((aN Dt.cells ov L).all fun e=>e.2.1.ok q && e.2.2.ok q)=true:=jr q L (fun a=>Dt.an a q) (fun v=>by simp [ov,SV.ok])
end
end Go.Sl
namespace Go.Sl
theorem ag.Gx (v:ag){r:Nat}(hr:r<8):(v.set r (v.get r+1)).count=v.count+1:=by
 match r,hr with
 | 0,_=>simp [ag.count,ag.set,ag.of,ag.get];omega
 | 1,_=>simp [ag.count,ag.set,ag.of,ag.get];omega
 | 2,_=>simp [ag.count,ag.set,ag.of,ag.get];omega
 | 3,_=>simp [ag.count,ag.set,ag.of,ag.get];omega
 | 4,_=>simp [ag.count,ag.set,ag.of,ag.get];omega
 | 5,_=>simp [ag.count,ag.set,ag.of,ag.get];omega
 | 6,_=>simp [ag.count,ag.set,ag.of,ag.get];omega
 | 7,_=>simp [ag.count,ag.set,ag.of,ag.get];omega
def He (v:ag):List Dt→ag
 | []=>v
 | d::l=>He (v.set d.r d.n) l
theorem pU {P:Program}{d:Nat}{t:TypeId}{k:IntKind}{ds:List DV}(ht:P.underlying t=some (.int k))(h:Fit P (d+1) t ds):∃ n,ds=[.int k n]∧(Lit.int k n).wf=true:=by
 rw [Fit,ht] at h
 exact h
theorem wf_u32 {n:Int}(h:(Lit.int .u32 n).wf=true):∃ m:Nat,n=(m:Int)∧m<4294967296:=by
 simp [Lit.wf,IntKind.min,IntKind.max,IntKind.signed,IntKind.bits] at h
 exact ⟨n.toNat,by omega,by omega⟩
theorem wf_u64 {n:Int}(h:(Lit.int .u64 n).wf=true):∃ m:Nat,n=(m:Int)∧m<18446744073709551616:=by
 simp [Lit.wf,IntKind.min,IntKind.max,IntKind.signed,IntKind.bits] at h
 exact ⟨n.toNat,by omega,by omega⟩
theorem wf_u8 {n:Int}(h:(Lit.int .u8 n).wf=true):∃ m:Nat,n=(m:Int)∧m<256:=by
 simp [Lit.wf,IntKind.min,IntKind.max,IntKind.signed,IntKind.bits] at h
 exact ⟨n.toNat,by omega,by omega⟩
theorem wf_i64 {n:Int}(h:(Lit.int .i64 n).wf=true): -9223372036854775808≤n∧n<9223372036854775808:=by
 simp [Lit.wf,IntKind.min,IntKind.max,IntKind.signed,IntKind.bits] at h
 omega
theorem kA {P:Program}{d:Nat}{t:TypeId}{ds:List DV}(ht:P.underlying t=some (.int .u32))(h:Fit P (d+1) t ds):∃ m:Nat,m<4294967296∧ds=[.int .u32 m]:=by
 obtain ⟨n,rfl,hw⟩:=pU ht h
 obtain ⟨m,rfl,hm⟩:=wf_u32 hw
 exact ⟨m,hm,rfl⟩
theorem xI {P:Program}{d:Nat}{t:TypeId}{ds:List DV}(ht:P.underlying t=some (.int .u64))(h:Fit P (d+1) t ds):∃ m:Nat,m<18446744073709551616∧ds=[.int .u64 m]:=by
 obtain ⟨n,rfl,hw⟩:=pU ht h
 obtain ⟨m,rfl,hm⟩:=wf_u64 hw
 exact ⟨m,hm,rfl⟩
theorem oq {P:Program}{d:Nat}{t:TypeId}{ds:List DV}(ht:P.underlying t=some (.int .u8))(h:Fit P (d+1) t ds):∃ m:Nat,m<256∧ds=[.int .u8 m]:=by
 obtain ⟨n,rfl,hw⟩:=pU ht h
 obtain ⟨m,rfl,hm⟩:=wf_u8 hw
 exact ⟨m,hm,rfl⟩
theorem xJ {P:Program}{d:Nat}{t:TypeId}{ds:List DV}(ht:P.underlying t=some (.int .i64))(h:Fit P (d+1) t ds):∃ n:Int,(-9223372036854775808≤n∧n<9223372036854775808)∧ds=[.int .i64 n]:=by
 obtain ⟨n,rfl,hw⟩:=pU ht h
 exact ⟨n,wf_i64 hw,rfl⟩
theorem wu {ds:List DV}{o:Nat}{x:DV}(h:(ds.drop o).take 1=[x]):ds[o]? =some x:=by
 have:=congrArg (·[0]?) h
 simpa [List.getElem?_take] using this
theorem Dd {P:Program}{d:Nat}{t e:TypeId}{ds:List DV}(ht:P.underlying t=some (.array 8 e))(he:P.underlying e=some (.int .u32))(hc:P.cellsOf t=8)(hce:P.cellsOf e=1)(h:Fit P (d+2) t ds):∃ v:ag,v.wf∧ds=v.ds:=by
 rw [Fit,ht] at h
 dsimp only at h
 obtain ⟨hl,hi⟩:=h
 rw [hc] at hl
 rw [hce] at hi
 have key:∀ i,i<8→∃ m:Nat,m<4294967296∧ds[i]? =some (.int .u32 m):=fun i hlt=>by
  obtain ⟨m,hm,e1⟩:=kA (d:=d) he (hi i hlt)
  exact ⟨m,hm,wu (by simpa using e1)⟩
 obtain ⟨m0,h0,e0⟩:=key 0 (by omega)
 obtain ⟨m1,h1,e1⟩:=key 1 (by omega)
 obtain ⟨m2,h2,e2⟩:=key 2 (by omega)
 obtain ⟨m3,h3,e3⟩:=key 3 (by omega)
 obtain ⟨m4,h4,e4⟩:=key 4 (by omega)
 obtain ⟨m5,h5,e5⟩:=key 5 (by omega)
 obtain ⟨m6,h6,e6⟩:=key 6 (by omega)
 obtain ⟨m7,h7,e7⟩:=key 7 (by omega)
 refine ⟨⟨m0,m1,m2,m3,m4,m5,m6,m7⟩,fun r hr=> ?_,List.ext_getElem? fun i=> ?_⟩
 ·match r,hr with
  | 0,_=>exact h0
  | 1,_=>exact h1
  | 2,_=>exact h2
  | 3,_=>exact h3
  | 4,_=>exact h4
  | 5,_=>exact h5
  | 6,_=>exact h6
  | 7,_=>exact h7
 ·match i with
  | 0=>rw [e0];rfl
  | 1=>rw [e1];rfl
  | 2=>rw [e2];rfl
  | 3=>rw [e3];rfl
  | 4=>rw [e4];rfl
  | 5=>rw [e5];rfl
  | 6=>rw [e6];rfl
  | 7=>rw [e7];rfl
  | i+8=>rw [List.getElem?_eq_none (by omega),List.getElem?_eq_none (by simp [ag.ds])]
theorem bS {P:Program}{d:Nat}{t:TypeId}{fs:Array Field}{ds:List DV}(ht:P.underlying t=some (.struct fs))(h:Fit P (d+1) t ds)(i:Nat)(f:Field)(hf:fs[i]? =some f):
  Fit P d f.type ((ds.drop f.offset).take (P.cellsOf f.type)):=by
 rw [Fit,ht] at h
 dsimp only at h
 exact h.2 f (by simpa using Array.mem_of_getElem? hf)
theorem tO {P:Program}{d:Nat}{t:TypeId}{fs:Array Field}{ds:List DV}(ht:P.underlying t=some (.struct fs))(h:Fit P (d+1) t ds):ds.length=P.cellsOf t:=by
 rw [Fit,ht] at h
 dsimp only at h
 exact h.1
theorem De {P:Program}{d:Nat}{t:TypeId}{fs:Array Field}{fR fN:Field}{ds:List DV}(ht:P.underlying t=some (.struct fs))(h0:fs[0]? =some fR)(h1:fs[1]? =some fN)(o0:fR.offset=0)(o1:fN.offset=1)
  (t0:P.underlying fR.type=some (.int .u8)) (t1:P.underlying fN.type=some (.int .u32)) (hc:P.cellsOf t=2) (c0:P.cellsOf fR.type=1) (c1:P.cellsOf fN.type=1) (h:Fit P (d+2) t ds):∃ x:Dt,x.wf∧ds=x.ds:=by
 have f0:=bS ht h 0 fR h0
 have f1:=bS ht h 1 fN h1
 have hl:=tO ht h
 rw [hc] at hl
 rw [o0,c0] at f0
 rw [o1,c1] at f1
 obtain ⟨a,ha,ea⟩:=oq t0 f0
 obtain ⟨b,hb,eb⟩:=kA t1 f1
 have ea:=wu ea
 have eb:=wu eb
 refine ⟨⟨a,b⟩,⟨ha,hb⟩,List.ext_getElem? fun i=> ?_⟩
 match i with
 | 0=>rw [ea];rfl
 | 1=>rw [eb];rfl
 | i+2=>rw [List.getElem?_eq_none (by omega),List.getElem?_eq_none (by simp)]
theorem sN {P:Program}{d:Nat}{t e:TypeId}{ds:List DV}{α:Type}(f:α→List DV)(ok:α→Prop)(ht:P.underlying t=some (.slice e))(hp:∀ ds,Fit P d e ds→∃ x,ok x∧ds=f x)
  (h:Fit P (d+1) t ds):(ds=[.aY])∨∃ l:List α,(∀ x∈l,ok x)∧l.length≤9223372036854775807∧ds=[.sl l.length (l.flatMap f)]:=by
 rw [Fit,ht] at h
 dsimp only at h
 rcases h with h | ⟨n,cs,rfl,hn,hl,hi⟩
 ·exact .inl h
 ·refine .inr ?_
  have key:∀ k,k≤n→∃ l:List α,(∀ x∈l,ok x)∧l.length=k∧cs.take (k*P.cellsOf e)=l.flatMap f:=by
   intro k
   induction k with
   | zero=>intro _;exact ⟨[],by simp,rfl,by simp⟩
   | succ k ih=>
    intro hk
    obtain ⟨l,a1,a2,a3⟩:=ih (by omega)
    obtain ⟨x,b1,b2⟩:=hp _ (hi k hk)
    refine ⟨l++[x],fun y hy=> ?_,by simp [a2],?_⟩
    ·rcases List.mem_append.1 hy with h | h
     ·exact a1 y h
     ·simp at h;subst h;exact b1
    ·rw [Nat.succ_mul,List.take_add,a3,b2];simp
  obtain ⟨l,a1,a2,a3⟩:=key n (Nat.le_refl _)
  rw [List.take_of_length_le (by omega)] at a3
  exact ⟨l,a1,by omega,by rw [a2,a3]⟩
end Go.Sl
namespace Go.Sl
open Go.RowKit
section
structure Cm where
 line:Dt
 ij:Dt
 deriving DecidableEq
def Cm.ds (x:Cm):List DV:=x.line.ds++x.ij.ds
def Cm.wf (x:Cm):Prop:=x.line.wf∧x.ij.wf
@[simp] theorem xK (l:List Cm):(l.flatMap Cm.ds).length=l.length*4:=eB Cm.ds 4 (fun _=>rfl) l
def uW:List DV→List Cm
 | .int _ a:: .int _ b:: .int _ c:: .int _ d::r=>⟨⟨a.toNat,b.toNat⟩,⟨c.toNat,d.toNat⟩⟩::uW r
 | _=>[]
theorem qG:∀ l:List Cm,uW (l.flatMap Cm.ds)=l
 | []=>rfl
 | x::l=>by
  have:=qG l
  show uW (.int .u8 x.line.r:: .int .u32 x.line.n:: .int .u8 x.ij.r:: .int .u32 x.ij.n::l.flatMap Cm.ds)=_
  rw [uW,this]
  rfl
def EL:DV→List Cm
 | .sl _ cs=>uW cs
 | _=>[]
theorem AM (n:Nat)(l:List Cm):EL (.sl n (l.flatMap Cm.ds))=l:=qG l
def ah.cl (o:ah):List Cm:=EL o.lines
structure ah.jf (o:ah):Prop where
 eq:o.lines= .sl o.cl.length (o.cl.flatMap Cm.ds)
 le:o.cl.length≤9223372036854775807
theorem ah.jf.of {o:ah}{l:List Cm}(h:o.lines= .sl l.length (l.flatMap Cm.ds))(hl:l.length≤9223372036854775807):o.jf∧o.cl=l:=by
 have e:o.cl=l:=by unfold ah.cl;rw [h];exact AM _ _
 exact ⟨⟨by rw [e];exact h,by rw [e];exact hl⟩,e⟩
def rT:List (List Nat):=[[],[99,116,114,100,112],[99,97],[99,105,113,101],[99,97,113],[99,97],[99,97,118],[99,97,118],[99,108]]
def eH (kind:Nat):List Nat:=(rT[kind]?).getD []
def zeroV (s:List Nat)(o:ah)(nl:Nat):Bool:=(((((((((((decide (99∈s) || decide (o.gZ=(⟨0,0⟩:Dt))) && (decide (116∈s) || ((o.to:Int) == 0))) && (decide (114∈s) || ((o.dK:Int) == 0))) && (decide (100∈s) || ((o.depth:Int) == 0))) && (decide (112∈s) || ((o.cap:Int) == 0))) && (decide (97∈s) || decide (o.at_=(⟨0,0⟩:Dt)))) && (decide (118∈s) || decide (o.ij=(⟨0,0⟩:Dt)))) && (decide (105∈s) || ((o.item:Int) == 0))) && (decide (113∈s) || ((o.qz:Int) == 0))) && (decide (101∈s) || ((o.gr:Int) == 0))) && (decide (108∈s) || ((nl:Int) == 0)))
def Gy (o:ah)(x:Cm)(pre:List Cm):Bool:=o.dep.aV x.line && o.dep.aV x.ij && pre.all fun y=> !decide (y.line=x.line)
def pH (o:ah)(cl:List Cm)(i:Nat):Bool:=match cl[i]? with
 | some x=>Gy o x (cl.take i)
 | none=>true
def ic (o:ah)(cl:List Cm):Bool:=decide (1≤cl.length∧cl.length≤16) && (List.range cl.length).all (pH o cl)
structure Form (n:Nat)(o:ah):Prop where
 r:o.dot.r<n
 pos:0<o.dot.n
 own:o.dep.get o.dot.r+1=o.dot.n
 t1:1≤o.time
 t2:o.time≤281474976710656
 who:0<o.who
 kind:o.kind≤8
 zero:zeroV (eH o.kind) o o.cl.length=true
 EB:∀ r,n≤r→r<8→o.dep.get r=0
 gen:o.kind=0→o.e_=o.dot
 e_:o.kind≠0→o.dep.aV o.e_=true
 gZ:99∈eH o.kind→o.dep.aV o.gZ=true
 at_:97∈eH o.kind→o.dep.aV o.at_=true
 ij:118∈eH o.kind→o.dep.aV o.ij=true
 Hf:116∈eH o.kind→0<o.to∧1≤o.dK∧o.dK≤7∧o.depth≤7∧o.cap≤1099511627776
 qz:113∈eH o.kind→1≤o.qz∧o.qz≤65535
 gr:o.gr≤16777215
 lines:108∈eH o.kind→ic o o.cl=true
open Classical in
noncomputable def eM (n:Int)(o:ah):Int:=if n<1∨8<n then 2 else if Form n.toNat o then 0 else 5
theorem js {n:Int}{o:ah}:eM n o=0↔1≤n∧n≤8∧Form n.toNat o:=by
 unfold eM
 by_cases h:n<1∨8<n
 ·rw [if_pos h];constructor
  ·intro h;cases h
  ·intro hh;omega
 ·rw [if_neg h]
  by_cases hf:Form n.toNat o
  ·rw [if_pos hf];exact ⟨fun _=>⟨by omega,by omega,hf⟩,fun _=>rfl⟩
  ·rw [if_neg hf];exact ⟨fun h=>(by cases h),fun h=>absurd h.2.2 hf⟩
def ah.lt (a b:ah):Bool:=decide (a.time<b.time∨a.time=b.time∧(a.dot.r<b.dot.r∨a.dot.r=b.dot.r∧a.dot.n<b.dot.n))
theorem ah.lt_iff {a b:ah}:a.lt b=true↔a.time<b.time∨a.time=b.time∧(a.dot.r<b.dot.r∨a.dot.r=b.dot.r∧a.dot.n<b.dot.n):=by simp [ah.lt]
theorem ah.lt_irrefl (a:ah):a.lt a=false:=by rw [Bool.eq_false_iff];intro h;rw [ah.lt_iff] at h;omega
theorem ah.lt_trans {a b c:ah}(h:a.lt b=true)(k:b.lt c=true):a.lt c=true:=by rw [ah.lt_iff] at *;omega
theorem ah.lt_asymm {a b:ah}(h:a.lt b=true):b.lt a=false:=by rw [Bool.eq_false_iff];intro k;rw [ah.lt_iff] at *;omega
theorem ah.nA {a b:ah}(h:a.dot≠b.dot):a.lt b=true∨b.lt a=true:=by
 rw [ah.lt_iff,ah.lt_iff]
 have:a.dot.r≠b.dot.r∨a.dot.n≠b.dot.n:=by
  rcases Nat.decEq a.dot.r b.dot.r with hr | hr
  ·exact .inl hr
  ·rcases Nat.decEq a.dot.n b.dot.n with hn | hn
   ·exact .inr hn
   ·exfalso;apply h
    cases ha:a.dot;cases hb:b.dot
    rw [ha,hb] at hr hn
    cases hr;cases hn;rfl
 omega
def pI (a b:ah):Int:=if a.lt b then -1 else if b.lt a then 1 else 0
theorem kB {a b:ah}:pI a b<0↔a.lt b=true:=by
 unfold pI
 by_cases h:a.lt b=true
 ·simp [h]
 ·by_cases k:b.lt a=true <;> simp [h,k]
def ah.le (a b:ah):Bool:= !b.lt a
theorem ah.le_iff {a b:ah}:ah.le a b=true↔a.time<b.time∨a.time=b.time∧(a.dot.r<b.dot.r∨a.dot.r=b.dot.r∧a.dot.n≤b.dot.n):=by
 unfold ah.le
 rw [Bool.not_eq_true',Bool.eq_false_iff,ne_eq,ah.lt_iff]
 omega
def dD (l:List ah)(d:Dt):Option ah:=l.find? fun o=>decide (o.dot=d)
def kS (l:List ah)(d:Dt):Nat:=l.countP fun o=>decide (o.dot=d)
theorem jQ {l:List ah}{d:Dt}:0<kS l d↔∃ o,o∈l∧o.dot=d:=by
 unfold kS
 rw [List.countP_pos_iff]
 simp
theorem qH {l:List ah}{d:Dt}{o:ah}(h:dD l d=some o):o∈l∧o.dot=d:=by
 unfold dD at h
 have h2:=List.find?_some h
 simp only [decide_eq_true_eq] at h2
 exact ⟨List.mem_of_find?_eq_some h,h2⟩
theorem wv {l:List ah}{d:Dt}:dD l d=none↔∀ o,o∈l→o.dot≠d:=by
 unfold dD
 rw [List.find?_eq_none]
 simp
theorem nB {l:List ah}{d:Dt}:(dD l d).isSome=true↔∃ o,o∈l∧o.dot=d:=by
 cases h:dD l d with
 | none=>
  rw [wv] at h
  constructor
  ·intro h;cases h
  ·rintro ⟨o,ho,e⟩;exact absurd e (h o ho)
 | some o=>exact ⟨fun _=>⟨o,qH h⟩,fun _=>rfl⟩
def cS (l:List ah):Prop:=(l.map (·.dot)).Nodup
theorem cS.inj {l:List ah}(h:cS l){a b:ah}(ha:a∈l)(hb:b∈l)(e:a.dot=b.dot):a=b:=by
 induction l with
 | nil=>cases ha
 | cons x l ih=>
  unfold cS at h
  rw [List.map_cons,List.nodup_cons] at h
  rcases List.mem_cons.1 ha with ea | ha'
  ·rcases List.mem_cons.1 hb with eb | hb'
   ·rw [ea,eb]
   ·exact absurd (List.mem_map.2 ⟨b,hb',by rw [← e,ea]⟩) h.1
  ·rcases List.mem_cons.1 hb with eb | hb'
   ·exact absurd (List.mem_map.2 ⟨a,ha',by rw [e,eb]⟩) h.1
   ·exact ih h.2 ha' hb'
theorem cS.perm {l m:List ah}(h:cS l)(hp:m.Perm l):cS m:=(hp.map _).nodup_iff.2 h
theorem cS.sub {l m:List ah}(h:cS l)(hs:m.Sublist l):cS m:=List.Nodup.sublist (hs.map _) h
theorem cS.cnt {l:List ah}(h:∀ o,o∈l→kS l o.dot=1):cS l:=by
 induction l with
 | nil=>exact List.nodup_nil
 | cons x l ih=>
  have hc:∀ (o:ah),kS (x::l) o.dot=kS l o.dot+if x.dot=o.dot then 1 else 0:=fun o=>by
   unfold kS;rw [List.countP_cons];simp
  have h0:kS l x.dot=0:=by
   have:=h x (by simp)
   rw [hc] at this;simp at this;exact this
  have hx:∀ o,o∈l→o.dot≠x.dot:=fun o ho e=>by
   have:0<kS l x.dot:=jQ.2 ⟨o,ho,e⟩
   omega
  refine List.nodup_cons.2 ⟨fun hm=> ?_,ih fun o ho=> ?_⟩
  ·obtain ⟨o,ho,e⟩:=List.mem_map.1 hm
   exact hx o ho e
  ·have:=h o (List.mem_cons_of_mem _ ho)
   rw [hc,if_neg fun e=>hx o ho e.symm] at this
   omega
theorem cS.AN {l:List ah}(h:cS l){d:Dt}(hd:∃ o,o∈l∧o.dot=d):kS l d=1:=by
 induction l with
 | nil=>obtain ⟨o,ho,_⟩:=hd;cases ho
 | cons x l ih=>
  unfold cS at h
  rw [List.map_cons,List.nodup_cons] at h
  have hc:kS (x::l) d=kS l d+if x.dot=d then 1 else 0:=by unfold kS;rw [List.countP_cons];simp
  rw [hc]
  by_cases e:x.dot=d
  ·rw [if_pos e]
   have:kS l d=0:=by
    rcases Nat.eq_zero_or_pos (kS l d) with h0 | h0
    ·exact h0
    ·obtain ⟨o,ho,eo⟩:=jQ.1 h0
     exact absurd (List.mem_map.2 ⟨o,ho,eo.trans e.symm⟩) h.1
   omega
  ·rw [if_neg e]
   obtain ⟨o,ho,eo⟩:=hd
   rcases List.mem_cons.1 ho with rfl | ho
   ·exact absurd eo e
   ·exact ih h.2 ⟨o,ho,eo⟩
def gC:List ah→List ah
 | []=>[]
 | x::l=>x::(gC l).filter fun o=> !decide (o.dot=x.dot)
theorem AO {l:List ah}{o:ah}:o∈gC l↔dD l o.dot=some o:=by
 induction l with
 | nil=>simp [gC,dD]
 | cons x l ih=>
  simp only [gC,List.mem_cons,List.mem_filter,ih]
  unfold dD
  rw [List.find?_cons]
  by_cases e:x.dot=o.dot
  ·simp only [e,decide_true]
   constructor
   ·rintro (rfl | ⟨_,h⟩)
    ·rfl
    ·simp [e.symm] at h
   ·intro h;injection h with h;exact .inl h.symm
  ·simp only [e,decide_false]
   constructor
   ·rintro (rfl | ⟨h,_⟩)
    ·exact absurd rfl e
    ·exact h
   ·intro h;exact .inr ⟨h,by simp;exact fun h=>e h.symm⟩
theorem jR:∀ l:List ah,cS (gC l)
 | []=>List.nodup_nil
 | x::l=>by
  refine List.nodup_cons.2 ⟨fun hm=> ?_,(jR l).sub List.filter_sublist⟩
  obtain ⟨o,ho,e⟩:=List.mem_map.1 hm
  simp only [List.mem_filter] at ho
  simp [e] at ho
theorem sO (l:List ah)(x:ah):gC (l++[x])=if (dD l x.dot).isSome then gC l else gC l++[x]:=by
 induction l with
 | nil=>rfl
 | cons y l ih=>
  simp only [List.cons_append,gC,ih]
  have hf:dD (y::l) x.dot=if y.dot=x.dot then some y else dD l x.dot:=by
   unfold dD;rw [List.find?_cons]
   by_cases e:y.dot=x.dot <;> simp [e]
  rw [hf]
  by_cases e:y.dot=x.dot
  ·rw [if_pos e]
   by_cases hs:(dD l x.dot).isSome=true
   ·rw [if_pos hs];rfl
   ·rw [if_neg hs]
    simp [List.filter_append,e.symm]
  ·rw [if_neg e]
   by_cases hs:(dD l x.dot).isSome=true
   ·rw [if_pos hs,if_pos hs]
   ·rw [if_neg hs,if_neg hs,List.filter_append]
    have:decide (x.dot=y.dot)=false:=decide_eq_false fun h=>e h.symm
    simp [this]
theorem k_:∀ l:List ah,(gC l).Sublist l
 | []=> .slnil
 | x::l=>(List.filter_sublist.trans (k_ l)).cons_cons x
theorem cS.fst:∀ {l:List ah},cS l→gC l=l
 | [],_=>rfl
 | x::l,h=>by
  unfold cS at h
  rw [List.map_cons,List.nodup_cons] at h
  simp only [gC,cS.fst h.2]
  congr 1
  rw [List.filter_eq_self]
  intro o ho
  simp only [Bool.not_eq_true',decide_eq_false_iff_not]
  exact fun e=>h.1 (List.mem_map.2 ⟨o,ho,e⟩)
def gb (l:List ah):Prop:=l.Pairwise fun a b=>a.lt b=true
theorem gb.unique {l m:List ah}(h1:gb l)(h2:gb m)(h:l.Perm m):l=m:=
 h.eq_of_pairwise (fun a b _ _ h1 h2=>by rw [ah.lt_asymm h1] at h2;cases h2) h1 h2
def aA (l:List ah):List ah:=l.mergeSort ah.le
theorem aT (l:List ah):(aA l).Perm l:=List.mergeSort_perm l ah.le
theorem wz (l:List ah):(aA l).Pairwise fun a b=>ah.le a b=true:=
 List.pairwise_mergeSort (fun a b c h k=>by rw [ah.le_iff] at *;omega) (fun a b=>by
  rw [Bool.or_eq_true,ah.le_iff,ah.le_iff];omega) l
theorem dz {l:List ah}(h:cS l):gb (aA l):=by
 have h1:=wz l
 have h2:cS (aA l):=h.perm (aT l)
 unfold cS List.Nodup at h2
 rw [List.pairwise_map] at h2
 refine List.Pairwise.imp₂ (fun a b hab hne=> ?_) h1 h2
 rcases ah.nA hne with h | h
 ·exact h
 ·unfold ah.le at hab;rw [h] at hab;cases hab
def lg (l:List ah):List ah:=aA (gC l)
theorem qI (l:List ah):(lg l).Perm (gC l):=aT _
theorem uX (l:List ah):gb (lg l):=dz (jR l)
structure sP (l:List ah)(o:ah):Prop where
 self:kS l o.dot=1
 prev:1<o.dot.n→kS l ⟨o.dot.r,o.dot.n - 1⟩=1
 deps:∀ r,r<8→0<o.dep.get r→kS l ⟨r,o.dep.get r⟩=1
 HY:∀ a,a∈l→a.before o=true→a.time<o.time∧o.dep.above a.dep=true
open Classical in
noncomputable def iW (n:Int)(l:List ah):Int:=
 if n<1∨8<n then 2 else if ∀ o,o∈l→Form n.toNat o then if ∀ o,o∈l→sP l o then 0 else 9 else 5
structure kC (n:Int)(l:List ah):Prop where
 n1:1≤n
 n8:n≤8
 form:∀ o,o∈l→Form n.toNat o
 one:∀ o,o∈l→sP l o
theorem wC {n:Int}{l:List ah}:iW n l=0↔kC n l:=by
 unfold iW
 by_cases h:n<1∨8<n
 ·rw [if_pos h];constructor
  ·intro h;cases h
  ·intro hh;have:=hh.n1;have:=hh.n8;omega
 ·rw [if_neg h]
  by_cases hf:∀ o,o∈l→Form n.toNat o
  ·rw [if_pos hf]
   by_cases ho:∀ o,o∈l→sP l o
   ·rw [if_pos ho];exact ⟨fun _=>⟨by omega,by omega,hf,ho⟩,fun _=>rfl⟩
   ·rw [if_neg ho];exact ⟨fun h=>(by cases h),fun h=>absurd h.one ho⟩
  ·rw [if_neg hf];exact ⟨fun h=>(by cases h),fun h=>absurd h.form hf⟩
theorem kC.uniq {n:Int}{l:List ah}(h:kC n l):cS l:=cS.cnt fun o ho=>(h.one o ho).self
theorem kC.lt {n:Int}{l:List ah}(h:kC n l){a o:ah}(ha:a∈l)(ho:o∈l)(hb:a.before o=true):a.lt o=true:=by
 rw [ah.lt_iff];exact .inl ((h.one o ho).HY a ha hb).1
theorem kC.there {n:Int}{l:List ah}(h:kC n l){o:ah}(ho:o∈l){d:Dt}(hd:o.dep.aV d=true):∃ a,a∈l∧a.dot=d:=by
 have hd':=hd
 simp only [ag.aV,Dt.may,Bool.and_eq_true,decide_eq_true_eq] at hd'
 obtain ⟨⟨hr,hn⟩,hle⟩:=hd'
 have h0:∃ a,a∈l∧a.dot=⟨d.r,o.dep.get d.r⟩:=jQ.1 (by have:=(h.one o ho).deps d.r hr (by omega);omega)
 have key:∀ k,k≤o.dep.get d.r - d.n→∃ a,a∈l∧a.dot=⟨d.r,o.dep.get d.r - k⟩:=by
  intro k
  induction k with
  | zero=>intro _;exact h0
  | succ k ih=>
   intro hk
   obtain ⟨a,ha,e⟩:=ih (by omega)
   have e1:a.dot.r=d.r:=by rw [e]
   have e2:a.dot.n=o.dep.get d.r - k:=by rw [e]
   have:=(h.one a ha).prev (by omega)
   rw [e1,e2] at this
   exact jQ.1 (by rw [show o.dep.get d.r - (k+1)=o.dep.get d.r - k - 1 by omega];omega)
 obtain ⟨a,ha,e⟩:=key (o.dep.get d.r - d.n) (Nat.le_refl _)
 refine ⟨a,ha,e.trans ?_⟩
 rw [show o.dep.get d.r - (o.dep.get d.r - d.n)=d.n by omega]
theorem kC.Df {n:Int}{l:List ah}(h:kC n l){o:ah}(ho:o∈l):o.dot.r<8∧0<o.dot.n:=by
 have:=h.form o ho
 have h8:=h.n8
 have h1:=h.n1
 have:=this.r
 exact ⟨by omega,(h.form o ho).pos⟩
end
section
def nz:DV→DV
 | .aY=> .sl 0 []
 | x=>x
theorem bT.nz {M:Mem}{v:Value}{x:DV}(h:bT M x v):bT M (Go.Sl.nz x) v:=by
 cases x with
 | aY=>exact h.jo
 | _=>exact h
theorem cD.nz {M:Mem}{b:Nat}:∀ (cs:List DV) (o:Nat),cD M b o cs→cD M b o (cs.map Go.Sl.nz)
 | [],o,h=>by simp [cD]
 | c::cs,o,h=>by
  simp only [cD,List.map_cons] at h ⊢
  obtain ⟨⟨u,h1,h2⟩,h3⟩:=h
  exact ⟨⟨u,h1,h2.nz⟩,cD.nz cs (o+1) h3⟩
theorem bT.ID {M:Mem}{v:Value}{n:Nat}{cs:List DV}(h:bT M (.sl n cs) v):bT M (.sl n (cs.map Go.Sl.nz)) v:=by
 simp only [bT] at h ⊢
 obtain ⟨A,c,h1,h2,h3,h4⟩:=h
 refine ⟨A,c,h1,h2,fun hn=>by rw [h3 hn];rfl,fun hn=> ?_⟩
 obtain ⟨b,o,h5,h6⟩:=h4 hn
 exact ⟨b,o,h5,cD.nz cs o h6⟩
theorem Dg {p:Nat→Prop}{μ:Nat→Nm}{M:Mem}{n:Nat}{cs:List DV}{r r':List SV}(hr:∀ vs,aQ p μ M r' vs→aQ p μ M r vs)(vs:List Value)(h:aQ p μ M (.d (.sl n cs)::r') vs):aQ p μ M (.d (.sl n (cs.map Go.Sl.nz))::r) vs:=by
 obtain ⟨u,us,rfl,h1,h2⟩:=aQ.aI.1 h
 exact aQ.aI.2 ⟨u,us,rfl,Rp.cu.2 (Rp.cu.1 h1).ID,hr us h2⟩
theorem uY {p:Nat→Prop}{μ:Nat→Nm}{M:Mem}{r r':List SV}(hr:∀ vs,aQ p μ M r' vs→aQ p μ M r vs)(vs:List Value)(h:aQ p μ M (.d .aY::r') vs):aQ p μ M (.d (.sl 0 [])::r) vs:=by
 obtain ⟨u,us,rfl,h1,h2⟩:=aQ.aI.1 h
 exact aQ.aI.2 ⟨u,us,rfl,jo p μ M u h1,hr us h2⟩
theorem uZ {p:Nat→Prop}{μ:Nat→Nm}{M:Mem}{x:SV}{r r':List SV}(hr:∀ vs,aQ p μ M r' vs→aQ p μ M r vs)(vs:List Value)(h:aQ p μ M (x::r') vs):aQ p μ M (x::r) vs:=by
 obtain ⟨u,us,rfl,h1,h2⟩:=aQ.aI.1 h
 exact aQ.aI.2 ⟨u,us,rfl,h1,hr us h2⟩
def ah.nz (o:ah):ah:={ o with lines:=Go.Sl.nz o.lines}
theorem ah.Hg (o:ah):o.nz.ds=o.ds.map Go.Sl.nz:=rfl
theorem Fx (l:List ah):((l.map ah.nz).flatMap ah.ds)=(l.flatMap ah.ds).map Go.Sl.nz:=by
 induction l with
 | nil=>rfl
 | cons o l ih=>simp only [List.map_cons,List.flatMap_cons,List.map_append,ih,ah.Hg]
theorem kD {ds x:List DV}{a n b:Nat}(h:(ds.drop a).take n=x)(hb:a+n=b):ds.drop a=x++ds.drop b:=by
 rw [← h,← hb,← List.drop_drop,List.take_append_drop]
end
end Go.Sl
