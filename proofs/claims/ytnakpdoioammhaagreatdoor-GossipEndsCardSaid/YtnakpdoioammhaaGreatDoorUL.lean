/-
 Histories: what a row knows, counted; the program's own test of a history is the document's.
-/
import Derived.Test.YtnakpdoioammhaaGreatDoorU8
import Derived.Test.YtnakpdoioammhaaGreatDoorUK
import Derived.Test.YtnakpdoioammhaaGreatDoorU9
import Derived.Test.YtnakpdoioammhaaGreatDoorU7
set_option linter.unusedSectionVars false
set_option linter.unusedVariables false
set_option linter.unusedSimpArgs false
namespace Go.Sl
def dx (v:ag)(o:ah):ag:=if o.dot.r<8 then v.set o.dot.r (max (v.get o.dot.r) o.dot.n) else v
def az (l:List ah):ag:=l.foldl dx ag.zero
theorem yL (v:ag)(o:ah){r:Nat}(hr:r<8):v.get r≤(dx v o).get r:=by
 unfold dx
 split
 ·rw [ag.tJ _ _ _ hr];split
  ·rename_i e;rw [← e];omega
  ·omega
 ·omega
theorem wD (v:ag)(o:ah)(hr:o.dot.r<8):o.dot.n≤(dx v o).get o.dot.r:=by
 unfold dx
 rw [if_pos hr,ag.tJ _ _ _ hr,if_pos rfl];omega
theorem yM (v:ag)(o:ah){r:Nat}(hr:r<8):(dx v o).get r=v.get r∨(o.dot=⟨r,(dx v o).get r⟩):=by
 unfold dx
 split
 ·rw [ag.tJ _ _ _ hr];split
  ·rename_i e
   rcases Nat.le_total o.dot.n (v.get o.dot.r) with h | h
   ·left;rw [← e] at h ⊢;omega
   ·right
    rw [Nat.max_eq_right h]
    cases hd:o.dot;rw [hd] at e;rw [e]
  ·exact .inl rfl
 ·exact .inl rfl
theorem u9:∀ (l:List ah) (v:ag) {r:Nat},r<8→v.get r≤(l.foldl dx v).get r
 | [],v,r,_=>Nat.le_refl _
 | o::l,v,r,hr=>Nat.le_trans (yL v o hr) (u9 l (dx v o) hr)
theorem sV:∀ (l:List ah) (v:ag) {o:ah},o∈l→o.dot.r<8→o.dot.n≤(l.foldl dx v).get o.dot.r
 | x::l,v,o,ho,hr=>by
  rcases List.mem_cons.1 ho with rfl | ho
  ·exact Nat.le_trans (wD v o hr) (u9 l _ hr)
  ·exact sV l (dx v x) ho hr
theorem dG:∀ (l:List ah) (v:ag) {r:Nat},r<8→(l.foldl dx v).get r=v.get r∨∃ o,o∈l∧o.dot=⟨r,(l.foldl dx v).get r⟩
 | [],v,r,_=> .inl rfl
 | o ::l,v,r,hr=>by
  rcases dG l (dx v o) hr with h | ⟨x,hx,h⟩
  ·rcases yM v o hr with h2 | h2
   ·left
    show (l.foldl dx (dx v o)).get r=_
    rw [h,h2]
   ·right
    refine ⟨o,by simp,?_⟩
    show o.dot=⟨r,(l.foldl dx (dx v o)).get r⟩
    rw [h];exact h2
  ·exact .inr ⟨x,List.mem_cons_of_mem _ hx,h⟩
theorem iF {l:List ah}{o:ah}(ho:o∈l)(hr:o.dot.r<8):o.dot.n≤(az l).get o.dot.r:=sV l _ ho hr
theorem sW (l:List ah){r:Nat}(hr:r<8):(az l).get r=0∨∃ o,o∈l∧o.dot=⟨r,(az l).get r⟩:=by
 rcases dG l ag.zero hr with h | h
 ·left;unfold az;rw [h,ag.k6]
 ·exact .inr h
theorem oZ (l:List ah)(x:ah):az (l++[x])=dx (az l) x:=by unfold az;rw [List.foldl_append];rfl
theorem wE {l m:List ah}(h:∀ o,o∈l↔o∈m):az l=az m:=ag.ext' fun r hr=>by
 have key:∀ {l m:List ah},(∀ o,o∈l↔o∈m)→(az l).get r≤(az m).get r:=fun {l m} h=>by
  rcases sW l hr with h0 | ⟨o,ho,e⟩
  ·omega
  ·have e1:o.dot.r=r:=by rw [e]
   have e2:o.dot.n=(az l).get r:=by rw [e]
   have:=iF ((h o).1 ho) (by omega)
   rw [e1,e2] at this;exact this
 exact Nat.le_antisymm (key h) (key fun o=>(h o).symm)
def nI (l:List ah)(r:Nat):Nat:=l.countP fun o=>decide (o.dot.r=r)
theorem u_:∀ (l:List ah),(∀ o,o∈l→o.dot.r<8)→l.length=nI l 0+nI l 1+nI l 2+nI l 3+nI l 4+nI l 5+nI l 6+nI l 7
 | [],_=>rfl
 | x::l,h=>by
  have ih:=u_ l fun o ho=>h o (List.mem_cons_of_mem _ ho)
  have hx:=h x (by simp)
  simp only [nI,List.countP_cons,List.length_cons] at ih ⊢
  generalize x.dot.r=r at hx ⊢
  match r,hx with
  | 0,_ | 1,_ | 2,_ | 3,_ | 4,_ | 5,_ | 6,_ | 7,_=>simp;omega
theorem va {g:Nat}{ns:List Nat}(hn:ns.Nodup)(hb:∀ n,n∈ns→0<n∧n≤g):ns.length≤g:=by
 have h:(ns.map fun n=>n - 1).Nodup:=by
  unfold List.Nodup at hn ⊢
  rw [List.pairwise_map]
  exact List.Pairwise.imp_of_mem (fun ha hb' hab=>by have:=hb _ ha;have:=hb _ hb';omega) hn
 have:=h.length_le_of_subset (l₂:=List.range g) fun x hx=>by
  obtain ⟨n,hm,rfl⟩:=List.mem_map.1 hx
  have:=hb n hm
  exact List.mem_range.2 (by omega)
 simpa using this
theorem yN {g:Nat}{ns:List Nat}(hn:ns.Nodup)(hb:∀ n,n∈ns→0<n∧n≤g)(hl:ns.length=g){n:Nat}(h0:0<n)(hg:n≤g):n∈ns:=by
 refine Classical.byContradiction fun hno=> ?_
 have:=va (g:=g) (ns:=n::ns) (List.nodup_cons.2 ⟨hno,hn⟩) fun m hm=>by
  rcases List.mem_cons.1 hm with rfl | hm
  ·exact ⟨h0,hg⟩
  ·exact hb m hm
 simp at this;omega
def wF (l:List ah)(r:Nat):List Nat:=(l.filter fun o=>decide (o.dot.r=r)).map (·.dot.n)
theorem qK (l:List ah)(r:Nat):(wF l r).length=nI l r:=by unfold wF nI;rw [List.length_map,List.countP_eq_length_filter]
theorem nJ {l:List ah}{r n:Nat}:n∈wF l r↔∃ o,o∈l∧o.dot=⟨r,n⟩:=by
 unfold wF
 simp only [List.mem_map,List.mem_filter,decide_eq_true_eq]
 constructor
 ·rintro ⟨o,⟨ho,e⟩,rfl⟩
  exact ⟨o,ho,by rw [← e]⟩
 ·rintro ⟨o,ho,e⟩
  exact ⟨o,⟨ho,by rw [e]⟩,by rw [e]⟩
theorem xP {l:List ah}(h:cS l)(r:Nat):(wF l r).Nodup:=by
 unfold wF List.Nodup
 rw [List.pairwise_map]
 have h2:(l.filter fun o=>decide (o.dot.r=r)).Pairwise fun a b=>a.dot≠b.dot:=by
  have:cS (l.filter fun o=>decide (o.dot.r=r)):=h.sub List.filter_sublist
  unfold cS List.Nodup at this
  rwa [List.pairwise_map] at this
 refine List.Pairwise.imp_of_mem (fun {a b} ha hb hab e=>hab ?_) h2
 simp only [List.mem_filter,decide_eq_true_eq] at ha hb
 cases h1:a.dot;cases h3:b.dot
 rw [h1] at ha e;rw [h3] at hb e
 have e1:=ha.2;have e2:=hb.2
 simp only at e1 e2 e
 rw [e1,e2,e]
def Whole (l:List ah):Prop:=∀ r n,r<8→0<n→n≤(az l).get r→∃ o,o∈l∧o.dot=⟨r,n⟩
theorem Dj {l:List ah}(h:cS l)(hd:∀ o,o∈l→o.dot.r<8∧0<o.dot.n){r:Nat}(hr:r<8):nI l r≤(az l).get r:=by
 rw [← qK]
 refine va (xP h r) fun n hn=> ?_
 obtain ⟨o,ho,e⟩:=nJ.1 hn
 have h1:=hd o ho
 have h2:=iF ho h1.1
 rw [e] at h1 h2
 exact ⟨h1.2,h2⟩
theorem sX {l:List ah}(h:cS l)(hd:∀ o,o∈l→o.dot.r<8∧0<o.dot.n):Whole l↔(az l).count=l.length:=by
 have hs:=u_ l fun o ho=>(hd o ho).1
 have hle:=fun r (hr:r<8)=>Dj h hd hr
 constructor
 ·intro hw
  have heq:∀ r,r<8→nI l r=(az l).get r:=fun r hr=>by
   refine Nat.le_antisymm (hle r hr) ?_
   rw [← qK]
   have h1:(List.range' 1 ((az l).get r)).Nodup:=List.nodup_range'
   have:=h1.length_le_of_subset (l₂:=wF l r) fun n hn=>by
    rw [List.mem_range'_1] at hn
    exact nJ.2 (hw r n hr (by omega) (by omega))
   simpa using this
  have e0:=heq 0 (by omega)
  have e1:=heq 1 (by omega)
  have e2:=heq 2 (by omega)
  have e3:=heq 3 (by omega)
  have e4:=heq 4 (by omega)
  have e5:=heq 5 (by omega)
  have e6:=heq 6 (by omega)
  have e7:=heq 7 (by omega)
  rw [hs,e0,e1,e2,e3,e4,e5,e6,e7]
  rfl
 ·intro hc r n hr h0 hn
  have hc:(az l).get 0+(az l).get 1+(az l).get 2+(az l).get 3+(az l).get 4+(az l).get 5+(az l).get 6+(az l).get 7=l.length:=hc
  have e0:=hle 0 (by omega)
  have e1:=hle 1 (by omega)
  have e2:=hle 2 (by omega)
  have e3:=hle 3 (by omega)
  have e4:=hle 4 (by omega)
  have e5:=hle 5 (by omega)
  have e6:=hle 6 (by omega)
  have e7:=hle 7 (by omega)
  have heq:nI l r=(az l).get r:=by
   match r,hr with
   | 0,_ | 1,_ | 2,_ | 3,_ | 4,_ | 5,_ | 6,_ | 7,_=>omega
  rw [← qK] at heq
  refine nJ.1 (yN (xP h r) (fun m hm=> ?_) heq h0 hn)
  obtain ⟨o,ho,e⟩:=nJ.1 hm
  have h1:=hd o ho
  have h2:=iF ho h1.1
  rw [e] at h1 h2
  exact ⟨h1.2,h2⟩
theorem vb {l:List ah}(h:∀ o,o∈l→sP l o):Whole l:=by
 intro r n hr h0 hn
 rcases sW l hr with e | ⟨o,ho,e⟩
 ·omega
 ·have key:∀ k,k<(az l).get r→∃ a,a∈l∧a.dot=⟨r,(az l).get r - k⟩:=by
   intro k
   induction k with
   | zero=>intro _;exact ⟨o,ho,e⟩
   | succ k ih=>
    intro hk
    obtain ⟨a,ha,ea⟩:=ih (by omega)
    have e1:a.dot.r=r:=by rw [ea]
    have e2:a.dot.n=(az l).get r - k:=by rw [ea]
    have:=(h a ha).prev (by omega)
    rw [e1,e2] at this
    exact jQ.1 (by rw [show (az l).get r - (k+1)=(az l).get r - k - 1 by omega];omega)
  obtain ⟨a,ha,ea⟩:=key ((az l).get r - n) (by omega)
  exact ⟨a,ha,by rw [ea];congr 1;omega⟩
theorem yO {l:List ah}(hd:∀ o,o∈l→o.dot.r<8∧0<o.dot.n):
  (∀ o,o∈l→sP l o)↔cS l∧(az l).count=l.length∧∀ o,o∈l→(az l).above o.dep=true∧∀ a,a∈l→a.before o=true→a.time<o.time∧o.dep.above a.dep=true:=by
 constructor
 ·intro h
  have hu:cS l:=cS.cnt fun o ho=>(h o ho).self
  refine ⟨hu,(sX hu hd).1 (vb h),fun o ho=>⟨ag.jO.2 fun r hr=> ?_,(h o ho).HY⟩⟩
  rcases Nat.eq_zero_or_pos (o.dep.get r) with h0 | h0
  ·omega
  ·have:=(h o ho).deps r hr h0
   obtain ⟨a,ha,ea⟩:=jQ.1 (by rw [this];omega)
   have:=iF ha (by rw [ea];exact hr)
   rw [ea] at this;exact this
 ·rintro ⟨hu,hc,ha⟩ o ho
  have hw:=(sX hu hd).2 hc
  have h1:=hd o ho
  have hk:=iF ho h1.1
  refine ⟨hu.AN ⟨o,ho,rfl⟩,fun h2=>hu.AN (hw _ _ h1.1 (by omega) (by omega)),fun r hr h0=>hu.AN (hw r _ hr h0 (ag.jO.1 (ha o ho).1 r hr)),(ha o ho).2⟩
def tR (out:List ah)(x:ah):List ah:=out.takeWhile (fun y=>y.lt x)++x::out.dropWhile (fun y=>y.lt x)
def pW (l:List ah):List ah:=l.foldl tR []
theorem sY (out:List ah)(x:ah):(tR out x).Perm (x::out):=by
 unfold tR
 refine List.perm_middle.trans ?_
 rw [List.takeWhile_append_dropWhile]
theorem wG {out:List ah}{x:ah}(h:gb out)(hx:∀ y,y∈out→y.dot≠x.dot):gb (tR out x):=by
 unfold tR
 induction out with
 | nil=>exact List.pairwise_singleton _ _
 | cons y out ih=>
  have h1:=List.pairwise_cons.1 h
  by_cases e:y.lt x=true
  ·simp only [List.takeWhile_cons,List.dropWhile_cons,e,if_true,List.cons_append]
   refine List.pairwise_cons.2 ⟨fun z hz=> ?_,ih h1.2 fun z hz=>hx z (List.mem_cons_of_mem _ hz)⟩
   rcases List.mem_append.1 hz with hz | hz
   ·exact h1.1 z ((List.takeWhile_sublist _).subset hz)
   ·rcases List.mem_cons.1 hz with rfl | hz
    ·exact e
    ·exact h1.1 z ((List.dropWhile_sublist _).subset hz)
  ·have e':y.lt x=false:=Bool.eq_false_iff.2 e
   simp only [List.takeWhile_cons,List.dropWhile_cons,e',Bool.false_eq_true,if_false,List.nil_append]
   have hxy:x.lt y=true:=(ah.nA fun e=>hx y (by simp) e.symm).resolve_right e
   exact List.pairwise_cons.2 ⟨fun z hz=>by
    rcases List.mem_cons.1 hz with rfl | hz
    ·exact hxy
    ·exact ah.lt_trans hxy (h1.1 z hz),h⟩
theorem qL:∀ (l out:List ah),(l.foldl tR out).Perm (l++out)
 | [],out=>List.Perm.refl _
 | x::l,out=>(qL l (tR out x)).trans ((List.Perm.append_left l (sY out x)).trans List.perm_middle)
theorem tS (l:List ah):(pW l).Perm l:=by
 have:=qL l []
 rwa [List.append_nil] at this
theorem o3:∀ (l out:List ah),cS (l++out)→gb out→gb (l.foldl tR out)
 | [],out,_,h=>h
 | x::l,out,hu,h=>by
  have hp:(x::l++out).Perm (l++x::out):=List.perm_middle.symm
  have hu2:cS (l++x::out):=hu.perm hp.symm
  refine o3 l (tR out x) (hu2.perm (List.Perm.append_left l (sY out x))) (wG h fun y hy e=> ?_)
  unfold cS at hu
  rw [List.cons_append,List.map_cons,List.nodup_cons] at hu
  exact hu.1 (List.mem_map.2 ⟨y,List.mem_append.2 (.inr hy),e⟩)
theorem wH {l:List ah}(h:cS l):pW l=aA l:=by
 have h1:gb (pW l):=o3 l [] (by rwa [List.append_nil]) List.Pairwise.nil
 exact h1.unique (dz h) ((tS l).trans (aT l).symm)
end Go.Sl
namespace Go.Sl
open Go.RowKit
section
variable {P:Program}
end
section
theorem fu {h:Hp}(hn:(h.map (·.1)).Nodup):∀ x,x∈h→lk h x.1=some x.2:=by
 induction h with
 | nil=>intro x hx;cases hx
 | cons y h ih=>
  intro x hx
  rw [List.map_cons,List.nodup_cons] at hn
  obtain ⟨a,o⟩:=y
  rw [af]
  rcases List.mem_cons.1 hx with rfl | hx
  ·simp
  ·have:x.1≠a:=fun e=>hn.1 (by rw [← e];exact List.mem_map.2 ⟨x,hx,rfl⟩)
   rw [if_neg this]
   exact ih hn.2 x hx
def pK (F:Hp)(x:Nat×Ob):Nat×Ob:=match lk F x.1 with
 | some o=>(x.1,o)
 | none=>x
theorem ve:∀ {h:Hp} {n:Nat} {o:Ob},(h.map (·.1)).Nodup→n∈h.map (·.1)→cB h n o=h.map fun x=>if x.1=n then (n,o) else x
 | [],n,o,_,hm=>by cases hm
 | (m,o')::h,n,o,hn,hm=>by
  rw [List.map_cons,List.nodup_cons] at hn
  simp only [cB,List.map_cons]
  by_cases e:m=n
  ·subst e
   simp only [if_true]
   congr 1
   symm
   conv=>rhs;rw [← List.map_id h]
   refine List.map_congr_left fun x hx=> ?_
   rw [if_neg fun e=>hn.1 (by rw [← e];exact List.mem_map.2 ⟨x,hx,rfl⟩)]
   rfl
  ·rw [if_neg e,if_neg e,ve hn.2 ((List.mem_cons.1 hm).resolve_left fun h=>e h.symm)]
theorem ou {h:Hp}{n:Nat}(hm:n∈h.map (·.1)):∃ o,lk h n=some o:=by
 induction h with
 | nil=>cases hm
 | cons y h ih=>
  obtain ⟨m,o⟩:=y
  rw [af]
  by_cases e:n=m
  ·exact ⟨o,by rw [if_pos e]⟩
  ·rw [if_neg e]
   exact ih ((List.mem_cons.1 hm).resolve_left e)
theorem qM (F:Hp)(x:Nat×Ob):(pK F x).1=x.1:=by unfold pK;split <;> rfl
theorem sZ {h:Hp}(hn:(h.map (·.1)).Nodup):∀ {F:Hp},(F.map (·.1)).Nodup→(∀ n,n∈F.map (·.1)→n∈h.map (·.1))→bz h F=h.map (pK F)
 | [],_,_=>by
  simp only [bz]
  conv=>lhs;rw [← List.map_id h]
  rfl
 | (n,o)::F,hF,hsub=>by
  rw [List.map_cons,List.nodup_cons] at hF
  have ih:=sZ hn hF.2 fun m hm=>hsub m (List.mem_cons_of_mem _ hm)
  have hnames:(h.map (pK F)).map (·.1)=h.map (·.1):=by rw [List.map_map];exact List.map_congr_left fun x _=>qM F x
  have hmem:n∈(h.map (pK F)).map (·.1):=by rw [hnames];exact hsub n (by simp)
  simp only [bz]
  rw [ih]
  unfold cw
  obtain ⟨o1,ho1⟩:=ou hmem
  rw [ho1]
  dsimp only
  rw [ve (by rw [hnames];exact hn) hmem,List.map_map]
  refine List.map_congr_left fun x _=> ?_
  show (if (pK F x).1=n then (n,o) else pK F x)=pK ((n,o)::F) x
  rw [qM]
  unfold pK
  rw [af]
  by_cases e:x.1=n
  ·simp [e]
  ·simp [e]
theorem vf {F:Hp}:∀ {A B:Hp},A.map (·.1)=B.map (·.1)→(∀ x,x∈B→lk F x.1=some x.2)→A.map (pK F)=B
 | [],[],_,_=>rfl
 | [],_::_,h,_=>by simp at h
 | _::_,[],h,_=>by simp at h
 | a::A,b::B,h,hl=>by
  simp only [List.map_cons,List.cons.injEq] at h ⊢
  refine ⟨?_,vf h.2 fun x hx=>hl x (List.mem_cons_of_mem _ hx)⟩
  have:=hl b (by simp)
  unfold pK
  rw [h.1,this]
theorem qN {h F':Hp}:∀ {F:Hp},(∀ n,n∈F.map (·.1)→(lk F' n).isSome=true)→bA h F' F=h
 | [],_=>rfl
 | (n,o)::F,hs=>by
  simp only [bA]
  rw [if_pos (hs n (by simp)),qN fun m hm=>hs m (List.mem_cons_of_mem _ hm)]
theorem vg {pre F F':Hp}(he:F.map (·.1)=F'.map (·.1))(hn:((pre++F).map (·.1)).Nodup):bz (bA (pre++F) F' F) F'=pre++F':=by
 have hn2:(F'.map (·.1)).Nodup:=by rw [← he];rw [List.map_append,List.nodup_append] at hn;exact hn.2.1
 rw [qN fun n h=>by rw [he] at h;obtain ⟨o,ho⟩:=ou h;rw [ho];rfl]
 rw [sZ hn hn2 fun n h=>by rw [List.map_append,List.mem_append,he];exact .inr h,List.map_append,vf he (fu hn2)]
 congr 1
 conv=>rhs;rw [← List.map_id pre]
 refine List.map_congr_left fun x hx=> ?_
 have : lk F' x.1=none:=by
  cases hh:lk F' x.1 with
  | none=>rfl
  | some o=>
   rw [List.map_append,List.nodup_append] at hn
   have h1:x.1∈F'.map (·.1):=by
    have:∀ {h:Hp} {n:Nat} {o:Ob},lk h n=some o→n∈h.map (·.1):=by
     intro h
     induction h with
     | nil=>intro n o h;simp [bq] at h
     | cons y h ih=>
      intro n o hl
      rw [af] at hl
      split at hl
      ·rename_i e;subst e;simp
      ·exact List.mem_cons_of_mem _ (ih hl)
    exact this hh
   exact absurd rfl (hn.2.2 x.1 (List.mem_map.2 ⟨x,hx,rfl⟩) x.1 (by rw [he];exact h1))
 unfold pK
 rw [this];rfl
theorem kF (F G:Hp)(m:Nat):lk (F++G) m=(lk F m).or (lk G m):=by
 unfold lk
 exact List.lookup_append ..
theorem wI {h:Hp}{n:Nat}(hn:lk h n=none):n∉h.map (·.1):=fun hm=>by
 obtain ⟨o,ho⟩:=ou hm
 rw [hn] at ho;cases ho
theorem lW {H:Hp}{n:Nat}{o:Ob}(hn:lk H n=none)(h:(H.map (·.1)).Nodup):(((n,o)::H).map (·.1)).Nodup:=by
 rw [List.map_cons,List.nodup_cons]
 exact ⟨wI hn,h⟩
theorem kG {H:Hp}{n:Nat}{o:Ob}{q:Nat→Bool}(h1:q n=true)(h2:o.ok q=true)(h:H.ok q=true):Hp.ok q ((n,o)::H)=true:=by
 simp only [Hp.ok,List.all_cons,Bool.and_eq_true] at h ⊢
 exact ⟨⟨h1,h2⟩,h⟩
theorem AW {P:Program}{op:Op}{neg:Bool}{kd:Nat}{x':X}(hc:cO P op=some (.me neg kd x')):∃ b t x y t',op= .binOp b t x y t'∧isEq b=true∧dA b=neg∧ux P t y=some kd∧cX x=some x':=by
 cases op <;> simp only [cO] at hc <;> try (cases hc;done)
 case binOp b t x y t'=>
  refine ⟨b,t,x,y,t',rfl,?_⟩
  by_cases hq:isEq b=true
  ·rw [if_pos hq] at hc
   split at hc
   ·repeat' (first | contradiction | (cases hc;done) | split at hc)
   ·repeat' (first | contradiction | (cases hc;done) | split at hc)
   ·repeat' (first | contradiction | (cases hc;done) | split at hc)
   ·repeat' (first | contradiction | (cases hc;done) | split at hc)
   ·split at hc <;> first | (cases hc;done) | skip
    rename_i h1 h2
    injection hc with hc
    injection hc with e1 e2 e3
    subst e2;subst e3
    exact ⟨hq,e1,h1,h2⟩
  ·rw [if_neg hq] at hc
   repeat' (first | contradiction | (cases hc;done) | split at hc)
 all_goals (repeat' (first | contradiction | (cases hc;done) | (obtain ⟨_,_,hh⟩:=Option.map_eq_some_iff.1 hc;cases hh;done) | split at hc))
theorem yP {P:Program}{o:Oper}{E:Nat→Option SV}{H:Nat→Option Ob}{k:Nat}{neg:Bool}{x':X}{n:Nat}{cs:List DV}(hc:cO P o.op=some (.me neg 3 x'))(hx:ev E x'=some (.d (.sl n cs))):
  kE P o E H k 0 [] (fun v F'=>F'=[]∧(v= .d (.bool neg)∨(n=0∧v= .d (.bool !neg)))):=by
 obtain ⟨op,t,x,y,t',ho,hop,hneg,hy,hcx⟩:=AW hc
 subst hneg
 refine ⟨aU,fun rd p μ M a w K QQ hnew hk hS hK=> ?_⟩
 obtain ⟨A,c,e1,e2,e3,e4⟩:=(by simpa [bT] using Rp.cu.1 (hk.get (by simp [ho,Op.operands]) hcx hx):∃ A cp,a.eval x= .slice A n cp∧n≤cp∧(n=0→cs=[])∧(0<n→∃ b q,A=some ⟨b,q,none⟩∧cD M b q cs))
 have hty:∃ e,P.underlying t=some (.slice e)∧a.eval y= .slice none 0 0:=by
  unfold ux at hy
  split at hy <;> first | (cases hy;done) | skip
  all_goals first
   | (injection hy with hy;cases hy;done)
   | exact ⟨_,by assumption,rfl⟩
 obtain ⟨el,hty,hyv⟩:=hty
 have h0:∀ d,(Op.equalIn (d+1) t (a.eval x) (a.eval y)).run P w= .ok A.isNone w:=fun d=>by
  rw [e1,hyv];cases A <;> simp [Op.equalIn,run_underlying hty]
 have h1:=h0 9999
 clear h0
 have n5:eqGuard op t x y (a.eval x) (a.eval y)=Pure.pure ():=by rw [e1];simp [eqGuard_at_slice]
 have hb:(binOp op t (a.eval x) (a.eval y)).run P w= .ok (.bool (bif dA op then !A.isNone else A.isNone)) w:=by
  rw [e1,hyv] at h1 ⊢
  rcases j9 hop with rfl | rfl <;> simp [binOp,Op.equal,Op.maxDepth,h1,dA]
 have hex:(execOp a.eval o).run P w= .ok (.value (.bool (bif dA op then !A.isNone else A.isNone))) w:=by
  simp only [execOp,ho,Sem.run_bind,n5,Sem.run_pure,Result.andThen_ok,hb]
 refine fM hex (hK (.d (.bool (bif dA op then !A.isNone else A.isNone))) [] _ μ M w ⟨rfl,?_⟩ (Rp.bI.2 rfl) (hS.more fun _ h=> .inl h) (Ev.refl _ _ _ _ _ fun n h=>by simp [bq] at h))
 by_cases hn:n=0
 ·cases A <;> cases dA op <;> simp [hn]
 ·obtain ⟨b,q,rfl,_⟩:=e4 (by omega)
  left
  cases dA op <;> rfl
theorem aK.Hi {P:Program}{N k0:Nat}{st:St}{K:St→Prop}{si:SI}{r:List SI}{F:Hp}{nk:Nat}{Q:SV→Hp→Prop}(hg:si.g=none)(hq:∀ o:Oper,cO P o.op=some si.op→kE P o (fun t=>st.env.lookup t) (lk st.hp) st.k nk F Q)
  (hro:∀ v F',Q v F'→F'=F) (h:∀ v F',Q v F'→aK P N k0 r (eT st si ⟨v,F,F',nk,True⟩) K):aK P N k0 (si::r) st K:=by
 refine aK.cons fun ops o hc hN rd dg M0 w0 c0 a w ga i ho Q' KK hKK=> ?_
 obtain ⟨g1,g2,g3⟩:=fS hc
 have hgn:o.guard=none:=by
  rcases g3 with ⟨h,_⟩ | ⟨j,w,t,h,_,h'⟩
  ·exact h
  ·rw [hg] at h';cases h'
 unfold wpOpIn
 simp only [ho,Region.wanted,hgn,if_true]
 exact (ia.step g2 (fun d hd=>hN d (by rw [g2];exact hd)) (hq o g1) (fun v F' hQ hr=>hro v F' hQ) ga fun v F' hQ a' w' hSt'=>hKK _ a' w' (h v F' hQ) hSt')
theorem SW.H7 {P:Program}{N k0:Nat}{st:St}{Q:Exit→St→Prop}{d s t n:Nat}{cs:List DV}{neg:Bool}{bs:List Nat}(hl:st.env.lookup s=some (.d (.sl n cs)))
  (h1:Q .normal ⟨(d,.d (.bool neg))::(t,.d (.sl n cs))::st.env,st.hp,st.k⟩) (h2:n=0→Q .normal ⟨(d,.d (.bool !neg))::(t,.d (.sl n cs))::st.env,st.hp,st.k⟩):
  SW P N k0 (.c7 [⟨some t,.mv (.t s),none⟩,⟨some d,.me neg 3 (.t t),none⟩] bs false) st Q:=by
 refine SW.lp (aK.one (c_:=[]) (c2:=[]) (e:=⟨.d (.sl n cs),[],[],0,True⟩) (by simp only [bJ,bZ,bW,ev,hl]) trivial ?_)
 refine aK.Hi rfl (fun o hc=>yP (n:=n) (cs:=cs) hc (by simp [eT,ev])) (fun v F' h=>h.1) fun v F' hv=>aK.nil ?_
 obtain ⟨rfl,rfl | ⟨h0,rfl⟩⟩:=hv
 ·exact h1
 ·exact h2 h0
end
section
variable {P:Program}
theorem aK.ER {N k0:Nat}{st:St}{K:St→Prop}{si:SI}{r:List SI}{t:Nat}{b:Bool}{F:Hp}{nk:Nat}{Q:SV→Hp→Prop}(hg:si.g=some (t,b))(ES:st.env.lookup t=some (.d (.bool b)))(hq:∀ o:Oper,cO P o.op=some si.op→kE P o (fun t=>st.env.lookup t) (lk st.hp) st.k nk F Q)
  (hro:bF si.op=false) (h:∀ v F',Q v F'→aK P N k0 r (eT st si ⟨v,F,F',nk,True⟩) K):aK P N k0 (si::r) st K:=by
 refine aK.cons fun ops o hc hN rd dg M0 w0 c0 a w ga i ho Q' KK hKK=> ?_
 obtain ⟨g1,g2,g3⟩:=fS hc
 obtain ⟨mq,hdf,hsz,μ,M,gi,hS,hE⟩:=ga
 have ga:ia N dg M0 w0 c0 k0 st a w:=⟨mq,hdf,hsz,μ,M,gi,hS,hE⟩
 have hw:Region.wanted o (yielded ops a.tmps)=true:=by
  rcases g3 with ⟨_,h'⟩ | ⟨j,w,t',hg',hd,h'⟩
  ·rw [hg] at h';cases h'
  ·rw [hg] at h'
   injection h' with h'
   injection h' with e1 e2
   subst e1;subst e2
   have hv:=Rp.bI.1 (gi t _ ES)
   simp only [Region.wanted,hg',iL hd hv]
   simp
 unfold wpOpIn
 simp only [ho,hw,if_true]
 exact (ia.step g2 (fun d hd=>hN d (by rw [g2];exact hd)) (hq o g1) (fun v F' _ hr=>by rw [hro] at hr;cases hr) ga fun v F' hQ a' w' hSt'=>hKK _ a' w' (h v F' hQ) hSt')
theorem aK.Fz {N k0:Nat}{st:St}{K:St→Prop}{d:Option Nat}{r:List SI}{f:X}{args:List X}{t:Nat}{b:Bool}{nl:Nat}{as:List SV}{F:Hp}{nk:Nat}{Q:SV→Hp→Prop}(ES:st.env.lookup t=some (.d (.bool b)))
  (h1:ev (fun t=>st.env.lookup t) f=some (.yl nl)) (h2:fK (fun t=>st.env.lookup t) args=some as) (hF:lk F nl≠none) (Hh:SY P nl as F st.k nk Q) (hsub:HSub F st.hp)
  (h:∀ v F',Q v F'→aK P N k0 r (eT st ⟨d,.call f args,some (t,b)⟩ ⟨v,F,F',nk,True⟩) K):aK P N k0 (⟨d,.call f args,some (t,b)⟩::r) st K:=
 aK.ER rfl ES (fun o hc=>u7 hc h1 h2 hF Hh hsub) rfl h
end
section
end
section
variable {P:Program}
structure fH {σ:Type}(G:Hp)(Fh:σ→Hp)(s:σ)(kk:Nat):Prop where
 nd:(G.map (·.1)).Nodup
 lt:∀ n,n∈G.map (·.1)→n<kk
 no:∀ n,n∈G.map (·.1)→lk (Fh s) n=none
 ok:G.ok (fun n=>decide (n<kk))=true
 okF:(Fh s).ok (fun n=>decide (n<kk))=true
theorem lX {G:Hp}{n:Nat}(h:n∉G.map (·.1)):lk G n=none:=by
 cases hh:lk G n with
 | none=>rfl
 | some o=>
  exfalso;apply h
  clear h
  induction G with
  | nil=>simp [bq] at hh
  | cons x G ih=>
   rw [af] at hh
   split at hh
   ·rename_i e;rw [e];simp
   ·rw [List.map_cons];exact List.mem_cons_of_mem _ (ih hh)
theorem ow:∀ {h:Hp} {n:Nat},lk h n=none→bL h n=h
 | [],_,_=>rfl
 | (m,o)::h,n,hn=>by
  rw [af] at hn
  split at hn
  ·cases hn
  ·rename_i e
   simp only [bL]
   rw [if_neg (fun e'=>e e'.symm),ow hn]
section
variable {σ:Type} {G:Hp} {Fh:σ→Hp} {s:σ} {kk:Nat}
theorem fH.sub (h:fH G Fh s kk):HSub (Fh s) (G++Fh s):=fun n ob hn=>by
 have:n∉G.map (·.1):=fun hm=>by rw [h.no n hm] at hn;cases hn
 rw [kF,lX this,Option.none_or];exact hn
theorem fH.all (h:fH G Fh s kk)(hF:∀ x,x∈Fh s→lk (Fh s) x.1=some x.2):∀ x,x∈G++Fh s→lk (G++Fh s) x.1=some x.2:=fun x hx=>by
 rcases List.mem_append.1 hx with hx | hx
 ·rw [kF,fu h.nd x hx];rfl
 ·exact h.sub x.1 x.2 (hF x hx)
theorem fH.Hj (h:fH G Fh s kk):(G++Fh s).ok (fun n=>decide (n<kk))=true:=by
 have h1:=h.ok
 have h2:=h.okF
 unfold Hp.ok at*
 rw [List.all_append,h1,h2];rfl
theorem fH.mono {k':Nat}(h:fH G Fh s kk)(hk:kk≤k'):fH G Fh s k':=⟨h.nd,fun n hn=>Nat.lt_of_lt_of_le (h.lt n hn) hk,h.no,Hp.fG hk h.ok,Hp.fG hk h.okF⟩
theorem fH.H8 {G':Hp}(h:fH G Fh s kk)(hn:G'.map (·.1)=G.map (·.1))(ho:G'.ok (fun n=>decide (n<kk))=true):fH G' Fh s kk:=⟨by rw [hn];exact h.nd,by rw [hn];exact h.lt,by rw [hn];exact h.no,ho,h.okF⟩
theorem fH.less {G':Hp}(h:fH G Fh s kk)(hs:G'.Sublist G):fH G' Fh s kk:=
 ⟨h.nd.sublist (hs.map _),fun n hn=>h.lt n ((hs.map _).subset hn),fun n hn=>h.no n ((hs.map _).subset hn),by
  have:=h.ok
  unfold Hp.ok at*
  rw [List.all_eq_true] at*
  exact fun x hx=>this x (hs.subset hx),h.okF⟩
theorem fH.out (h:fH G Fh s kk){n:Nat}(hn:kk≤n):lk (Fh s) n=none:=Hp.out h.okF hn
theorem fH.new {n k':Nat}{ob:Ob}(h:fH G Fh s kk)(hn:kk≤n)(hk:n<k')(ho:ob.ok (fun m=>decide (m<k'))=true):fH ((n,ob)::G) Fh s k':=by
 refine ⟨List.nodup_cons.2 ⟨fun hm=> ?_,h.nd⟩,fun m hm=> ?_,fun m hm=> ?_,?_,Hp.fG (by omega) h.okF⟩
 ·have:=h.lt n hm;omega
 ·rcases List.mem_cons.1 hm with rfl | hm
  ·exact hk
  ·have:=h.lt m hm;omega
 ·rcases List.mem_cons.1 hm with rfl | hm
  ·exact h.out hn
  ·exact h.no m hm
 ·have:=Hp.fG (show kk≤k' by omega) h.ok
  unfold Hp.ok at*
  rw [List.all_cons,this,ho]
  simpa using hk
theorem fH.cut {G1:Hp}(h1:fH G1 Fh s kk)(hn:(G.map (·.1)).Nodup)(hs:∀ x,x∈G→x∈G1):fH G Fh s kk:=
 ⟨hn,fun n hm=>by
  obtain ⟨x,hx,rfl⟩:=List.mem_map.1 hm
  exact h1.lt _ (List.mem_map.2 ⟨x,hs x hx,rfl⟩),fun n hm=>by
  obtain ⟨x,hx,rfl⟩:=List.mem_map.1 hm
  exact h1.no _ (List.mem_map.2 ⟨x,hs x hx,rfl⟩),by
  have:=h1.ok
  unfold Hp.ok at*
  rw [List.all_eq_true] at*
  exact fun x hx=>this x (hs x hx),h1.okF⟩
theorem fH.keep {G1:Hp}(h1:fH G1 Fh s kk)(hs:∀ x,x∈G→x∈G1):∀ n ob,lk (G++Fh s) n=some ob→lk (G1++Fh s) n=some ob:=fun n ob hn=>by
 rw [kF] at hn
 cases hg:lk G n with
 | some o=>
  rw [hg] at hn
  have e:o=ob:=by simpa using hn
  have hm:(n,o)∈G:=by
   clear hn hs
   induction G with
   | nil=>simp [bq] at hg
   | cons x G ih=>
    rw [af] at hg
    split at hg
    ·rename_i e;injection hg with hg;rw [e,← hg];simp
    ·exact List.mem_cons_of_mem _ (ih hg)
  rw [kF,fu h1.nd _ (hs _ hm),← e];rfl
 | none=>
  rw [hg,Option.none_or] at hn
  have:n∉G1.map (·.1):=fun hm=>by rw [h1.no n hm] at hn;cases hn
  rw [kF,lX this,Option.none_or];exact hn
theorem bk.own {k0 k:Nat}{env gp:List (Nat×SV)}{hp:Hp}(h:fH G Fh s kk)(hF:∀ x,x∈Fh s→lk (Fh s) x.1=some x.2)(hk:k0≤kk)(he:bf id kk env gp)(hh:∀ n ob,lk (G++Fh s) n=some ob→lk hp n=some ob):bk k0 ⟨env,hp,k⟩ ⟨gp,G++Fh s,kk⟩ id:=
 bk.same hk he h.Hj fun x hx=>hh _ _ (h.all hF x hx)
end
theorem bf.mono {ρ:Nat→Nat}{k k':Nat}(hk:k≤k'){env:List (Nat×SV)}:∀ {gp:List (Nat×SV)},bf ρ k env gp→bf ρ k' env gp
 | [],_=>trivial
 | (t,s)::r,h=>by
  simp only [bf] at h ⊢
  exact ⟨h.1,SV.gP (fun n hn=>by simp only [decide_eq_true_eq] at *;omega) _ h.2.1,h.2.2.mono hk⟩
section
variable {N k0:Nat} {K:St→Prop}
theorem aK.FA {α σ:Type}{Fh:σ→Hp}{Step:σ→α→σ→Prop}{go:σ→Bool}{ej y B kk d:Nat}{enc:α→SV}{s0 s:σ}{xs:List α}(hy:jt P y enc ej Fh Step go s0 B)(x:α){G:Hp}{env:List (Nat×SV)}(gp:List (Nat×SV)){r:List SI}{f a:X}
  (hO:fH G Fh s kk) (p1:ig Step s0 xs s) (hlt:xs.length<B) (uk:go s=true) (mq:k0≤kk)
  (h1:ev (fun t=>env.lookup t) f=some (.yl y)) (h2:ev (fun t=>env.lookup t) a=some (enc x)) (he:∀ b:Bool,bf id kk ((d,bl b)::env) ((d,bl b)::gp))
  (h:∀ s',Step s x s'→fH G Fh s' (kk+ej)→ig Step s0 (xs++[x]) s'→aK P N k0 r ⟨(d,bl (go s'))::gp,G++Fh s',kk+ej⟩ K):
  aK P N k0 (⟨some d,.call f [a],none⟩::r) ⟨env,G++Fh s,kk⟩ K:=by
 refine aK.yield (st:=⟨env,G++Fh s,kk⟩) h1 (by simp only [fK];rw [h2]) (hy.yK s) (hy.call s xs x kk p1 hlt hO.okF uk) hO.sub ?_
 rintro v F' ⟨s',hstep,rfl,rfl,hok',hnm⟩
 rw [iX]
 have hO':fH G Fh s' (kk+ej):=⟨hO.nd,fun n hn=>by have:=hO.lt n hn;omega,fun n hn=>Classical.byContradiction fun hno=>(hnm n hno).elim (fun h=>h (hO.no n hn)) (fun h=>by have:=hO.lt n hn;omega),Hp.fG (by omega) hO.ok,hok'⟩
 refine SW.H6 (bk.own hO' (hy.nd s') (by omega) (bf.mono (by omega) (he _)) fun n ob hn=> ?_) (h s' hstep hO' (.snoc p1 hstep))
 have hlk:=gO (ro:=false) hO.sub (F':=Fh s') (fun h=>by cases h)
 show lk (bn false (G++Fh s) (Fh s) (Fh s')) n=some ob
 rw [hlk]
 by_cases hm:n∈G.map (·.1)
 ·rw [dH (hO.no n hm) (hO'.no n hm)]
  rw [kF] at hn ⊢
  cases hg:lk G n with
  | some o=>rw [hg] at hn;exact hn
  | none=>
   rw [hg,Option.none_or,hO'.no n hm] at hn;cases hn
 ·rw [kF,lX hm,Option.none_or] at hn
  rw [eE (.inr (by rw [hn];simp)),hn]
end
end
section
def Ob.kW (n len:Nat)(ds:List DV):Ob→Ob
 | .box t cs=> .box t (SV.tI n len ds cs)
 | .map es c=> .map (es.map fun e=>(e.1,e.2.1,e.2.2.kW n len ds)) c
 | o=>o
theorem fD.kW {p:Nat→Prop}{μ:Nat→Nm}{M:Mem}{n len:Nat}{ds:List DV}(hg:∀ v,Rp p μ M (.gs n len) v→Rp p μ M (.d (.sl len ds)) v):∀ (r:List (Nat×SV×SV)) (es:List MapEntry),fD p μ M r es→fD p μ M (r.map fun e=>(e.1,e.2.1,e.2.2.kW n len ds)) es
 | [],es,h=>h
 | (b,k,v)::r,es,⟨e,es',h1,h2,h3,h4,h5⟩=>⟨e,es',h1,h2,h3,SV.lR hg v _ h4,fD.kW hg r es' h5⟩
def Dk (n len:Nat)(ds:List DV)(h:Hp):Hp:=h.map fun x=>(x.1,x.2.kW n len ds)
theorem tT (n len:Nat)(ds:List DV):∀ (h:Hp) (m:Nat),lk (Dk n len ds h) m=(lk h m).map (Ob.kW n len ds)
 | [],m=>rfl
 | (q,o)::h,m=>by
  have ih:=tT n len ds h m
  unfold Dk at ih ⊢
  rw [List.map_cons,af,af]
  split
  ·rfl
  ·exact ih
abbrev AX (φ:Ob→Ob)(n len:Nat)(ds:List DV):Prop:=∀ (p:Nat→Prop) (μ:Nat→Nm) (M:Mem) (w:World),(∀ v,Rp p μ M (.gs n len) v→Rp p μ M (.d (.sl len ds)) v)→∀ m o,cR p μ M w m o→cR p μ M w m (φ o)
abbrev vh (φ:Ob→Ob)(h:Hp):Hp:=h.map fun x=>(x.1,φ x.2)
theorem lD (φ:Ob→Ob):∀ (h:Hp) (m:Nat),lk (vh φ h) m=(lk h m).map φ
 | [],m=>rfl
 | (q,o)::h,m=>by
  have ih:=lD φ h m
  unfold vh at ih ⊢
  rw [List.map_cons,af,af]
  split
  ·rfl
  ·exact ih
theorem bP.Hl {p:Nat→Prop}{μ:Nat→Nm}{M:Mem}{w:World}{h:Hp}{n len:Nat}{ds:List DV}{φ:Ob→Ob}(hφ:AX φ n len ds)(hS:bP p μ M (lk h) w)(hg:∀ v,Rp p μ M (.gs n len) v→Rp p μ M (.d (.sl len ds)) v):bP p μ M (lk (vh φ h)) w:=by
 refine ⟨⟨hS.mem.cell,hS.mem.jG⟩,fun m ob hm=> ?_,fun m m' hm hm'=> ?_⟩
 ·rw [lD] at hm
  obtain ⟨o,ho,rfl⟩:=Option.map_eq_some_iff.1 hm
  obtain ⟨a1,a2,a3⟩:=hS.obs m o ho
  exact ⟨a1,hφ p μ M w hg _ _ a2,a3⟩
 ·have key:∀ m,lk (vh φ h) m≠none→lk h m≠none:=fun m hm hn=>hm (by rw [lD,hn];rfl)
  exact hS.inj m m' (key m hm) (key m' hm')
theorem FB (n len:Nat)(ds:List DV):AX (Ob.kW n len ds) n len ds:=fun p μ M w hg m o a2=>by
 cases o with
 | box t cs=>
  simp only [cR,Ob.kW] at a2 ⊢
  obtain ⟨b1,vs,b2,b3⟩:=a2
  exact ⟨b1,vs,b2,SV.ni hg cs _ b3⟩
 | map es c=>
  simp only [cR,Ob.kW] at a2 ⊢
  obtain ⟨b1,vs,b2,b3⟩:=a2
  exact ⟨b1,vs,b2,fD.kW hg es _ b3⟩
 | _=>exact a2
section
variable {P:Program} {N k0:Nat} {st:St} {Q:Exit→St→Prop}
theorem ia.Dl {φ:Ob→Ob}{dg:Nat→Nm}{M0:Mem}{w0:World}{c0:Nat→Option Ob}{a:Act}{w:World}(n:Nat){e sz len:Nat}{cs:List SV}{ds:List DV}(hφ:AX φ n len ds)(hn:lk st.hp n=some (.arr e sz len cs))(hcs:cs=ds.map .d)
    (h:ia N dg M0 w0 c0 k0 st a w):ia N dg M0 w0 c0 k0 ⟨mL n len ds st.env,vh φ (bL st.hp n),st.k⟩ a w:=by
  subst hcs
  obtain ⟨mq,hdf,hsz,μ,M,gi,hS,hE⟩:=h
  obtain ⟨hpn,bw,hMn⟩:=hS.obs n _ hn
  rcases bw with ⟨hdead,hl0,hds⟩ | ⟨hlive,vs,hb,nR,pR,hl3,hl4,hr⟩
  · have hd0:ds=[]:=by simpa using hds
    subst hd0;subst hl0
    have hg:∀ v,Rp (· <st.k) μ M (.gs n 0) v→Rp (· <st.k) μ M (.d (.sl 0 [])) v:=fun v hv=>by
      refine Rp.cu.2 ?_
      simp only [bT]
      obtain ⟨h,_⟩ | ⟨_,_,A,e1⟩:=hv.ji
      · rw [hdead] at h;cases h
      · exact ⟨A,0,e1,Nat.le_refl _,fun _=>trivial,fun h=>absurd h (Nat.lt_irrefl _)⟩
    have hsub:∀ m ob,lk (bL st.hp n) m=some ob→lk st.hp m=some ob:=fun m ob hm=>by
      rw [cU] at hm
      split at hm
      · cases hm
      · exact hm
    refine ⟨mq,hdf,hsz,μ,M,fun t s hs=> ?_,(hS.sub hsub).Hl hφ hg,hE.z7 fun m hm=> ?_⟩
    · rw [gJ] at hs
      obtain ⟨s',hs',rfl⟩:=Option.map_eq_some_iff.1 hs
      exact SV.lR hg s' _ (gi t s' hs')
    · obtain ⟨o1,ho1⟩:=Option.ne_none_iff_exists'.1 hm
      rw [lD] at ho1
      obtain ⟨o2,ho2,_⟩:=Option.map_eq_some_iff.1 ho1
      rw [hsub m o2 ho2];simp
  have hMn:=hMn hlive
  have hlen:ds.length=len*sz:=by simpa using nR
  let M':Mem:=fun b o=>if b=(μ n).blk then (if o<len*sz then vs[o]? else none) else M b o
  have hne:∀ b,b≠(μ n).blk→∀ o,M' b o=M b o:=fun b hb o=>by simp [M',hb]
  have hle:Mem.le M M':=fun b o v hv=>by
    have:b≠(μ n).blk:=fun e=>by rw [e,hMn] at hv;cases hv
    rw [hne b this];exact hv
  have hoth:∀ m,lk st.hp m≠none→m≠n→(μ m).live=true→(μ m).blk≠(μ n).blk:=fun m hm hmn lm e=>hmn (hS.inj m n hm (by rw [hn];simp) lm hlive e)
  have hsub:∀ m ob,lk (bL st.hp n) m=some ob→lk st.hp m=some ob∧m≠n:=fun m ob hm=>by
    rw [cU] at hm
    split at hm
    · cases hm
    · rename_i e;exact ⟨hm,e⟩
  have hg:∀ v,Rp (· <st.k) μ M' (.gs n len) v→Rp (· <st.k) μ M' (.d (.sl len ds)) v:=fun v hv=>by
    obtain ⟨_,e1⟩ | ⟨h,_⟩:=hv.ji
    rotate_left
    · rw [hlive] at h;cases h
    refine Rp.cu.2 ?_
    simp only [bT]
    refine ⟨_,_,e1,pR,fun h0=> ?_,fun _=>⟨_,_,rfl,cD.mk fun i c hi=> ?_⟩⟩
    · subst h0
      simp at hlen
      exact hlen
    · obtain ⟨u,hu,hru⟩:=hr.EI hi
      have hil:i<len*sz:=by rw [← hlen];exact (List.getElem?_eq_some_iff.1 hi).1
      refine ⟨u,?_,bT.mono hle _ _ hru⟩
      rw [List.getElem?_take_of_lt hil] at hu
      simp only [M',if_true,Nat.zero_add,hil]
      simpa using hu
  have hS2:bP (· <st.k) μ M' (lk (bL st.hp n)) w:=by
    refine ⟨⟨fun b o v hv=> ?_,hS.mem.jG.le hle⟩,fun m ob hm=> ?_,fun m m' hm hm' lm lm' e=> ?_⟩
    · by_cases hbn:b=(μ n).blk
      · subst hbn
        simp only [M',if_true] at hv
        split at hv
        · rw [cell_of hb];exact hv
        · cases hv
      · rw [hne b hbn] at hv
        exact hS.mem b o v hv
    · obtain ⟨hm1,hmn⟩:=hsub m ob hm
      obtain ⟨a1,a2,a3⟩:=hS.obs m ob hm1
      refine ⟨a1,a2.more (fun _ h=>h) (fun _ _=>rfl) hle fun _=>rfl,fun lm o=> ?_⟩
      rw [hne _ (hoth m (by rw [hm1];simp) hmn lm)]
      exact a3 lm o
    · obtain ⟨o1,ho1⟩:=Option.ne_none_iff_exists'.1 hm
      obtain ⟨o2,ho2⟩:=Option.ne_none_iff_exists'.1 hm'
      exact hS.inj m m' (by rw [(hsub m o1 ho1).1];simp) (by rw [(hsub m' o2 ho2).1];simp) lm lm' e
  refine ⟨mq,hdf,hsz,μ,M',fun t s hs=> ?_,hS2.Hl hφ hg,⟨hE.old,Mem.le_trans hE.mem hle,fun b hb0 hf=> ?_,hE.size,fun m hm=> ?_,hE.os,hE.tape,hE.output⟩⟩
  · rw [gJ] at hs
    obtain ⟨s',hs',rfl⟩:=Option.map_eq_some_iff.1 hs
    exact SV.lR hg s' _ ((gi t s' hs').more (fun _ h=>h) (fun _ _=>rfl) hle)
  · have hbn:b≠(μ n).blk:=fun e=>by
      rcases hE.names n (by rw [hn];simp) with ⟨_,hh⟩ | ⟨h,h'⟩
      · rcases hh hlive with h | ⟨m,hm,lm,e'⟩
        · omega
        · exact hf m hm lm (e'.trans e.symm)
      · rw [hE.old n h] at e hlive
        exact hf n h' hlive e.symm
    obtain ⟨f1,f2⟩:=hE.frame b hb0 hf
    exact ⟨f1,fun o=>by rw [hne b hbn];exact f2 o⟩
  · obtain ⟨o1,ho1⟩:=Option.ne_none_iff_exists'.1 hm
    rw [lD] at ho1
    obtain ⟨o2,ho2,_⟩:=Option.map_eq_some_iff.1 ho1
    exact hE.names m (by rw [(hsub m o2 ho2).1];simp)
theorem ia.tU {dg:Nat→Nm}{M0:Mem}{w0:World}{c0:Nat→Option Ob}{a:Act}{w:World}(n:Nat){e sz len:Nat}{cs:List SV}{ds:List DV}(hn:lk st.hp n=some (.arr e sz len cs))(hcs:cs=ds.map .d)
  (h:ia N dg M0 w0 c0 k0 st a w):ia N dg M0 w0 c0 k0 ⟨mL n len ds st.env,Dk n len ds (bL st.hp n),st.k⟩ a w:=h.Dl n (FB n len ds) hn hcs
theorem SW.tU {s:cr}(n:Nat){e sz len:Nat}{cs:List SV}(ds:List DV)(hn:lk st.hp n=some (.arr e sz len cs))(hcs:cs=ds.map .d)(h:SW P N k0 s ⟨mL n len ds st.env,Dk n len ds (bL st.hp n),st.k⟩ Q):SW P N k0 s st Q:=
 fun c hc rd hrf dg M0 w0 c0 a w ga=>h c hc rd hrf dg M0 w0 c0 a w (ga.tU n hn hcs)
end
end
end Go.Sl
