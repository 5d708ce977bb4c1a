/-
 Revoke: what an index holds (plain).
-/
import Derived.Test.YtaelhkkjgfobhaaGreatPL
import Derived.Test.YtaelhkkjgfobhaaGreatP6
import Derived.Test.YtaelhkkjgfobhaaGreatPV
set_option linter.unusedSectionVars false
set_option linter.unusedVariables false
set_option linter.unusedSimpArgs false
namespace Go.Proofs.YtaelhkkjgfobhaaGreat
open Go.Sl Go.Proofs
section
def dn:List Dt→SV
 | []=> .d .aJ
 | d::L=>aW (d::L)
theorem Ld (ρ:Nat→Nat)(L:List Dt):(dn L).aC ρ=dn L:=by cases L <;> rfl
theorem F4 (q:Nat→Bool)(L:List Dt):(dn L).ok q=true:=by cases L <;> rfl
theorem xY (L:MM Dt (List Dt))(a:Dt):gB (au Dt.cells dn L) (.d .aJ) (MM.idx L a)=dn ((MM.get L a).getD []):=iW (vs:=dn) [] L a
theorem IS (L:MM Dt (List Dt))(c:Nat)(a:Dt)(v:List Dt):j8 (au Dt.cells dn L) c (.agg a.cells) (dn v) (MM.idx L a)= .map (au Dt.cells dn (MM.put L c a v)) (MM.jl L c a):=jA (vs:=dn) L c a v
theorem F5 (L:MM Dt (List Dt))(c:Nat)(a:Dt):j8 (au Dt.cells dn L) c (.agg a.cells) (.d .aJ) (MM.idx L a)= .map (au Dt.cells dn (MM.put L c a [])) (MM.jl L c a):=jA (vs:=dn) L c a []
theorem eN (ρ:Nat→Nat)(L:MM Dt (List Dt)):(au Dt.cells dn L).map (fun e=>(e.1,e.2.1.aC ρ,e.2.2.aC ρ))=au Dt.cells dn L:=kT ρ L (fun a=>Dt.ay a ρ) (Ld ρ)
theorem eB (q:Nat→Bool)(L:MM Dt (List Dt)):((au Dt.cells dn L).all fun e=>e.2.1.ok q && e.2.2.ok q)=true:=nj q L (fun a=>Dt.ak a q) (F4 q)
noncomputable def Sh.nY (S:Sh)(o:ag):List Dt:=if o.kind=0 then [] else (nQ S.tr o.aN).map (·.dot)
structure Ix where
 ops:MM Dt ag
 co:Nat
 ch:MM Dt (List Dt)
 cc:Nat
 lR:MM Dt (List Dt)
 cf:Nat
def Ix.zero:Ix:=⟨[],0,[],0,[],0⟩
noncomputable def Ix.put (S:Sh)(X:Ix)(d:Dt):Ix:=
 ⟨MM.put X.ops X.co d (S.op d),MM.jl X.ops X.co d,
  if (S.op d).kind=0 then MM.put (MM.put X.ch X.cc d ((nQ S.tr (S.op d).aN).map (·.dot))) (MM.jl X.ch X.cc d) d [] else MM.put X.ch X.cc d ((nQ S.tr (S.op d).aN).map (·.dot)),
  if (S.op d).kind=0 then MM.jl (MM.put X.ch X.cc d ((nQ S.tr (S.op d).aN).map (·.dot))) (MM.jl X.ch X.cc d) d else MM.jl X.ch X.cc d,
  if (S.op d).kind=2 then MM.put X.lR X.cf (S.op d).at_ ((MM.get X.lR (S.op d).at_).getD []++[d]) else X.lR,
  if (S.op d).kind=2 then MM.jl X.lR X.cf (S.op d).at_ else X.cf⟩
noncomputable def Ix.step (S:Sh)(X:Ix)(d:Dt):Ix:=if S.good d then X.put S d else X
noncomputable def vr (S:Sh)(ds:List Dt):Ix:=ds.foldl (Ix.step S) Ix.zero
theorem zB (S:Sh)(ds:List Dt)(d:Dt):vr S (ds++[d])=Ix.step S (vr S ds) d:=by unfold vr;rw [List.foldl_append];rfl
noncomputable def Sh.rv (S:Sh)(a d:Dt):Bool:=S.good d && (decide ((S.op d).kind=2) && decide ((S.op d).at_=a))
structure Le (S:Sh)(ds:List Dt)(X:Ix):Prop where
 wo:MM.wf X.ops X.co
 wc:MM.wf X.ch X.cc
 wf:MM.wf X.lR X.cf
 ops:∀ d,MM.get X.ops d=if d∈ds∧S.good d=true then some (S.op d) else none
 ch:∀ d,MM.get X.ch d=if d∈ds∧S.good d=true then some (S.nY (S.op d)) else none
 lR:∀ a,(MM.get X.lR a).getD []=ds.filter (S.rv a)
 full:∀ x,x∈X.lR→x.2.2≠[]
theorem BV {K V:Type}[DecidableEq K]{m:MM K V}{c:Nat}{a:K}{v:V}{x:Nat×K×V}(hx:x∈MM.put m c a v):x∈m∨x.2.1=a∧x.2.2=v:=by
 unfold MM.put at hx
 split at hx
 ·rename_i i hi
  obtain ⟨y,hy,e,_⟩:=MM.tD hi;obtain ⟨j,hj⟩:=List.mem_iff_getElem?.1 hx;rw [List.getElem?_modify] at hj
  by_cases h:i=j
  ·subst h
   rw [hy] at hj;simp at hj;subst hj;exact .inr ⟨e,rfl⟩
  ·simp [h] at hj
   exact .inl (List.mem_of_getElem? hj)
 ·rcases List.mem_append.1 hx with h | h
  ·exact .inl h
  ·rw [List.mem_singleton] at h
   subst h;exact .inr ⟨rfl,rfl⟩
theorem MT (S:Sh):∀ n (ds:List Dt),ds.length=n→Le S ds (vr S ds):=by
  intro n
  induction n with
  | zero=>
    intro ds h;rw [List.eq_nil_of_length_eq_zero h];exact ⟨MM.kR,MM.kR,MM.kR,fun d=>by simp [vr,Ix.zero,MM.get],fun d=>by simp [vr,Ix.zero,MM.get],fun a=>by simp [vr,Ix.zero,MM.get],fun x hx=>by simp [vr,Ix.zero] at hx⟩
  | succ n ih=>
    intro ds h;have hne:ds≠[]:=fun e=>by rw [e] at h;cases h
    obtain ⟨t,d,rfl⟩:∃ t d,ds=t++[d]:=⟨ds.dropLast,ds.getLast hne,(List.dropLast_concat_getLast hne).symm⟩;have hI:=ih t (by simp at h;exact h);rw [zB];generalize vr S t=X at hI ⊢;unfold Ix.step;cases hg:S.good d with
    | false=>
      rw [if_neg (by simp)];have hm:∀ x,(x∈t++[d]∧S.good x=true)↔(x∈t∧S.good x=true):=fun x=>by
        rw [List.mem_append,List.mem_singleton];constructor
        · rintro ⟨h1 | rfl,h2⟩
          · exact ⟨h1,h2⟩
          · rw [hg] at h2;cases h2
        · rintro ⟨h1,h2⟩
          exact ⟨.inl h1,h2⟩
      refine ⟨hI.wo,hI.wc,hI.wf,fun x=> ?_,fun x=> ?_,fun a=> ?_,hI.full⟩
      · rw [hI.ops];simp only [hm]
      · rw [hI.ch];simp only [hm]
      · rw [hI.lR,List.filter_append]
        have:S.rv a d=false:=by unfold Sh.rv;rw [hg];rfl
        simp [this]
    | true=>
      rw [if_pos rfl];have hm:∀ x,(x∈t++[d]∧S.good x=true)↔(x=d∨x∈t∧S.good x=true):=fun x=>by
        rw [List.mem_append,List.mem_singleton];constructor
        · rintro ⟨h1 | rfl,h2⟩
          · exact .inr ⟨h1,h2⟩
          · exact .inl rfl
        · rintro (rfl | ⟨h1,h2⟩)
          · exact ⟨.inr rfl,hg⟩
          · exact ⟨.inl h1,h2⟩
      refine ⟨MM.jy hI.wo _ _,?_,?_,fun x=> ?_,fun x=> ?_,fun a=> ?_,?_⟩
      · show MM.wf (if _ then _ else _) (if _ then _ else _)
        by_cases h0:(S.op d).kind=0
        · rw [if_pos h0,if_pos h0]
          exact MM.jy (MM.jy hI.wc _ _) _ _
        · rw [if_neg h0,if_neg h0]
          exact MM.jy hI.wc _ _
      · show MM.wf (if _ then _ else _) (if _ then _ else _)
        by_cases h0:(S.op d).kind=2
        · rw [if_pos h0,if_pos h0]
          exact MM.jy hI.wf _ _
        · rw [if_neg h0,if_neg h0]
          exact hI.wf
      · show MM.get (MM.put _ _ _ _) _=_
        rw [MM.dw]
        by_cases e:x=d
        · subst e
          rw [if_pos rfl,if_pos ((hm x).2 (.inl rfl))]
        · rw [if_neg e,hI.ops]
          simp only [hm,e,false_or]
      · show MM.get (if _ then _ else _) _=_
        have hch:MM.get (if (S.op d).kind=0 then MM.put (MM.put X.ch X.cc d ((nQ S.tr (S.op d).aN).map (·.dot))) (MM.jl X.ch X.cc d) d [] else MM.put X.ch X.cc d ((nQ S.tr (S.op d).aN).map (·.dot))) x=if x=d then some (S.nY (S.op d)) else MM.get X.ch x:=by
          unfold Sh.nY
          by_cases h0:(S.op d).kind=0
          · rw [if_pos h0,if_pos h0,MM.dw,MM.dw]
            by_cases e:x=d <;> simp [e]
          · rw [if_neg h0,if_neg h0,MM.dw]
        rw [hch]
        by_cases e:x=d
        · subst e
          rw [if_pos rfl,if_pos ((hm x).2 (.inl rfl))]
        · rw [if_neg e,hI.ch]
          simp only [hm,e,false_or]
      · show (MM.get (if _ then _ else _) _).getD []=_
        rw [List.filter_append]
        by_cases h0:(S.op d).kind=2
        · rw [if_pos h0,MM.dw]
          by_cases e:a=(S.op d).at_
          · have:S.rv a d=true:=by unfold Sh.rv;rw [hg,h0,e];simp
            rw [if_pos e];subst e;rw [hI.lR];simp [this]
          · have:S.rv a d=false:=by unfold Sh.rv;rw [hg,h0];simp [show ¬ (S.op d).at_=a from fun h=>e h.symm]
            rw [if_neg e,hI.lR];simp [this]
        · have:S.rv a d=false:=by unfold Sh.rv;simp [h0]
          rw [if_neg h0,hI.lR];simp [this]
      · intro x hx
        have hx:x∈(if (S.op d).kind=2 then MM.put X.lR X.cf (S.op d).at_ ((MM.get X.lR (S.op d).at_).getD []++[d]) else X.lR):=hx
        by_cases h0:(S.op d).kind=2
        · rw [if_pos h0] at hx
          rcases BV hx with hx | ⟨_,hx⟩
          · exact hI.full x hx
          · rw [hx];simp
        · rw [if_neg h0] at hx
          exact hI.full x hx
theorem F6 (S:Sh)(ds:List Dt):Le S ds (vr S ds):=MT S _ ds rfl
end
section
abbrev OG:=MM Dt (Nat×List Dt)
def gv:Nat×List Dt→SV
 | (_,[])=> .d .aJ
 | (n,d::L)=> .gs n (d::L).length
theorem rI {n:Nat}{L:List Dt}(h:L≠[]):gv (n,L)= .gs n L.length:=by
 cases L with
 | nil=>exact absurd rfl h
 | cons d L=>rfl
def qd (L:List Dt):Ob:= .arr 37 2 L.length ((L.flatMap Dt.ds).map .d)
def OG.pl (G:OG):MM Dt (List Dt):=G.map fun x=>(x.1,x.2.1,x.2.2.2)
def OG.tl (G:OG):Hp:=G.map fun x=>(x.2.2.1,qd x.2.2.2)
structure mJ (G:OG)(lo kk:Nat):Prop where
 nd:(G.map (·.2.2.1)).Nodup
 bd:∀ x,x∈G→lo≤x.2.2.1∧x.2.2.1<kk
 full:∀ x,x∈G→x.2.2.2≠[]
theorem mJ.more {G:OG}{lo kk k':Nat}(h:mJ G lo kk)(hk:kk≤k'):mJ G lo k':=⟨h.nd,fun x hx=>⟨(h.bd x hx).1,by have:=(h.bd x hx).2;omega⟩,h.full⟩
theorem OG.Lf (G:OG)(a:Dt):MM.idx G.pl a=MM.idx G a:=by
 unfold MM.idx OG.pl;rw [List.findIdx?_map];rfl
theorem OG.AV (G:OG)(a:Dt):MM.get G.pl a=(MM.get G a).map (·.2):=by
 unfold MM.get OG.pl;rw [List.find?_map,Option.map_map,Option.map_map];rfl
theorem OG.Lg (G:OG)(a:Dt):MM.has G.pl a=MM.has G a:=by unfold MM.has;rw [OG.AV,Option.isSome_map]
theorem OG.F7 (G:OG)(c:Nat)(a:Dt)(v:Nat×List Dt):OG.pl (MM.put G c a v)=MM.put G.pl c a v.2:=by
 unfold MM.put;rw [OG.Lf];cases MM.idx G a with
 | none=>simp [OG.pl]
 | some i=>
  unfold OG.pl;apply List.ext_getElem?;intro j;simp only [List.getElem?_map,List.getElem?_modify];cases G[j]? with
  | none=>simp
  | some x=>by_cases e:i=j <;> simp [e]
theorem OG.Lh (G:OG)(c:Nat)(a:Dt):MM.jl G.pl c a=MM.jl G c a:=by unfold MM.jl;rw [OG.Lg]
theorem OG.MU {G:OG}{c:Nat}(h:MM.wf G.pl c):MM.wf G c:=by
 have e1:MM.keys G.pl=MM.keys G:=by unfold MM.keys OG.pl;rw [List.map_map];rfl
 have e2:G.pl.map (·.1)=G.map (·.1):=by unfold OG.pl;rw [List.map_map];rfl
 refine ⟨by rw [← e1];exact h.keys,by rw [← e2];exact h.times,fun x hx=> ?_⟩;exact h.old (x.1,x.2.1,x.2.2.2) (List.mem_map.2 ⟨x,hx,rfl⟩)
theorem OG.u5 (G:OG):G.tl.map (·.1)=G.map (·.2.2.1):=by unfold OG.tl;rw [List.map_map];rfl
theorem mJ.Li {G:OG}{lo kk:Nat}(h:mJ G lo kk){x:Nat×Dt×(Nat×List Dt)}(hx:x∈G):lk G.tl x.2.2.1=some (qd x.2.2.2):=
 aG (by rw [OG.u5];exact h.nd) (x.2.2.1,qd x.2.2.2) (List.mem_map.2 ⟨x,hx,rfl⟩)
theorem mJ.out {G:OG}{lo kk n:Nat}(h:mJ G lo kk)(hn:n<lo∨kk≤n):lk G.tl n=none:=by
 refine gf fun hm=> ?_
 rw [OG.u5] at hm;obtain ⟨x,hx,e⟩:=List.mem_map.1 hm;have:=h.bd x hx;omega
theorem mJ.xD {G:OG}{lo kk k:Nat}(h:mJ G lo kk)(hk:kk≤k):G.tl.ok (fun n=>decide (n<k))=true:=by
 unfold Hp.ok OG.tl;rw [List.all_eq_true];intro y hy;obtain ⟨x,hx,rfl⟩:=List.mem_map.1 hy;have:=(h.bd x hx).2;simp only [qd,Ob.ok,SV.br,Bool.and_true,decide_eq_true_eq];omega
theorem xZ {G:OG}{lo kk k:Nat}(h:mJ G lo kk)(hk:kk≤k):((au Dt.cells gv G).all fun e=>e.2.1.ok (fun n=>decide (n<k)) && e.2.2.ok (fun n=>decide (n<k)))=true:=by
 rw [List.all_eq_true];intro y hy;obtain ⟨x,hx,rfl⟩:=fV hy;have:=(h.bd x hx).2;dsimp only;obtain ⟨t,a,n,L⟩:=x;rw [rI (h.full _ hx)];simp only [SV.ok,Dt.ak,Bool.true_and,decide_eq_true_eq];dsimp only at this;omega
theorem u6 {K V:Type}[DecidableEq K]{m:MM K V}(hk:(MM.keys m).Nodup){c:Nat}{a:K}{v:V}{x:Nat×K×V}(hx:x∈MM.put m c a v):(x∈m∧x.2.1≠a)∨x.2.1=a∧x.2.2=v:=by
 by_cases e:x.2.1=a
 ·refine .inr ⟨e,?_⟩
  have hk2:(MM.keys (MM.put m c a v)).Nodup:=by
   rw [MM.qX]
   split
   ·exact hk
   ·rename_i hh
    rw [List.nodup_append];refine ⟨hk,by simp,fun y hy z hz=> ?_⟩;simp only [List.mem_singleton] at hz;subst hz;intro e2;subst e2;exact hh (MM.iz.2 hy)
  have h1:=mem_get2 hk2 hx;rw [e,MM.dw,if_pos rfl] at h1;injection h1 with h1;exact h1.symm
 ·rcases BV hx with h | ⟨h,_⟩
  ·exact .inl ⟨h,e⟩
  ·exact absurd h e
 where
 mem_get2 {K V:Type} [DecidableEq K] {m:MM K V} (hk:(MM.keys m).Nodup) {x:Nat×K×V} (hx:x∈m):MM.get m x.2.1=some x.2.2:=MM.get_of_mem hk (t:=x.1) hx
theorem mJ.put {G:OG}{lo kk:Nat}(h:mJ G lo kk)(hk:(MM.keys G).Nodup)(c:Nat)(a:Dt)(L:List Dt)(n k':Nat)(hn:kk≤n)(hlo:lo≤n)(hk':n<k')(hL:L≠[]):mJ (MM.put G c a (n,L)) lo k':=by
 refine ⟨?_,fun x hx=> ?_,fun x hx=> ?_⟩
 ·unfold MM.put
  cases hi:MM.idx G a with
  | none=>
   dsimp only;rw [List.map_append,List.nodup_append];refine ⟨h.nd,by simp,fun y hy z hz=> ?_⟩;obtain ⟨x,hx,rfl⟩:=List.mem_map.1 hy;simp at hz;have:=(h.bd x hx).2;omega
  | some i=>
   dsimp only;rw [List.nodup_iff_pairwise_ne,List.pairwise_iff_getElem];have hp:=List.pairwise_iff_getElem.1 (List.nodup_iff_pairwise_ne.1 h.nd);intro p q hp1 hq1 hpq;simp only [List.length_map,List.length_modify] at hp1 hq1;have gl:=hp p q (by simpa using hp1) (by simpa using hq1) hpq;simp only [List.getElem_map,List.getElem_modify] at gl ⊢;have b1:=(h.bd G[p] (List.getElem_mem _)).2;have b2:=(h.bd G[q] (List.getElem_mem _)).2
   by_cases e1:i=p
   ·by_cases e2:i=q
    ·omega
    ·rw [if_pos e1,if_neg e2];show n≠_;omega
   ·by_cases e2:i=q
    ·rw [if_neg e1,if_pos e2];show _≠n;omega
    ·rw [if_neg e1,if_neg e2];exact gl
 ·rcases u6 hk hx with ⟨h1,_⟩ | ⟨_,h1⟩
  ·have:=h.bd x h1;omega
  ·rw [h1];exact ⟨hlo,hk'⟩
 ·rcases u6 hk hx with ⟨h1,_⟩ | ⟨_,h1⟩
  ·exact h.full x h1
  ·rw [h1];exact hL
theorem F8 {G:OG}{lo kk:Nat}(h:mJ G lo kk){x y:Nat×Dt×(Nat×List Dt)}(hx:x∈G)(hy:y∈G)(e:x.2.2.1=y.2.2.1):x=y:=by
 have hp:=List.pairwise_iff_getElem.1 (List.nodup_iff_pairwise_ne.1 h.nd);obtain ⟨i,hi,rfl⟩:=List.getElem_of_mem hx;obtain ⟨j,hj,rfl⟩:=List.getElem_of_mem hy;rcases Nat.lt_trichotomy i j with hij | hij | hij
 ·have:=hp i j (by simpa using hi) (by simpa using hj) hij
  simp only [List.getElem_map] at this;exact absurd e this
 ·subst hij;rfl
 ·have:=hp j i (by simpa using hj) (by simpa using hi) hij
  simp only [List.getElem_map] at this;exact absurd e.symm this
theorem mJ.OK {G:OG}{lo kk:Nat}(h:mJ G lo kk)(hk:(MM.keys G).Nodup){c:Nat}{a:Dt}{L:List Dt}{n:Nat}{H:Hp}(h1:lk H n=some (qd L))(h2:∀ x,x∈G→x.2.1≠a→lk H x.2.2.1=lk G.tl x.2.2.1):∀ y,y∈OG.tl (MM.put G c a (n,L))→lk H y.1=some y.2:=by
 intro y hy;obtain ⟨x,hx,rfl⟩:=List.mem_map.1 hy;rcases u6 hk hx with ⟨g1,g2⟩ | ⟨_,g1⟩
 ·show lk H x.2.2.1=some (qd x.2.2.2)
  rw [h2 x g1 g2];exact h.Li g1
 ·show lk H x.2.2.1=some (qd x.2.2.2)
  rw [g1];exact h1
mutual
theorem SV.rJ {n len:Nat}{ds:List DV}{q:Nat→Bool}(hq:q n=false):∀ (s:SV),s.ok q=true→s.iw n len ds=s
 | .gs m l,h=>by
  simp only [SV.iw];rw [if_neg];intro e;subst e;simp only [SV.ok] at h;rw [hq] at h;cases h
 | .agg cs,h=>by simp only [SV.iw];rw [SV.oM hq cs (by simpa only [SV.ok] using h)]
 | .dm cs,h=>by simp only [SV.iw];rw [SV.oM hq cs (by simpa only [SV.ok] using h)]
 | .d _,_=>rfl
 | .ptr _ _,_=>rfl
 | .vp _ _,_=>rfl
 | .bs _ _ _,_=>rfl
 | .mp _,_=>rfl
 | .it _,_=>rfl
 | .fn _ _ _,_=>rfl
 | .yl _,_=>rfl
 | .any,_=>rfl
theorem SV.oM {n len:Nat}{ds:List DV}{q:Nat→Bool}(hq:q n=false):∀ (s:List SV),SV.ax q s=true→SV.vB n len ds s=s
 | [],_=>rfl
 | c::cs,h=>by
  simp only [SV.ax,Bool.and_eq_true] at h;simp only [SV.vB];rw [SV.rJ hq c h.1,SV.oM hq cs h.2]
end
theorem x_ {n len:Nat}{ds:List DV}{q:Nat→Bool}(hq:q n=false){es:List (Nat×SV×SV)}(h:(es.all fun e=>e.2.1.ok q && e.2.2.ok q)=true):es.map (fun e=>(e.1,e.2.1,e.2.2.iw n len ds))=es:=by
 conv=>rhs;rw [← List.map_id es]
 refine List.map_congr_left fun e he=> ?_
 have:=List.all_eq_true.1 h e he;simp only [Bool.and_eq_true] at this;rw [SV.rJ hq _ this.2];rfl
theorem Ob.rJ {n len:Nat}{ds:List DV}{q:Nat→Bool}(hq:q n=false)(o:Ob)(h:o.ok q=true):o.iw n len ds=o:=by
 cases o with
 | box t cs=>simp only [Ob.iw];rw [SV.oM hq cs (by simpa only [Ob.ok] using h)]
 | map es c=>simp only [Ob.iw];rw [x_ hq (by simpa only [Ob.ok] using h)]
 | _=>rfl
theorem F9 {n len:Nat}{ds:List DV}{q:Nat→Bool}(hq:q n=false){env:List (Nat×SV)}(h:(env.all fun x=>x.2.ok q)=true):iZ n len ds env=env:=by
 unfold iZ
 conv=>rhs;rw [← List.map_id env]
 refine List.map_congr_left fun e he=> ?_
 rw [SV.rJ hq _ (List.all_eq_true.1 h e he)];rfl
theorem bp.refl {k:Nat}:∀ {Lj env:List (Nat×SV)},(∀ t s,env.lookup t=some s→Lj.lookup t=some s)→(env.all fun x=>x.2.ok fun n=>decide (n<k))=true→(env.map (·.1)).Nodup→bp id k Lj env
 | _,[],_,_,_=>trivial
 | Lj, (t,s)::env,h,hok,n9=>by
  simp only [List.all_cons,Bool.and_eq_true] at hok;rw [List.map_cons,List.nodup_cons] at n9;simp only [bp];refine ⟨?_,hok.1,bp.refl (fun u x hx=> ?_) hok.2 n9.2⟩
  ·rw [h t s (by simp [List.lookup])];simp [SV.ow]
  ·refine h u x ?_
   rw [List.lookup_cons];have:(u == t)=false:=by
    rw [beq_eq_false_iff_ne];intro e;subst e;refine n9.1 ?_;have hm:=List.lookup_eq_some_iff.1 hx;obtain ⟨a,b,e,_⟩:=hm;rw [e];simp
   rw [this];exact hx
section
variable {P:Program} {N k0:Nat} {Q:Exit→St→Prop}
theorem SW.Lk {s:bP}{st:St}(n:Nat){t:Nat}{cs cs':List SV}(hn:lk st.hp n=some (.box t cs))(hw:∀ (p:Nat→Prop) (μ:Nat→Nm) (M:Mem) (vs:List Value),aU p μ M cs vs→aU p μ M cs' vs)(h:Go.Sl.SW P N k0 s ⟨st.env,fK st.hp n (.box t cs'),st.k⟩ Q):Go.Sl.SW P N k0 s st Q:=by
 intro c hc rd hrf dg M0 w0 c0 a w fP;refine h c hc rd hrf dg M0 w0 c0 a w ?_;obtain ⟨l7,hdf,hsz,μ,M,fc,hS,hE⟩:=fP;have hlk:∀ m,lk (fK st.hp n (.box t cs')) m≠none→lk st.hp m≠none:=fun m hm=>by
  rw [tC] at hm
  by_cases e:m=n
  ·rw [e,hn];simp
  ·rwa [if_neg e] at hm
 refine ⟨l7,hdf,hsz,μ,M,fc,⟨⟨hS.mem.cell,hS.mem.kF⟩,fun m ob hm=> ?_,fun m m' hm hm'=>hS.inj m m' (hlk m hm) (hlk m' hm')⟩,hE.yo hlk⟩;rw [tC] at hm
 by_cases e:m=n
 ·rw [if_pos e] at hm
  injection hm with hm;subst hm;subst e;obtain ⟨a1,a2,a3⟩:=hS.obs _ _ hn;refine ⟨a1,?_,a3⟩;simp only [cE] at a2 ⊢;obtain ⟨b1,vs,b2,b3⟩:=a2;exact ⟨b1,vs,b2,hw _ _ _ _ b3⟩
 ·rw [if_neg e] at hm
  exact hS.obs m ob hm
theorem SW.N5 {s:bP}{X:Hp}{mf cf lo k:Nat}{env:List (Nat×SV)}(l7:k0≤k)(hlo:lo≤k)(Pw:mf<lo)(hX:X.ok (fun n=>decide (n<lo))=true)(n9:(mf::X.map (·.1)).Nodup)(he:(env.all fun x=>x.2.ok fun n=>decide (n<lo))=true)(Ah:(env.map (·.1)).Nodup):
  ∀ (B A:OG),mJ B lo k→(∀ x,x∈A→x.2.2.2≠[])→Go.Sl.SW P N k0 s ⟨env,(mf,.map (au Dt.cells dn (OG.pl A++OG.pl B)) cf)::X,k⟩ Q→Go.Sl.SW P N k0 s ⟨env,(mf,.map (au Dt.cells dn (OG.pl A)++au Dt.cells gv B) cf)::(X++OG.tl B),k⟩ Q:=by
 intro B
 induction B with
 | nil=>
  intro A _ _ h
  simpa [OG.pl,OG.tl,au] using h
 | cons x B ih=>
  intro A hB hA h;obtain ⟨t,a,n,L⟩:=x;have hb:=hB.bd _ (List.mem_cons_self ..);dsimp only at hb;have hL:L≠[]:=hB.full _ (List.mem_cons_self ..);have hB':mJ B lo k:=⟨(List.nodup_cons.1 hB.nd).2,fun y hy=>hB.bd y (List.mem_cons_of_mem _ hy),fun y hy=>hB.full y (List.mem_cons_of_mem _ hy)⟩;have hnB:∀ y,y∈B→y.2.2.1≠n:=fun y hy e=>(List.nodup_cons.1 hB.nd).1 (List.mem_map.2 ⟨y,hy,e⟩)
  have hq:(fun m=>decide (m<lo)) n=false:=by simp only [decide_eq_false_iff_not];omega
  have hXn:∀ y,y∈X→y.1<lo:=fun y hy=>by
   have:=List.all_eq_true.1 hX y hy;simp only [Bool.and_eq_true,decide_eq_true_eq] at this;exact this.1
  have htl:∀ G:OG,(∀ y,y∈G→lo≤y.2.2.1)→∀ m,m<lo→lk (OG.tl G) m=none:=fun G hG m hm=>gf fun hh=>by
   rw [OG.u5] at hh;obtain ⟨y,hy,e⟩:=List.mem_map.1 hh;have:=hG y hy;omega
  have hXl:∀ m,lo≤m→lk X m=none:=fun m hm=>gf fun hh=>by
   obtain ⟨y,hy,e⟩:=List.mem_map.1 hh;have:=hXn y hy;omega
  have hlkn:lk ((mf,Ob.map (au Dt.cells dn (OG.pl A)++au Dt.cells gv ((t,a,n,L)::B)) cf)::(X++OG.tl ((t,a,n,L)::B))) n=some (.arr 37 2 L.length ((L.flatMap Dt.ds).map .d)):=by
   rw [aa,if_neg (by omega),jF,hXl n hb.1,Option.none_or];exact hB.Li (x:=(t,a,n,L)) (List.mem_cons_self ..)
  refine SW.tG n (L.flatMap Dt.ds) hlkn rfl ?_;rw [F9 hq he];have hlen:(L.flatMap Dt.ds)=(L.flatMap Dt.ds):=rfl;have hAB:OG.pl A++OG.pl ((t,a,n,L)::B)=OG.pl (A++[(t,a,n,L)])++OG.pl B:=by simp [OG.pl]
  rw [hAB] at h;refine SW.weak id (st1:=⟨env,(mf,.map (au Dt.cells dn (OG.pl (A++[(t,a,n,L)]))++au Dt.cells gv B) cf)::(X++OG.tl B),k⟩) (aK.same l7 (bp.refl (fun _ _ h=>h) ?_ Ah) ?_ ?_) (ih (A++[(t,a,n,L)]) hB' (fun y hy=> ?_) h)
  ·rw [List.all_eq_true] at he ⊢
   exact fun y hy=>SV.gu (fun m hm=>by simp only [decide_eq_true_eq] at *;omega) _ (he y hy)
  ·refine an (by simp only [decide_eq_true_eq];omega) ?_ ?_
   ·show (au Dt.cells dn (OG.pl (A++[(t,a,n,L)]))++au Dt.cells gv B).all _=true
    rw [List.all_append,xZ hB' (Nat.le_refl _),Bool.and_true];exact eB _ _
   ·have h1:=Hp.bB hlo hX
    have h2:=hB'.xD (Nat.le_refl k);unfold Hp.ok at*;rw [List.all_append,h1,h2];rfl
  ·intro y hy
   have vz:∀ m,m≠n→lk (Cp n L.length (L.flatMap Dt.ds) (cM ((mf,Ob.map (au Dt.cells dn (OG.pl A)++au Dt.cells gv ((t,a,n,L)::B)) cf)::(X++OG.tl ((t,a,n,L)::B))) n)) m=(lk ((mf,Ob.map (au Dt.cells dn (OG.pl A)++au Dt.cells gv ((t,a,n,L)::B)) cf)::(X++OG.tl ((t,a,n,L)::B))) m).map (Ob.iw n L.length (L.flatMap Dt.ds)):=fun m hm=>by
    rw [Bz,dY,if_neg hm]
   rcases List.mem_cons.1 hy with rfl | hy
   ·show lk _ mf=_
    rw [vz mf (by omega),aa,if_pos rfl];have e1:(au Dt.cells dn (OG.pl A)).map (fun e=>(e.1,e.2.1,e.2.2.iw n L.length (L.flatMap Dt.ds)))=au Dt.cells dn (OG.pl A):=x_ (q:=fun _=>false) rfl (eB _ _);have e2:(au Dt.cells gv B).map (fun e=>(e.1,e.2.1,e.2.2.iw n L.length (L.flatMap Dt.ds)))=au Dt.cells gv B:=by
     conv=>rhs;rw [← List.map_id (au Dt.cells gv B)]
     refine List.map_congr_left fun e he=> ?_
     obtain ⟨y,hy,rfl⟩:=fV he;obtain ⟨t',a',n',L'⟩:=y;have:=hnB _ hy;dsimp only at this;rw [rI (hB'.full _ hy)];simp only [SV.iw,if_neg this];rfl
    have e3:(gv (n,L)).iw n L.length (L.flatMap Dt.ds)=dn L:=by
     rw [rI hL];simp only [SV.iw,if_true];cases L with
     | nil=>exact absurd rfl hL
     | cons d L=>rfl
    simp only [Option.map_some,Ob.iw,List.map_append,e1];have e4:au Dt.cells gv ((t,a,n,L)::B)=(t,SV.agg a.cells,gv (n,L))::au Dt.cells gv B:=rfl;rw [e4,List.map_cons,e2,e3];simp [OG.pl,au]
   ·rcases List.mem_append.1 hy with hy | hy
    ·have hlt:=hXn y hy
     have hne:y.1≠mf:=fun e=>(List.nodup_cons.1 n9).1 (by rw [← e];exact List.mem_map.2 ⟨y,hy,rfl⟩)
     rw [vz y.1 (by omega),aa,if_neg hne,jF,aG (List.nodup_cons.1 n9).2 y hy];have hok:=List.all_eq_true.1 hX y hy;simp only [Bool.and_eq_true] at hok;simp only [Option.some_or,Option.map_some];rw [Ob.rJ hq _ hok.2]
    ·obtain ⟨z,hz,rfl⟩:=List.mem_map.1 hy
     have hz1:=hnB z hz;have hz2:=(hB'.bd z hz).1;rw [vz _ hz1,aa,if_neg (by show z.2.2.1≠mf;omega),jF,hXl _ hz2,Option.none_or];rw [show lk (OG.tl ((t,a,n,L)::B)) z.2.2.1=some (qd z.2.2.2) from hB.Li (List.mem_cons_of_mem _ hz)];rfl
  ·rcases List.mem_append.1 hy with hy | hy
   ·exact hA y hy
   ·rw [List.mem_singleton] at hy;rw [hy];exact hL
end
end
section
theorem CZ {k:Nat}(h:15≤k):((k == 0)=false∧(0 == k)=false∧(k=0)=False∧(0=k)=False)∧((k == 1)=false∧(1 == k)=false∧(k=1)=False∧(1=k)=False)∧((k == 2)=false∧(2 == k)=false∧(k=2)=False∧(2=k)=False)∧((k == 7)=false∧(7 == k)=false∧(k=7)=False∧(7=k)=False)∧((k == 8)=false∧(8 == k)=false∧(k=8)=False∧(8=k)=False)∧((k == 9)=false∧(9 == k)=false∧(k=9)=False∧(9=k)=False)∧((k == 10)=false∧(10 == k)=false∧(k=10)=False∧(10=k)=False)∧((k == 11)=false∧(11 == k)=false∧(k=11)=False∧(11=k)=False)∧((k == 12)=false∧(12 == k)=false∧(k=12)=False∧(12=k)=False)∧((k == 13)=false∧(13 == k)=false∧(k=13)=False∧(13=k)=False)∧((k == 14)=false∧(14 == k)=false∧(k=14)=False∧(14=k)=False):=⟨cQ (by omega),cQ (by omega),cQ (by omega),cQ (by omega),cQ (by omega),cQ (by omega),cQ (by omega),cQ (by omega),cQ (by omega),cQ (by omega),cQ (by omega)⟩
abbrev Aa (sp:SV)(S:Sh)(X:Ix)(lR:List (Nat×SV×SV))(R:Hp):Hp:=(14,.box 110 [sp,.mp 11,.mp 12,.mp 13])::(13,.map lR X.cf)::(12,.map (au Dt.cells dn X.ch) X.cc)::(11,.map (au Dt.cells ov X.ops) X.co)::
 (10,.box 117 [.ptr 2 0,.mp 7,.mp 8,.mp 9])::(7,.map (au Dt.cells ov S.ops) S.co)::(8,.map (au Dt.cells iv S.fZ) S.ca)::(9,.map (au Dt.cells dv S.l9) S.cl)::(2,.box 166 [.mp 0,.mp 1])::(0,.map (au Dt.cells cv S.tr) S.ct)::(1,.map (au Dt.cells ov S.md) S.cm)::R
abbrev hX (S:Sh)(X:Ix):Hp:=Aa .any S X (au Dt.cells dn X.lR) []
theorem ya {sp:SV}(S:Sh)(X:Ix){es:List (Nat×SV×SV)}{R:Hp}{k:Nat}(hk:15≤k)(hsp:sp.ok (fun n=>decide (n<k))=true)(he:(es.all fun e=>e.2.1.ok (fun n=>decide (n<k)) && e.2.2.ok (fun n=>decide (n<k)))=true)(hR:R.ok (fun n=>decide (n<k))=true):(Aa sp S X es R).ok (fun n=>decide (n<k))=true:=by
 have a:=bq (fun n=>decide (n<k)) S.ops;have b:=bJ (fun n=>decide (n<k)) S.fZ;have c:=jf (fun n=>decide (n<k)) S.l9;have d:=gT (fun n=>decide (n<k)) S.tr;have e:=bq (fun n=>decide (n<k)) S.md;have f:=bq (fun n=>decide (n<k)) X.ops;have g:=eB (fun n=>decide (n<k)) X.ch;refine an (by simp;omega) (by simp [Ob.ok,SV.ax,SV.ok,hsp];omega) (an (by simp;omega) he (an (by simp;omega) g (an (by simp;omega) f (an (by simp;omega) (by simp [Ob.ok,SV.ax,SV.ok];omega) (an (by simp;omega) a (an (by simp;omega) b (an (by simp;omega) c (an (by simp;omega) (by simp [Ob.ok,SV.ax,SV.ok];omega) (an (by simp;omega) d (an (by simp;omega) e hR))))))))))
theorem JO (S:Sh)(X:Ix){k:Nat}(hk:15≤k):(hX S X).ok (fun n=>decide (n<k))=true:=ya S X hk rfl (eB _ _) rfl
theorem BW (sp:SV)(S:Sh)(X:Ix)(es:List (Nat×SV×SV))(R:Hp):HSub S.lD (Aa sp S X es R):=by
 refine HSub.cons ?_ (HSub.cons ?_ (HSub.cons ?_ (HSub.cons ?_ (HSub.cons ?_ (HSub.cons ?_ (HSub.cons ?_ (HSub.nil _))))))) <;> rfl
theorem sL {F h:Hp}{n:Nat}{ob:Ob}(hF:HSub F h)(hn:lk F n=none):HSub F ((n,ob)::h):=fun m o hm=>by
 rw [aa,if_neg (fun e=>by rw [e,hn] at hm;cases hm)];exact hF m o hm
theorem yb (S:Sh){n:Nat}(h:15≤n):lk S.lD n=none:=by
 refine gf ?_;simp;omega
theorem F_ (S:Sh)(hu:S.tn)(hs:jv S)(d:Dt)(k:Nat):aF Tryz.prog shape_Shape_Good.f [.ptr 10 0,.agg d.cells] S.lD k 0 (bl (S.good d)) S.lD:=ze S hu hs d n10 xP k
theorem Ll (S:Sh)(hs:jv S)(d:Dt)(k:Nat):aF Tryz.prog shape_Shape_Op.f [.ptr 10 0,.agg d.cells] S.lD k 0 (.dm [.agg (S.op d).cells,bl (MM.has S.ops d)]) S.lD:=
 S.at_ (xQ S hs d) (fun ρ=>by simp [SV.aT,SV.aC,Dt.ay]) (fun ρ=>by simp [SV.aT,SV.aC,ag.ay]) n10 xP k
abbrev Sh.N6 (S:Sh):Tr:=⟨2,0,1,S.tr,S.ct,S.md,S.cm⟩
abbrev Sh.h3 (S:Sh):Hp:=[(2,.box 166 [.mp 0,.mp 1]),(0,.map (au Dt.cells cv S.tr) S.ct),(1,.map (au Dt.cells ov S.md) S.cm)]
theorem Sh.Lm (S:Sh):S.N6.sep:=⟨by show (0:Nat)≠2;decide,by show (1:Nat)≠2;decide,by show (0:Nat)≠1;decide⟩
noncomputable def Sh.dL (S:Sh)(d:Dt):List Dt:=(nQ S.tr d).map (·.dot)
theorem C0 (S:Sh)(hu:S.tn)(d:Dt):∃ n,∃ e:Int,∀ k,aF Tryz.prog tree_Tree_Chain.f [.ptr 2 0,.agg d.cells] S.h3 k n (.dm [dn (S.dL d),.d (.int .i64 e)]) S.h3:=by
 obtain ⟨L,hL,hlen⟩:=hu d;refine ⟨6+L.length*(1+2),if MM.has S.tr d then 0 else 7,fun k=> ?_⟩;have h:=EX (T:=S.N6) S.Lm d L hL (by omega) k;have e:gH S.N6.at_ d L= .dm [dn (S.dL d),.d (.int .i64 (if MM.has S.tr d then 0 else 7))]:=by
  unfold gH Sh.dL;rw [gy hL];show (if MM.has S.tr d=true then _ else _)=_;unfold MM.has;cases hg:MM.get S.tr d with
  | none=>
   rw [hg] at hL;cases hL;rfl
  | some c=>
   rw [hg] at hL;cases L with
   | nil=>cases hL
   | cons x L=>simp [dn,aW]
 rw [e] at h;exact h
end
section
structure N7 (S:Sh)(ds:List Dt)(i:Nat)(G:OG)(kk:Nat):Prop where
 le:i≤ds.length
 pl:OG.pl G=(vr S (ds.take i)).lR
 ok:mJ G 15 kk
 lo:15≤kk
theorem Ga {A R:Hp}{n:Nat}(h:n∉A.map (·.1)):lk (A++R) n=lk R n:=by rw [jF,gf h,Option.none_or]
theorem rK {sp:SV}{S:Sh}{X:Ix}{es:List (Nat×SV×SV)}{R H:Hp}(h:∀ y,y∈Aa sp S X es []→lk H y.1=some y.2)(hR:∀ y,y∈R→lk H y.1=some y.2):∀ y,y∈Aa sp S X es R→lk H y.1=some y.2:=fun y hy=>by
 rcases List.mem_append.1 (show y∈Aa sp S X es []++R from hy) with hy | hy
 ·exact h y hy
 ·exact hR y hy
section
attribute [local irreducible] SW RW aF SC ai aq
set_option maxHeartbeats 16000000 in
theorem IT (S:Sh)(ds:List Dt)(hu:S.tn)(hs:jv S)(hds:ds.length<1000000)
    (hD:∀ k,aF Tryz.prog shape_Shape_Dots.f [.ptr 10 0] S.lD k 0 (aW ds) S.lD):SB Tryz.prog revoke_New.f [.ptr 10 0] S.lD 11 4 fun r F=>r= .ptr 14 0∧F=hX S (vr S ds):=by
  refine revoke_New.enter (by simp [SV.ax,SV.ok]) (Sh.od _ (Nat.le_refl 11)) (by simp) ?_;dsimp only [revoke_New.s,Co.M,Co.J,Co.N,Co.F,Co.Z,Co.b8,Co.av,Co.bF,Co.T,Co.K,Co.E,Co.L,Co.P,Co.Q,Co.x,Co.W,Co.Y,Co.V,Co.O,Co.D,Co.A,Co.I,Co.S];have hT:=bR.IE S;refine SW.seq ?_;refine SW.g0 [0,2,3,5,6,10,18,19,20,21,27,55,63] mixed af ?_;refine SW.seq (SW.seq ?_);refine SW.g1 [0,2,3,5,6,10,18,19,20,21,27,55,63] mixed af hT ?_;refine SW.ah rfl (SW.skip ?_);refine SW.seq ?_;have sp4:cN (cN (cN (cN [SV.d .j0,.d .jj,.d .jj,.d .jj] 0 [.ptr 10 0]) 1 [.mp 11]) 2 [.mp 12]) 3 [.mp 13]=[.ptr 10 0,.mp 11,.mp 12,.mp 13]:=rfl;refine SW.g0 [0,2,3,5,6,10,18,19,20,21,27,55,63] mixed (sp4) ?_;refine SW.seq (SW.seq ?_);refine SW.g1 [0,2,3,5,6,10,18,19,20,21,27,55,63] mixed af hD ?_;refine SW.block ?_;refine SW.loop (α:={p:Nat×OG×Nat // N7 S ds p.1 p.2.1 p.2.2}) (fun p=>⟨[(20,i64 p.1.1),(19,i64 ds.length),(18,aW ds),(3,.ptr 14 0),(0,.ptr 10 0)],Aa (.ptr 10 0) S (vr S (ds.take p.1.1)) (au Dt.cells gv p.1.2.1) (OG.tl p.1.2.1),p.1.2.2⟩) (fun p=>ds.length - p.1.1) ⟨(0,[],15),Nat.zero_le _,rfl,⟨by simp,by simp,by simp⟩,Nat.le_refl _⟩ id ?_ ?_
  · show aK 11 _ ⟨[(20,i64 (0:Nat)),(19,i64 ds.length),(18,aW ds),(3,.ptr 14 0),(0,.ptr 10 0)],Aa (.ptr 10 0) S Ix.zero (au Dt.cells gv []) [],15⟩ id
    exact aK.same (by show 11≤15;decide) (by simp [bp,List.lookup,SV.aC,SV.ok,SV.ax]) (ya S _ (Nat.le_refl _) rfl rfl rfl) (fun y hy=>by
      simp only [List.mem_cons,List.not_mem_nil,or_false] at hy;rcases hy with rfl | rfl | rfl | rfl | rfl | rfl | rfl | rfl | rfl | rfl | rfl <;> rfl)
  rintro ⟨⟨i,G,kk⟩,hi⟩;have hi:N7 S ds i G kk:=hi;obtain ⟨p1,p2,p3,p4⟩:=hi;dsimp only at*;have hI:=F6 S (ds.take i);have hwG:MM.wf G (vr S (ds.take i)).cf:=OG.MU (by rw [p2];exact hI.wf)
  by_cases h:i<ds.length
  · have h1 :decide ((i:Int)<ds.length)=true:=by simp only [decide_eq_true_eq];omega
    obtain ⟨d,hx⟩:=aZ h;have e2:IntKind.i64.wrap ((i:Int)+1)=((i+1:Nat):Int):=wrap_i64 _ (by omega);have htk:ds.take (i+1)=ds.take i++[d]:=bH hx;have hsn:vr S (ds.take (i+1))=Ix.step S (vr S (ds.take i)) d:=by rw [htk,zB]
    have hofl:∀ a,((MM.get (vr S (ds.take i)).lR a).getD []).length≤1000000:=fun a=>by
      rw [hI.lR];have h1:=List.length_filter_le (S.rv a) (ds.take i);have h2:=List.length_take_le i ds;have h3:(ds.take i).length≤ds.length:=by rw [List.length_take];omega
      omega
    clear hI;generalize vr S (ds.take i)=X at hsn p2 hwG hofl ⊢;have fk:=CZ p4;have fj:=CZ (show 15≤kk+1 by omega);have fl:=cQ (show kk+1≠kk by omega);have t0:List.lookup kk (OG.tl G)=none:=p3.out (.inr (Nat.le_refl _));have t1:List.lookup (kk+1) (OG.tl G)=none:=p3.out (.inr (by omega));refine SW.seq ?_;refine SW.g0 [0,2,3,5,6,10,18,19,20,21,27,55,63] mixed (h1) ?_;refine SW.seq (SW.aj rfl (SW.skip ?_));refine SW.seq (SW.block (SW.seq ?_));refine SW.g0 [0,2,3,5,6,10,18,19,20,21,27,55,63] mixed (And.intro (bW hx) (And.intro (fk) (t0))) ?_;refine SW.seq (SW.seq ?_);have hs1:HSub S.lD ((kk,.box 37 d.cells)::Aa (.ptr 10 0) S X (au Dt.cells gv G) (OG.tl G)):=sL (BW _ _ _ _ _) (yb S p4);have hG:=F_ S hu hs d
    (refine SW.bT [0,2,3,5,6,10,18,19,20,21,27,55,63] mixed ?_;(repeat (first | refine RW.ro (And.intro (fk) (t0)) (h:= ?_) | refine RW.skip (h:= ?_) | refine RW.op (And.intro (fk) (t0)) (h:= ?_) | refine RW.dD (And.intro (fk) (t0)) (h:= ?_) | refine RW.aY (h:= ?_) | (refine RW.aM (h:= ?_);(first | refine ai.mk (And.intro (fk) (t0)) (hs:=hs1) (hc:=hG _) (h:= ?_)))));refine RW.nil ⟨gU (by kernel_rfl),aq.mk (h:= ?_)⟩)
    have goOn:∀ (G':OG) (k':Nat) (env:List (Nat×SV)) (hp:Hp) (kz:Nat),OG.pl G'=(Ix.step S X d).lR→mJ G' 15 k'→k'≤kz→kk≤k'→(∀ y,y∈Aa (.ptr 10 0) S (Ix.step S X d) (au Dt.cells gv G') (OG.tl G')→lk hp y.1=some y.2)→bp id k' env [(20,i64 ((i+1:Nat):Int)),(19,i64 ds.length),(18,aW ds),(3,.ptr 14 0),(0,.ptr 10 0)]→
        ∃ (j:{p:Nat×OG×Nat // N7 S ds p.1 p.2.1 p.2.2}) (ρ:Nat→Nat),ds.length - j.1.1<ds.length - i∧aK 11 ⟨env,hp,kz⟩ ⟨[(20,i64 j.1.1),(19,i64 ds.length),(18,aW ds),(3,.ptr 14 0),(0,.ptr 10 0)],Aa (.ptr 10 0) S (vr S (ds.take j.1.1)) (au Dt.cells gv j.1.2.1) (OG.tl j.1.2.1),j.1.2.2⟩ ρ:=by
      intro G' k' env hp kz g1 g2 g3 g4 g5 g6;refine ⟨⟨(i+1,G',k'),by show i+1≤_;omega,by show OG.pl G'=(vr S (ds.take (i+1))).lR;rw [hsn];exact g1,g2,by show 15≤k';omega⟩,id,by show ds.length - (i+1)<_;omega,?_⟩;dsimp only;rw [hsn];exact aK.same (by show 11≤k';omega) g6 (ya S _ (by show 15≤k';omega) (by simp [SV.ok];omega) (xZ g2 (Nat.le_refl _)) (g2.xD (Nat.le_refl _))) g5
    rcases hgd:S.good d with _ | _
    · have hst:Ix.step S X d=X:=by unfold Ix.step;rw [hgd];rfl
      refine SW.aj rfl (SW.exit ?_);refine (?_:Sl.SW _ _ _ _ _ _);refine SW.g0 [0,2,3,5,6,10,18,19,20,21,27,55,63] mixed (e2) ?_;refine goOn G kk _ _ _ (by rw [hst];exact p2) p3 (by omega) (Nat.le_refl _) (rK (fun y hy=> ?_) fun y hy=> ?_) (by simp [bp,List.lookup,SV.aC,SV.ok,SV.ax];omega)
      · rw [hst] at hy
        simp only [List.mem_cons,List.not_mem_nil,or_false] at hy;rcases hy with rfl | rfl | rfl | rfl | rfl | rfl | rfl | rfl | rfl | rfl | rfl <;> simp [aa,fk]
      · obtain ⟨z,hz,rfl⟩:=List.mem_map.1 hy
        have hb:=p3.bd z hz;refine (Ga (A:=(kk,.box 37 d.cells)::Aa (.ptr 10 0) S X (au Dt.cells gv G) []) (R:=OG.tl G) ?_).trans (p3.Li hz);simp;omega
    · have hst:Ix.step S X d=X.put S d:=by unfold Ix.step;rw [hgd];rfl
      rw [hst] at hsn goOn;refine SW.ah rfl (SW.skip ?_);obtain ⟨o,ho⟩:∃ o,S.op d=o:=⟨_,rfl⟩;have hOp:=Ll S hs d;rw [ho] at hOp;have kd:o.cells[14]? =some (.d (.int .u8 o.kind)):=rfl;have cd:List.take 2 (List.drop 15 o.cells)=o.aN.cells:=rfl;have ad:List.take 2 (List.drop 21 o.cells)=o.at_.cells:=rfl;refine SW.seq ?_
      (have fx:=(And.intro (fk) (And.intro (fj) (And.intro (fl) (And.intro (t0) (t1)))));refine SW.bT [0,2,3,5,6,10,18,19,20,21,27,55,63] mixed ?_;(repeat (first | refine RW.ro fx (h:= ?_) | refine RW.skip (h:= ?_) | refine RW.op fx (h:= ?_) | refine RW.dD fx (h:= ?_) | refine RW.aY (h:= ?_) | (refine RW.aM (h:= ?_);(first | refine ai.mk fx (hs:=hs1) (hc:=hOp _) (h:= ?_)))));refine RW.nil ⟨gU (by kernel_rfl),aq.mk (h:= ?_)⟩)
      refine SW.seq ?_;refine SW.gK [0,2,3,5,6,10,18,19,20,21,27,55,63] mixed (And.intro (fk) (And.intro (fj) (And.intro (fl) (And.intro (t0) (And.intro (t1) (BJ X.ops X.co d o)))))) (And.intro fk (And.intro fj fl)) True.intro ?_;refine SW.seq ?_;obtain ⟨nc,ec,hch⟩:=C0 S hu o.aN;have hs2:HSub S.lD ((kk+1,.box 43 o.cells)::(kk,.box 37 d.cells)::Aa (.ptr 10 0) S { X with ops:=MM.put X.ops X.co d o,co:=MM.jl X.ops X.co d} (au Dt.cells gv G) (OG.tl G)):=sL (sL (BW _ _ _ _ _) (yb S p4)) (yb S (show 15≤kk+1 by omega));have hs3:HSub S.h3 ((kk+1,.box 43 o.cells)::(kk,.box 37 d.cells)::Aa (.ptr 10 0) S { X with ops:=MM.put X.ops X.co d o,co:=MM.jl X.ops X.co d} (au Dt.cells gv G) (OG.tl G)):=fun n ob hn=>hs2 n ob (HSub.cons (h:=S.lD) rfl (HSub.cons rfl (HSub.cons rfl (HSub.nil _))) n ob hn)
      (have fx:=(And.intro (fk) (And.intro (fj) (And.intro (fl) (And.intro (t0) (And.intro (t1) (And.intro (cd) (IS X.ch X.cc d (S.dL o.aN))))))));refine SW.bT [0,2,3,5,6,10,18,19,20,21,27,55,63] mixed ?_;(repeat (first | refine RW.ro fx (h:= ?_) | refine RW.skip (h:= ?_) | refine RW.op fx (h:= ?_) | refine RW.dD fx (h:= ?_) | refine RW.aY (h:= ?_) | (refine RW.aM (h:= ?_);(first | refine ai.mk fx (hs:=hs2) (hc:=hT _) (h:= ?_) | refine ai.mk fx (hs:=hs3) (hc:=hch _) (h:= ?_)))));refine RW.nil ⟨gU (by simp [rj,yy,gC,dA,List.range,List.range.loop,fk,fj,fl] <;> (first | decide | (repeat (first | assumption | refine ⟨?_,?_⟩ | exact .inl (by decide) | exact .inl (.inr (by decide)) | exact .inl (.inl (by decide)) | refine .inr ?_)))),aq.mk (h:= ?_)⟩)
      have hput:X.put S d=⟨MM.put X.ops X.co d o,MM.jl X.ops X.co d,if o.kind=0 then MM.put (MM.put X.ch X.cc d (S.dL o.aN)) (MM.jl X.ch X.cc d) d [] else MM.put X.ch X.cc d (S.dL o.aN),if o.kind=0 then MM.jl (MM.put X.ch X.cc d (S.dL o.aN)) (MM.jl X.ch X.cc d) d else MM.jl X.ch X.cc d,
          if o.kind=2 then MM.put X.lR X.cf o.at_ ((MM.get X.lR o.at_).getD []++[d]) else X.lR,if o.kind=2 then MM.jl X.lR X.cf o.at_ else X.cf⟩:=by unfold Ix.put Sh.dL;rw [ho]
      rw [hput] at goOn;clear hsn hput;have htl:∀ z,z∈G→(∀ (c0 c1 c2 c3 c4 c5 c6 c7 c8 c9 ca cb cc:Ob),lk ((kk+1,c0)::(kk,c1)::(14,c2)::(13,c3)::(12,c4)::(11,c5)::(10,c6)::(7,c7)::(8,c8)::(9,c9)::(2,ca)::(0,cb)::(1,cc)::OG.tl G) z.2.2.1=some (qd z.2.2.2)):=fun z hz=>by
        have hb:=p3.bd z hz;have hl:=p3.Li hz;have fn:=CZ hb.1;have f8:=cQ (show z.2.2.1≠kk by omega);have f9:=cQ (show z.2.2.1≠kk+1 by omega)
        intros
        simp only [aa,fn,f8,f9,if_false];exact hl
      have htail:∀ y,y∈OG.tl G→∀ (c0 c1 c2 c3 c4 c5 c6 c7 c8 c9 ca cb cc:Ob),lk ((kk+1,c0)::(kk,c1)::(14,c2)::(13,c3)::(12,c4)::(11,c5)::(10,c6)::(7,c7)::(8,c8)::(9,c9)::(2,ca)::(0,cb)::(1,cc)::OG.tl G) y.1=some y.2:=fun y hy=>by
        obtain ⟨z,hz,rfl⟩:=List.mem_map.1 hy;exact htl z hz
      by_cases h0:o.kind=0
      · have z0:(((o.kind:Nat):Int) == 0)=true:=by rw [h0];rfl
        have z2:(((o.kind:Nat):Int) == 2)=false:=by rw [h0];rfl
        simp only [h0,if_true,if_false,show ¬ (0:Nat)=2 by decide] at goOn;refine SW.seq (SW.seq ?_);refine SW.g0 [0,2,3,5,6,10,18,19,20,21,27,55,63] mixed (And.intro (fk) (And.intro (fj) (And.intro (fl) (And.intro (kd) (z0))))) ?_;refine SW.aj rfl ?_;refine SW.gK [0,2,3,5,6,10,18,19,20,21,27,55,63] mixed (And.intro (fk) (And.intro (fj) (And.intro (fl) (And.intro (t0) (And.intro (t1) (F5 (MM.put X.ch X.cc d (S.dL o.aN)) (MM.jl X.ch X.cc d) d)))))) (And.intro fk (And.intro fj fl)) True.intro ?_;refine SW.seq ?_;refine SW.g0 [0,2,3,5,6,10,18,19,20,21,27,55,63] mixed (And.intro (fk) (And.intro (fj) (And.intro (fl) (And.intro (kd) (z2))))) ?_;refine SW.ah rfl (SW.skip ?_);refine SW.g0 [0,2,3,5,6,10,18,19,20,21,27,55,63] mixed (e2) ?_;refine goOn G kk _ _ _ p2 p3 (by omega) (Nat.le_refl _) (rK (fun y hy=> ?_) fun y hy=> ?_) (by simp [bp,List.lookup,SV.aC,SV.ok,SV.ax];omega)
        · simp only [List.mem_cons,List.not_mem_nil,or_false] at hy
          rcases hy with rfl | rfl | rfl | rfl | rfl | rfl | rfl | rfl | rfl | rfl | rfl <;> simp [aa,fk,fj,fl]
        · exact htail y hy _ _ _ _ _ _ _ _ _ _ _ _ _
      have z0:(((o.kind:Nat):Int) == 0)=false:=by simpa using h0
      by_cases h2:o.kind=2
      · have z2:(((o.kind:Nat):Int) == 2)=true:=by rw [h2];rfl
        simp only [h0,if_true,if_false,h2,show ¬ (2:Nat)=0 by decide] at goOn;refine SW.seq (SW.seq ?_);refine SW.g0 [0,2,3,5,6,10,18,19,20,21,27,55,63] mixed (And.intro (fk) (And.intro (fj) (And.intro (fl) (And.intro (kd) (z0))))) ?_;refine SW.ah rfl (SW.skip ?_);refine SW.seq ?_;refine SW.g0 [0,2,3,5,6,10,18,19,20,21,27,55,63] mixed (And.intro (fk) (And.intro (fj) (And.intro (fl) (And.intro (kd) (z2))))) ?_;refine SW.aj rfl ?_;have hlG:=hofl o.at_;rw [← p2,OG.AV] at hlG;rw [← p2,OG.AV] at goOn;have fe:=tE (vs:=gv) (kc:=Dt.cells) hwG o.at_ (0,[]);have f1:gB (au Dt.cells gv G) (.d .aJ) (MM.idx G o.at_)=gv ((MM.get G o.at_).getD (0,[])):=iW (vs:=gv) (0,[]) G o.at_;have f2:qI (au Dt.cells gv G) X.cf (.agg o.at_.cells) (.d .aJ) (MM.idx G o.at_)= .map (au Dt.cells gv (MM.xx G X.cf o.at_ (0,[]))) (MM.jl G X.cf o.at_):=ur (vs:=gv) (kc:=Dt.cells) G X.cf o.at_ (0,[]);have f3:yt (au Dt.cells gv G) X.cf (MM.idx G o.at_)=MM.Mk G X.cf o.at_:=ox (vs:=gv) (kc:=Dt.cells) G X.cf o.at_;obtain ⟨kn,hkn⟩:∃ kn,kk+2+nc=kn:=⟨_,rfl⟩;rw [hkn];have gk:=CZ (show 15≤kn by omega);have gk0:=cQ (show kn≠kk by omega);have gk1:=cQ (show kn≠kk+1 by omega);have t2:List.lookup kn (OG.tl G)=none:=p3.out (.inr (by omega));rw [OG.Lh] at goOn;have NA:∀ (T:Hp) (m:Nat),15≤m→m<kk→∀ (ck c0 c1 c2 c3 c4 c5 c6 c7 c8 c9 ca cb cc:Ob),lk ((kn,ck)::(kk+1,c0)::(kk,c1)::(14,c2)::(13,c3)::(12,c4)::(11,c5)::(10,c6)::(7,c7)::(8,c8)::(9,c9)::(2,ca)::(0,cb)::(1,cc)::T) m=lk T m:=fun T m hm1 hm2=>by
          have fn:=CZ hm1;have f8:=cQ (show m≠kk by omega);have f9:=cQ (show m≠kk+1 by omega);have f7:=cQ (show m≠kn by omega)
          intros
          simp only [aa,fn,f8,f9,f7,if_false]
        cases hg:MM.get G o.at_ with
        | none=>
          rw [hg] at f1 goOn;simp only [Option.getD_none,Option.map_none,List.nil_append] at f1 goOn;change _=SV.d .aJ at f1;have fp:(au Dt.cells gv (MM.xx G X.cf o.at_ (0,[]))).modify (MM.pos G o.at_) (fun e=>(e.1,e.2.1,SV.gs kn 1))=au Dt.cells gv (MM.put G X.cf o.at_ (kn,[d])):=kC (vs:=gv) (kc:=Dt.cells) G X.cf o.at_ (0,[]) (kn,[d]);refine SW.gK [0,2,3,5,6,10,18,19,20,21,27,55,63] mixed (And.intro (fk) (And.intro (fj) (And.intro (fl) (And.intro (gk) (And.intro (gk0) (And.intro (gk1) (And.intro (t0) (And.intro (t1) (And.intro (t2) (And.intro (ad) (And.intro (fe) (And.intro (f1) (And.intro (f2) (And.intro (f3) (fp))))))))))))))) (And.intro fk (And.intro fj (And.intro fl (And.intro gk (And.intro gk0 gk1))))) True.intro ?_;refine SW.g0 [0,2,3,5,6,10,18,19,20,21,27,55,63] mixed (e2) ?_;have hok:=p3.put hwG.keys X.cf o.at_ [d] kn (kn+1) (by omega) (by omega) (by omega) (by simp);refine goOn (MM.put G X.cf o.at_ (kn,[d])) (kn+1) _ _ _ (OG.F7 _ _ _ _) hok (by omega) (by omega) (rK (fun y hy=> ?_) (p3.OK hwG.keys ?_ fun x hx _=> ?_)) (by simp [bp,List.lookup,SV.aC,SV.ok,SV.ax];omega)
          · simp only [List.mem_cons,List.not_mem_nil,or_false] at hy
            rcases hy with rfl | rfl | rfl | rfl | rfl | rfl | rfl | rfl | rfl | rfl | rfl <;> simp [aa,fk,fj,fl,gk,gk0,gk1]
          · rw [aa,if_pos rfl];rfl
          · have hb:=p3.bd x hx
            exact NA _ x.2.2.1 hb.1 hb.2 _ _ _ _ _ _ _ _ _ _ _ _ _ _
        | some g=>
          obtain ⟨n,L⟩:=g;obtain ⟨tt,hgm⟩:=MM.get_mem hg;have hLf:L≠[]:=p3.full _ hgm;have hnb:=p3.bd _ hgm;dsimp only at hnb;rw [hg] at f1 goOn hlG;simp only [Option.getD_some,Option.map_some] at f1 goOn hlG;rw [rI hLf] at f1;have fp:(au Dt.cells gv (MM.xx G X.cf o.at_ (0,[]))).modify (MM.pos G o.at_) (fun e=>(e.1,e.2.1,SV.gs kn (L.length+1)))=au Dt.cells gv (MM.put G X.cf o.at_ (kn,L++[d])):=by
            have:=kC (vs:=gv) (kc:=Dt.cells) G X.cf o.at_ (0,[]) (kn,L++[d])
            rwa [rI (show L++[d]≠[] by simp),show (L++[d]).length=L.length+1 by simp] at this
          have fn:=CZ hnb.1;have fn0:=cQ (show n≠kk by omega);have fn1:=cQ (show n≠kk+1 by omega);have fn2:=cQ (show n≠kn by omega);have t3:List.lookup n (OG.tl G)=some (.arr 37 2 L.length ((L.flatMap Dt.ds).map .d)):=p3.Li hgm;have t4:List.lookup kn (cM (OG.tl G) n)=none:=by
            show lk (cM (OG.tl G) n) kn=none;rw [dY,if_neg (by omega)];exact t2
          refine SW.gK [0,2,3,5,6,10,18,19,20,21,27,55,63] mixed (And.intro (fk) (And.intro (fj) (And.intro (fl) (And.intro (gk) (And.intro (gk0) (And.intro (gk1) (And.intro (fn) (And.intro (fn0) (And.intro (fn1) (And.intro (fn2) (And.intro (t0) (And.intro (t1) (And.intro (t2) (And.intro (t3) (And.intro (t4) (And.intro (ad) (And.intro (fe) (And.intro (f1) (And.intro (f2) (And.intro (f3) (fp))))))))))))))))))))) (And.intro fk (And.intro fj (And.intro fl (And.intro gk (And.intro gk0 (And.intro gk1 (And.intro fn (And.intro fn0 (And.intro fn1 fn2))))))))) True.intro ?_;refine SW.g0 [0,2,3,5,6,10,18,19,20,21,27,55,63] mixed (e2) ?_;have hok:=p3.put hwG.keys X.cf o.at_ (L++[d]) kn (kn+1) (by omega) (by omega) (by omega) (by simp);refine goOn (MM.put G X.cf o.at_ (kn,L++[d])) (kn+1) _ _ _ (OG.F7 _ _ _ _) hok (by omega) (by omega) (rK (fun y hy=> ?_) (p3.OK hwG.keys ?_ fun x hx hxa=> ?_)) (by simp [bp,List.lookup,SV.aC,SV.ok,SV.ax];omega)
          · simp only [List.mem_cons,List.not_mem_nil,or_false] at hy
            rcases hy with rfl | rfl | rfl | rfl | rfl | rfl | rfl | rfl | rfl | rfl | rfl <;> simp [aa,fk,fj,fl,gk,gk0,gk1]
          · rw [aa,if_pos rfl]
            simp [qd,Dt.lX]
          · have hb:=p3.bd x hx
            refine (NA _ x.2.2.1 hb.1 hb.2 _ _ _ _ _ _ _ _ _ _ _ _ _ _).trans ?_;rw [dY,if_neg];intro e;have:=F8 p3 hx hgm e;rw [this] at hxa;exact hxa rfl
      have z2:(((o.kind:Nat):Int) == 2)=false:=by simp;omega
      simp only [h0,if_false,h2] at goOn;refine SW.seq (SW.seq ?_);refine SW.g0 [0,2,3,5,6,10,18,19,20,21,27,55,63] mixed (And.intro (fk) (And.intro (fj) (And.intro (fl) (And.intro (kd) (z0))))) ?_;refine SW.ah rfl (SW.skip ?_);refine SW.seq ?_;refine SW.g0 [0,2,3,5,6,10,18,19,20,21,27,55,63] mixed (And.intro (fk) (And.intro (fj) (And.intro (fl) (And.intro (kd) (z2))))) ?_;refine SW.ah rfl (SW.skip ?_);refine SW.g0 [0,2,3,5,6,10,18,19,20,21,27,55,63] mixed (e2) ?_;refine goOn G kk _ _ _ p2 p3 (by omega) (Nat.le_refl _) (rK (fun y hy=> ?_) fun y hy=> ?_) (by simp [bp,List.lookup,SV.aC,SV.ok,SV.ax];omega)
      · simp only [List.mem_cons,List.not_mem_nil,or_false] at hy
        rcases hy with rfl | rfl | rfl | rfl | rfl | rfl | rfl | rfl | rfl | rfl | rfl <;> simp [aa,fk,fj,fl]
      · exact htail y hy _ _ _ _ _ _ _ _ _ _ _ _ _
  have h1:decide ((i:Int)<ds.length)=false:=by simp only [decide_eq_false_iff_not];omega
  have hi2:i=ds.length:=by omega
  subst hi2;rw [List.take_length] at*;obtain ⟨X,hXe⟩:∃ X,vr S ds=X:=⟨_,rfl⟩;rw [hXe] at p2 hwG hI ⊢;refine SW.seq ?_;refine SW.g0 [0,2,3,5,6,10,18,19,20,21,27,55,63] mixed (h1) ?_;refine SW.seq (SW.ah rfl (SW.exit ?_));refine (?_:Sl.SW _ _ _ _ _ _);have n9:(13::(Aa .any S X [] []).tail.tail.map (·.1)).Nodup:=by simp
  refine SW.weak id (st1:=⟨[(3,.ptr 14 0)],(13,.map (au Dt.cells dn (OG.pl [])++au Dt.cells gv G) X.cf)::(((14,.box 110 [.ptr 10 0,.mp 11,.mp 12,.mp 13])::(12,.map (au Dt.cells dn X.ch) X.cc)::(11,.map (au Dt.cells ov X.ops) X.co)::S.lD)++OG.tl G),kk⟩) (aK.same (by show 11≤kk;omega) (by simp [bp,List.lookup,SV.aC,SV.ok,SV.ax];omega) ?_ ?_) (SW.N5 (lo:=15) (by show 11≤kk;omega) p4 (by decide) ?_ (by simp) (by simp [SV.ok]) (by simp) G [] p3 (by simp) ?_)
  · have h:=ya (sp:= .ptr 10 0) S X p4 (by simp [SV.ok];omega) (xZ p3 (Nat.le_refl _)) (p3.xD (Nat.le_refl _))
    unfold Hp.ok at*;rw [List.all_eq_true] at h ⊢;refine fun y hy=>h y ?_
    simp only [List.cons_append,List.nil_append,List.mem_cons] at hy ⊢;rcases hy with h | h | h | h | h | h | h | h | h | h | h | h <;> simp [h,OG.pl,au]
  · intro y hy
    rw [List.mem_cons,List.mem_append] at hy;rcases hy with rfl | hy | hy
    · rfl
    · simp only [List.mem_cons,List.not_mem_nil,or_false] at hy
      rcases hy with rfl | rfl | rfl | rfl | rfl | rfl | rfl | rfl | rfl | rfl <;> rfl
    · obtain ⟨z,hz,rfl⟩:=List.mem_map.1 hy
      have hb:=p3.bd z hz;refine (Ga (A:=Aa (.ptr 10 0) S X (au Dt.cells gv G) []) (R:=OG.tl G) ?_).trans (p3.Li hz);simp;omega
  · exact an (by simp) (by simp [Ob.ok,SV.ax,SV.ok]) (an (by simp) (eB _ _) (an (by simp) (bq _ _) (Sh.od S (by decide))))
  · rw [p2]
    refine SW.Lk 14 (cs':=[.any,.mp 11,.mp 12,.mp 13]) rfl (fun p μ M vs h=> ?_) ?_
    · obtain ⟨u,us,e,h1,h2⟩:=aU.aD.1 h
      exact aU.aD.2 ⟨u,us,e,Rp.any,h2⟩
    · refine SW.weak id (st1:=⟨[(3,.ptr 14 0)],hX S X,15⟩) (aK.same (by show 11≤15;decide) (by simp [bp,List.lookup,SV.aC,SV.ok,SV.ax]) (JO S X (Nat.le_refl _)) (fun y hy=> ?_)) ?_
      · simp only [List.mem_cons,List.not_mem_nil,or_false] at hy
        rcases hy with rfl | rfl | rfl | rfl | rfl | rfl | rfl | rfl | rfl | rfl | rfl <;> rfl
      refine SW.seq ?_;refine SW.g0 [0,2,3,5,6,10,18,19,20,21,27,55,63] mixed af ?_;refine SW.ret ?_;exact End.mk (hX S X) (h4:=⟨rfl,rfl⟩) (h6:=JO S X (by decide))
end
end
end Go.Proofs.YtaelhkkjgfobhaaGreat
