/-
 Revoke: what an index holds (plain).
-/
import Derived.Test.YtaelhkkjgfobhaaGreatKL
import Derived.Test.YtaelhkkjgfobhaaGreatK6
import Derived.Test.YtaelhkkjgfobhaaGreatKV
set_option linter.unusedSectionVars false
set_option linter.unusedVariables false
set_option linter.unusedSimpArgs false
namespace Go.Proofs.YtaelhkkjgfobhaaGreat
open Go.Sl Go.Proofs
section
def dn:List Dt→SV
 | []=> .d .aU
 | d::L=>bS (d::L)
theorem H8 (ρ:Nat→Nat)(L:List Dt):(dn L).aC ρ=dn L:=by cases L <;> rfl
theorem JT (q:Nat→Bool)(L:List Dt):(dn L).ok q=true:=by cases L <;> rfl
theorem su (L:MM Dt (List Dt))(a:Dt):fH (an Dt.cells dn L) (.d .aU) (MM.idx L a)=dn ((MM.get L a).getD []):=iJ (vs:=dn) [] L a
theorem FY (L:MM Dt (List Dt))(c:Nat)(a:Dt)(v:List Dt):mq (an Dt.cells dn L) c (.agg a.cells) (dn v) (MM.idx L a)= .map (an Dt.cells dn (MM.put L c a v)) (MM.iU L c a):=jC (vs:=dn) L c a v
theorem DQ (L:MM Dt (List Dt))(c:Nat)(a:Dt):mq (an Dt.cells dn L) c (.agg a.cells) (.d .aU) (MM.idx L a)= .map (an Dt.cells dn (MM.put L c a [])) (MM.iU L c a):=jC (vs:=dn) L c a []
theorem gy (ρ:Nat→Nat)(L:MM Dt (List Dt)):(an Dt.cells dn L).map (fun e=>(e.1,e.2.1.aC ρ,e.2.2.aC ρ))=an Dt.cells dn L:=kV ρ L (fun a=>Dt.ax a ρ) (H8 ρ)
theorem dZ (q:Nat→Bool)(L:MM Dt (List Dt)):((an Dt.cells dn L).all fun e=>e.2.1.ok q && e.2.2.ok q)=true:=ny q L (fun a=>Dt.ai a q) (JT q)
noncomputable def Sh.kE (S:Sh)(o:ag):List Dt:=if o.kind=0 then [] else (mV S.tr o.aK).map (·.dot)
structure Ix where
 ops:MM Dt ag
 co:Nat
 ch:MM Dt (List Dt)
 cc:Nat
 jV:MM Dt (List Dt)
 cf:Nat
def Ix.zero:Ix:=⟨[],0,[],0,[],0⟩
noncomputable def Ix.put (S:Sh)(X:Ix)(d:Dt):Ix:=
 ⟨MM.put X.ops X.co d (S.op d),MM.iU X.ops X.co d,
  if (S.op d).kind=0 then MM.put (MM.put X.ch X.cc d ((mV S.tr (S.op d).aK).map (·.dot))) (MM.iU X.ch X.cc d) d [] else MM.put X.ch X.cc d ((mV S.tr (S.op d).aK).map (·.dot)),
  if (S.op d).kind=0 then MM.iU (MM.put X.ch X.cc d ((mV S.tr (S.op d).aK).map (·.dot))) (MM.iU X.ch X.cc d) d else MM.iU X.ch X.cc d,
  if (S.op d).kind=2 then MM.put X.jV X.cf (S.op d).at_ ((MM.get X.jV (S.op d).at_).getD []++[d]) else X.jV,
  if (S.op d).kind=2 then MM.iU X.jV X.cf (S.op d).at_ else X.cf⟩
noncomputable def Ix.step (S:Sh)(X:Ix)(d:Dt):Ix:=if S.good d then X.put S d else X
noncomputable def uf (S:Sh)(ds:List Dt):Ix:=ds.foldl (Ix.step S) Ix.zero
theorem xV (S:Sh)(ds:List Dt)(d:Dt):uf S (ds++[d])=Ix.step S (uf S ds) d:=by unfold uf;rw [List.foldl_append];rfl
noncomputable def Sh.rv (S:Sh)(a d:Dt):Bool:=S.good d && (decide ((S.op d).kind=2) && decide ((S.op d).at_=a))
structure H9 (S:Sh)(ds:List Dt)(X:Ix):Prop where
 wo:MM.wf X.ops X.co
 wc:MM.wf X.ch X.cc
 wf:MM.wf X.jV X.cf
 ops:∀ d,MM.get X.ops d=if d∈ds∧S.good d=true then some (S.op d) else none
 ch:∀ d,MM.get X.ch d=if d∈ds∧S.good d=true then some (S.kE (S.op d)) else none
 jV:∀ a,(MM.get X.jV a).getD []=ds.filter (S.rv a)
 full:∀ x,x∈X.jV→x.2.2≠[]
theorem Aa {K V:Type}[DecidableEq K]{m:MM K V}{c:Nat}{a:K}{v:V}{x:Nat×K×V}(hx:x∈MM.put m c a v):x∈m∨x.2.1=a∧x.2.2=v:=by
 unfold MM.put at hx
 split at hx
 ·rename_i i hi
  obtain ⟨y,hy,e,_⟩:=MM.rZ hi
  obtain ⟨j,hj⟩:=List.mem_iff_getElem?.1 hx
  rw [List.getElem?_modify] at hj
  by_cases h:i=j
  ·subst h
   rw [hy] at hj
   simp at hj
   subst hj
   exact .inr ⟨e,rfl⟩
  ·simp [h] at hj
   exact .inl (List.mem_of_getElem? hj)
 ·rcases List.mem_append.1 hx with h | h
  ·exact .inl h
  ·rw [List.mem_singleton] at h
   subst h
   exact .inr ⟨rfl,rfl⟩
theorem JU (S:Sh):∀ n (ds:List Dt),ds.length=n→H9 S ds (uf S ds):=by
  intro n
  induction n with
  | zero=>
    intro ds h
    rw [List.eq_nil_of_length_eq_zero h]
    exact ⟨MM.kB,MM.kB,MM.kB,fun d=>by simp [uf,Ix.zero,MM.get],fun d=>by simp [uf,Ix.zero,MM.get],fun a=>by simp [uf,Ix.zero,MM.get],fun x hx=>by simp [uf,Ix.zero] at hx⟩
  | succ n ih=>
    intro ds h
    have hne:ds≠[]:=fun e=>by rw [e] at h;cases h
    obtain ⟨t,d,rfl⟩:∃ t d,ds=t++[d]:=⟨ds.dropLast,ds.getLast hne,(List.dropLast_concat_getLast hne).symm⟩
    have hI:=ih t (by simp at h;exact h)
    rw [xV]
    generalize uf S t=X at hI ⊢
    unfold Ix.step
    cases hg:S.good d with
    | false=>
      rw [if_neg (by simp)]
      have hm:∀ x,(x∈t++[d]∧S.good x=true)↔(x∈t∧S.good x=true):=fun x=>by
        rw [List.mem_append,List.mem_singleton]
        constructor
        · rintro ⟨h1 | rfl,h2⟩
          · exact ⟨h1,h2⟩
          · rw [hg] at h2;cases h2
        · rintro ⟨h1,h2⟩
          exact ⟨.inl h1,h2⟩
      refine ⟨hI.wo,hI.wc,hI.wf,fun x=> ?_,fun x=> ?_,fun a=> ?_,hI.full⟩
      · rw [hI.ops];simp only [hm]
      · rw [hI.ch];simp only [hm]
      · rw [hI.jV,List.filter_append]
        have:S.rv a d=false:=by unfold Sh.rv;rw [hg];rfl
        simp [this]
    | true=>
      rw [if_pos rfl]
      have hm:∀ x,(x∈t++[d]∧S.good x=true)↔(x=d∨x∈t∧S.good x=true):=fun x=>by
        rw [List.mem_append,List.mem_singleton]
        constructor
        · rintro ⟨h1 | rfl,h2⟩
          · exact .inr ⟨h1,h2⟩
          · exact .inl rfl
        · rintro (rfl | ⟨h1,h2⟩)
          · exact ⟨.inr rfl,hg⟩
          · exact ⟨.inl h1,h2⟩
      refine ⟨MM.jm hI.wo _ _,?_,?_,fun x=> ?_,fun x=> ?_,fun a=> ?_,?_⟩
      · show MM.wf (if _ then _ else _) (if _ then _ else _)
        by_cases h0:(S.op d).kind=0
        · rw [if_pos h0,if_pos h0]
          exact MM.jm (MM.jm hI.wc _ _) _ _
        · rw [if_neg h0,if_neg h0]
          exact MM.jm hI.wc _ _
      · show MM.wf (if _ then _ else _) (if _ then _ else _)
        by_cases h0:(S.op d).kind=2
        · rw [if_pos h0,if_pos h0]
          exact MM.jm hI.wf _ _
        · rw [if_neg h0,if_neg h0]
          exact hI.wf
      · show MM.get (MM.put _ _ _ _) _=_
        rw [MM.fB]
        by_cases e:x=d
        · subst e
          rw [if_pos rfl,if_pos ((hm x).2 (.inl rfl))]
        · rw [if_neg e,hI.ops]
          simp only [hm,e,false_or]
      · show MM.get (if _ then _ else _) _=_
        have hch:MM.get (if (S.op d).kind=0 then MM.put (MM.put X.ch X.cc d ((mV S.tr (S.op d).aK).map (·.dot))) (MM.iU X.ch X.cc d) d [] else MM.put X.ch X.cc d ((mV S.tr (S.op d).aK).map (·.dot))) x=if x=d then some (S.kE (S.op d)) else MM.get X.ch x:=by
          unfold Sh.kE
          by_cases h0:(S.op d).kind=0
          · rw [if_pos h0,if_pos h0,MM.fB,MM.fB]
            by_cases e:x=d <;> simp [e]
          · rw [if_neg h0,if_neg h0,MM.fB]
        rw [hch]
        by_cases e:x=d
        · subst e
          rw [if_pos rfl,if_pos ((hm x).2 (.inl rfl))]
        · rw [if_neg e,hI.ch]
          simp only [hm,e,false_or]
      · show (MM.get (if _ then _ else _) _).getD []=_
        rw [List.filter_append]
        by_cases h0:(S.op d).kind=2
        · rw [if_pos h0,MM.fB]
          by_cases e:a=(S.op d).at_
          · have:S.rv a d=true:=by unfold Sh.rv;rw [hg,h0,e];simp
            rw [if_pos e]
            subst e
            rw [hI.jV]
            simp [this]
          · have:S.rv a d=false:=by unfold Sh.rv;rw [hg,h0];simp [show ¬ (S.op d).at_=a from fun h=>e h.symm]
            rw [if_neg e,hI.jV]
            simp [this]
        · have:S.rv a d=false:=by unfold Sh.rv;simp [h0]
          rw [if_neg h0,hI.jV]
          simp [this]
      · intro x hx
        have hx:x∈(if (S.op d).kind=2 then MM.put X.jV X.cf (S.op d).at_ ((MM.get X.jV (S.op d).at_).getD []++[d]) else X.jV):=hx
        by_cases h0:(S.op d).kind=2
        · rw [if_pos h0] at hx
          rcases Aa hx with hx | ⟨_,hx⟩
          · exact hI.full x hx
          · rw [hx];simp
        · rw [if_neg h0] at hx
          exact hI.full x hx
theorem DR (S:Sh)(ds:List Dt):H9 S ds (uf S ds):=JU S _ ds rfl
end
section
abbrev OG:=MM Dt (Nat×List Dt)
def gv:Nat×List Dt→SV
 | (_,[])=> .d .aU
 | (n,d::L)=> .gs n (d::L).length
theorem p_ {n:Nat}{L:List Dt}(h:L≠[]):gv (n,L)= .gs n L.length:=by
 cases L with
 | nil=>exact absurd rfl h
 | cons d L=>rfl
def oE (L:List Dt):Ob:= .arr 37 2 L.length ((L.flatMap Dt.ds).map .d)
def OG.pl (G:OG):MM Dt (List Dt):=G.map fun x=>(x.1,x.2.1,x.2.2.2)
def OG.tl (G:OG):Hp:=G.map fun x=>(x.2.2.1,oE x.2.2.2)
structure lB (G:OG)(lo kk:Nat):Prop where
 nd:(G.map (·.2.2.1)).Nodup
 bd:∀ x,x∈G→lo≤x.2.2.1∧x.2.2.1<kk
 full:∀ x,x∈G→x.2.2.2≠[]
theorem lB.more {G:OG}{lo kk k':Nat}(h:lB G lo kk)(hk:kk≤k'):lB G lo k':=⟨h.nd,fun x hx=>⟨(h.bd x hx).1,by have:=(h.bd x hx).2;omega⟩,h.full⟩
theorem OG.H_ (G:OG)(a:Dt):MM.idx G.pl a=MM.idx G a:=by
 unfold MM.idx OG.pl
 rw [List.findIdx?_map]
 rfl
theorem OG.yU (G:OG)(a:Dt):MM.get G.pl a=(MM.get G a).map (·.2):=by
 unfold MM.get OG.pl
 rw [List.find?_map,Option.map_map,Option.map_map]
 rfl
theorem OG.Ia (G:OG)(a:Dt):MM.has G.pl a=MM.has G a:=by unfold MM.has;rw [OG.yU,Option.isSome_map]
theorem OG.DS (G:OG)(c:Nat)(a:Dt)(v:Nat×List Dt):OG.pl (MM.put G c a v)=MM.put G.pl c a v.2:=by
 unfold MM.put
 rw [OG.H_]
 cases MM.idx G a with
 | none=>simp [OG.pl]
 | some i=>
  unfold OG.pl
  apply List.ext_getElem?
  intro j
  simp only [List.getElem?_map,List.getElem?_modify]
  cases G[j]? with
  | none=>simp
  | some x=>by_cases e:i=j <;> simp [e]
theorem OG.Ib (G:OG)(c:Nat)(a:Dt):MM.iU G.pl c a=MM.iU G c a:=by unfold MM.iU;rw [OG.Ia]
theorem OG.JV {G:OG}{c:Nat}(h:MM.wf G.pl c):MM.wf G c:=by
 have e1:MM.keys G.pl=MM.keys G:=by unfold MM.keys OG.pl;rw [List.map_map];rfl
 have e2:G.pl.map (·.1)=G.map (·.1):=by unfold OG.pl;rw [List.map_map];rfl
 refine ⟨by rw [← e1];exact h.keys,by rw [← e2];exact h.times,fun x hx=> ?_⟩
 exact h.old (x.1,x.2.1,x.2.2.2) (List.mem_map.2 ⟨x,hx,rfl⟩)
theorem OG.tQ (G:OG):G.tl.map (·.1)=G.map (·.2.2.1):=by unfold OG.tl;rw [List.map_map];rfl
theorem lB.Ic {G:OG}{lo kk:Nat}(h:lB G lo kk){x:Nat×Dt×(Nat×List Dt)}(hx:x∈G):lk G.tl x.2.2.1=some (oE x.2.2.2):=
 aH (by rw [OG.tQ];exact h.nd) (x.2.2.1,oE x.2.2.2) (List.mem_map.2 ⟨x,hx,rfl⟩)
theorem lB.out {G:OG}{lo kk n:Nat}(h:lB G lo kk)(hn:n<lo∨kk≤n):lk G.tl n=none:=by
 refine ff fun hm=> ?_
 rw [OG.tQ] at hm
 obtain ⟨x,hx,e⟩:=List.mem_map.1 hm
 have:=h.bd x hx
 omega
theorem lB.rR {G:OG}{lo kk k:Nat}(h:lB G lo kk)(hk:kk≤k):G.tl.ok (fun n=>decide (n<k))=true:=by
 unfold Hp.ok OG.tl
 rw [List.all_eq_true]
 intro y hy
 obtain ⟨x,hx,rfl⟩:=List.mem_map.1 hy
 have:=(h.bd x hx).2
 simp only [oE,Ob.ok,SV.bh,Bool.and_true,decide_eq_true_eq]
 omega
theorem wz {G:OG}{lo kk k:Nat}(h:lB G lo kk)(hk:kk≤k):((an Dt.cells gv G).all fun e=>e.2.1.ok (fun n=>decide (n<k)) && e.2.2.ok (fun n=>decide (n<k)))=true:=by
 rw [List.all_eq_true]
 intro y hy
 obtain ⟨x,hx,rfl⟩:=eY hy
 have:=(h.bd x hx).2
 dsimp only
 obtain ⟨t,a,n,L⟩:=x
 rw [p_ (h.full _ hx)]
 simp only [SV.ok,Dt.ai,Bool.true_and,decide_eq_true_eq]
 dsimp only at this
 omega
theorem tR {K V:Type}[DecidableEq K]{m:MM K V}(hk:(MM.keys m).Nodup){c:Nat}{a:K}{v:V}{x:Nat×K×V}(hx:x∈MM.put m c a v):(x∈m∧x.2.1≠a)∨x.2.1=a∧x.2.2=v:=by
 by_cases e:x.2.1=a
 ·refine .inr ⟨e,?_⟩
  have hk2:(MM.keys (MM.put m c a v)).Nodup:=by
   rw [MM.pJ]
   split
   ·exact hk
   ·rename_i hh
    rw [List.nodup_append]
    refine ⟨hk,by simp,fun y hy z hz=> ?_⟩
    simp only [List.mem_singleton] at hz
    subst hz
    intro e2
    subst e2
    exact hh (MM.iV.2 hy)
  have h1:=mem_get2 hk2 hx
  rw [e,MM.fB,if_pos rfl] at h1
  injection h1 with h1
  exact h1.symm
 ·rcases Aa hx with h | ⟨h,_⟩
  ·exact .inl ⟨h,e⟩
  ·exact absurd h e
 where
 mem_get2 {K V:Type} [DecidableEq K] {m:MM K V} (hk:(MM.keys m).Nodup) {x:Nat×K×V} (hx:x∈m):MM.get m x.2.1=some x.2.2:=MM.get_of_mem hk (t:=x.1) hx
theorem lB.put {G:OG}{lo kk:Nat}(h:lB G lo kk)(hk:(MM.keys G).Nodup)(c:Nat)(a:Dt)(L:List Dt)(n k':Nat)(hn:kk≤n)(hlo:lo≤n)(hk':n<k')(hL:L≠[]):lB (MM.put G c a (n,L)) lo k':=by
 refine ⟨?_,fun x hx=> ?_,fun x hx=> ?_⟩
 ·unfold MM.put
  cases hi:MM.idx G a with
  | none=>
   dsimp only
   rw [List.map_append,List.nodup_append]
   refine ⟨h.nd,by simp,fun y hy z hz=> ?_⟩
   obtain ⟨x,hx,rfl⟩:=List.mem_map.1 hy
   simp at hz
   have:=(h.bd x hx).2
   omega
  | some i=>
   dsimp only
   rw [List.nodup_iff_pairwise_ne,List.pairwise_iff_getElem]
   have hp:=List.pairwise_iff_getElem.1 (List.nodup_iff_pairwise_ne.1 h.nd)
   intro p q hp1 hq1 hpq
   simp only [List.length_map,List.length_modify] at hp1 hq1
   have fm:=hp p q (by simpa using hp1) (by simpa using hq1) hpq
   simp only [List.getElem_map,List.getElem_modify] at fm ⊢
   have b1:=(h.bd G[p] (List.getElem_mem _)).2
   have b2:=(h.bd G[q] (List.getElem_mem _)).2
   by_cases e1:i=p
   ·by_cases e2:i=q
    ·omega
    ·rw [if_pos e1,if_neg e2];show n≠_;omega
   ·by_cases e2:i=q
    ·rw [if_neg e1,if_pos e2];show _≠n;omega
    ·rw [if_neg e1,if_neg e2];exact fm
 ·rcases tR hk hx with ⟨h1,_⟩ | ⟨_,h1⟩
  ·have:=h.bd x h1;omega
  ·rw [h1];exact ⟨hlo,hk'⟩
 ·rcases tR hk hx with ⟨h1,_⟩ | ⟨_,h1⟩
  ·exact h.full x h1
  ·rw [h1];exact hL
theorem DT {G:OG}{lo kk:Nat}(h:lB G lo kk){x y:Nat×Dt×(Nat×List Dt)}(hx:x∈G)(hy:y∈G)(e:x.2.2.1=y.2.2.1):x=y:=by
 have hp:=List.pairwise_iff_getElem.1 (List.nodup_iff_pairwise_ne.1 h.nd)
 obtain ⟨i,hi,rfl⟩:=List.getElem_of_mem hx
 obtain ⟨j,hj,rfl⟩:=List.getElem_of_mem hy
 rcases Nat.lt_trichotomy i j with hij | hij | hij
 ·have:=hp i j (by simpa using hi) (by simpa using hj) hij
  simp only [List.getElem_map] at this
  exact absurd e this
 ·subst hij;rfl
 ·have:=hp j i (by simpa using hj) (by simpa using hi) hij
  simp only [List.getElem_map] at this
  exact absurd e.symm this
theorem lB.Lh {G:OG}{lo kk:Nat}(h:lB G lo kk)(hk:(MM.keys G).Nodup){c:Nat}{a:Dt}{L:List Dt}{n:Nat}{H:Hp}(h1:lk H n=some (oE L))(h2:∀ x,x∈G→x.2.1≠a→lk H x.2.2.1=lk G.tl x.2.2.1):∀ y,y∈OG.tl (MM.put G c a (n,L))→lk H y.1=some y.2:=by
 intro y hy
 obtain ⟨x,hx,rfl⟩:=List.mem_map.1 hy
 rcases tR hk hx with ⟨g1,g2⟩ | ⟨_,g1⟩
 ·show lk H x.2.2.1=some (oE x.2.2.2)
  rw [h2 x g1 g2]
  exact h.Ic g1
 ·show lk H x.2.2.1=some (oE x.2.2.2)
  rw [g1]
  exact h1
mutual
theorem SV.qa {n len:Nat}{ds:List DV}{q:Nat→Bool}(hq:q n=false):∀ (s:SV),s.ok q=true→s.iB n len ds=s
 | .gs m l,h=>by
  simp only [SV.iB]
  rw [if_neg]
  intro e
  subst e
  simp only [SV.ok] at h
  rw [hq] at h;cases h
 | .agg cs,h=>by simp only [SV.iB];rw [SV.lC hq cs (by simpa only [SV.ok] using h)]
 | .dM cs,h=>by simp only [SV.iB];rw [SV.lC hq cs (by simpa only [SV.ok] using h)]
 | .d _,_=>rfl
 | .ptr _ _,_=>rfl
 | .vp _ _,_=>rfl
 | .bs _ _ _,_=>rfl
 | .mp _,_=>rfl
 | .it _,_=>rfl
 | .fn _ _ _,_=>rfl
 | .yl _,_=>rfl
 | .any,_=>rfl
theorem SV.lC {n len:Nat}{ds:List DV}{q:Nat→Bool}(hq:q n=false):∀ (s:List SV),SV.ay q s=true→SV.rP n len ds s=s
 | [],_=>rfl
 | c::cs,h=>by
  simp only [SV.ay,Bool.and_eq_true] at h
  simp only [SV.rP]
  rw [SV.qa hq c h.1,SV.lC hq cs h.2]
end
theorem qU {n len:Nat}{ds:List DV}{q:Nat→Bool}(hq:q n=false){es:List (Nat×SV×SV)}(h:(es.all fun e=>e.2.1.ok q && e.2.2.ok q)=true):es.map (fun e=>(e.1,e.2.1,e.2.2.iB n len ds))=es:=by
 conv=>rhs;rw [← List.map_id es]
 refine List.map_congr_left fun e he=> ?_
 have:=List.all_eq_true.1 h e he
 simp only [Bool.and_eq_true] at this
 rw [SV.qa hq _ this.2];rfl
theorem Ob.qa {n len:Nat}{ds:List DV}{q:Nat→Bool}(hq:q n=false)(o:Ob)(h:o.ok q=true):o.iB n len ds=o:=by
 cases o with
 | box t cs=>simp only [Ob.iB];rw [SV.lC hq cs (by simpa only [Ob.ok] using h)]
 | map es c=>simp only [Ob.iB];rw [qU hq (by simpa only [Ob.ok] using h)]
 | _=>rfl
theorem DU {n len:Nat}{ds:List DV}{q:Nat→Bool}(hq:q n=false){env:List (Nat×SV)}(h:(env.all fun x=>x.2.ok q)=true):kQ n len ds env=env:=by
 unfold kQ
 conv=>rhs;rw [← List.map_id env]
 refine List.map_congr_left fun e he=> ?_
 rw [SV.qa hq _ (List.all_eq_true.1 h e he)];rfl
theorem aY.refl {k:Nat}:∀ {Ie env:List (Nat×SV)},(∀ t s,env.lookup t=some s→Ie.lookup t=some s)→(env.all fun x=>x.2.ok fun n=>decide (n<k))=true→(env.map (·.1)).Nodup→aY id k Ie env
 | _,[],_,_,_=>trivial
 | Ie, (t,s)::env,h,hok,nq=>by
  simp only [List.all_cons,Bool.and_eq_true] at hok
  rw [List.map_cons,List.nodup_cons] at nq
  simp only [aY]
  refine ⟨?_,hok.1,aY.refl (fun u x hx=> ?_) hok.2 nq.2⟩
  ·rw [h t s (by simp [List.lookup])];simp [SV.mM]
  ·refine h u x ?_
   rw [List.lookup_cons]
   have:(u == t)=false:=by
    rw [beq_eq_false_iff_ne]
    intro e
    subst e
    refine nq.1 ?_
    have hm:=List.lookup_eq_some_iff.1 hx
    obtain ⟨a,b,e,_⟩:=hm
    rw [e];simp
   rw [this];exact hx
section
variable {P:Program} {N k0:Nat} {Q:Exit→St→Prop}
theorem SW.Ig {s:bX}{st:St}(n:Nat){t:Nat}{cs cs':List SV}(hn:lk st.hp n=some (.box t cs))(hw:∀ (p:Nat→Prop) (μ:Nat→Nm) (M:Mem) (vs:List Value),aR p μ M cs vs→aR p μ M cs' vs)(h:Go.Sl.SW P N k0 s ⟨st.env,gw st.hp n (.box t cs'),st.k⟩ Q):Go.Sl.SW P N k0 s st Q:=by
 intro c hc rd hrf cE M0 w0 c0 a w eO
 refine h c hc rd hrf cE M0 w0 c0 a w ?_
 obtain ⟨mH,hdf,hsz,μ,M,fQ,hS,hE⟩:=eO
 have hlk:∀ m,lk (gw st.hp n (.box t cs')) m≠none→lk st.hp m≠none:=fun m hm=>by
  rw [rY] at hm
  by_cases e:m=n
  ·rw [e,hn];simp
  ·rwa [if_neg e] at hm
 refine ⟨mH,hdf,hsz,μ,M,fQ,⟨⟨hS.mem.cell,hS.mem.j9⟩,fun m ob hm=> ?_,fun m m' hm hm'=>hS.inj m m' (hlk m hm) (hlk m' hm')⟩,hE.wN hlk⟩
 rw [rY] at hm
 by_cases e:m=n
 ·rw [if_pos e] at hm
  injection hm with hm
  subst hm;subst e
  obtain ⟨a1,a2,a3⟩:=hS.obs _ _ hn
  refine ⟨a1,?_,a3⟩
  simp only [bW] at a2 ⊢
  obtain ⟨b1,vs,b2,b3⟩:=a2
  exact ⟨b1,vs,b2,hw _ _ _ _ b3⟩
 ·rw [if_neg e] at hm
  exact hS.obs m ob hm
theorem SW.KZ {s:bX}{X:Hp}{mf cf lo k:Nat}{env:List (Nat×SV)}(mH:k0≤k)(hlo:lo≤k)(LJ:mf<lo)(hX:X.ok (fun n=>decide (n<lo))=true)(nq:(mf::X.map (·.1)).Nodup)(he:(env.all fun x=>x.2.ok fun n=>decide (n<lo))=true)(yg:(env.map (·.1)).Nodup):
  ∀ (B A:OG),lB B lo k→(∀ x,x∈A→x.2.2.2≠[])→Go.Sl.SW P N k0 s ⟨env,(mf,.map (an Dt.cells dn (OG.pl A++OG.pl B)) cf)::X,k⟩ Q→Go.Sl.SW P N k0 s ⟨env,(mf,.map (an Dt.cells dn (OG.pl A)++an Dt.cells gv B) cf)::(X++OG.tl B),k⟩ Q:=by
 intro B
 induction B with
 | nil=>
  intro A _ _ h
  simpa [OG.pl,OG.tl,an] using h
 | cons x B ih=>
  intro A hB hA h
  obtain ⟨t,a,n,L⟩:=x
  have hb:=hB.bd _ (List.mem_cons_self ..)
  dsimp only at hb
  have hL:L≠[]:=hB.full _ (List.mem_cons_self ..)
  have hB':lB B lo k:=⟨(List.nodup_cons.1 hB.nd).2,fun y hy=>hB.bd y (List.mem_cons_of_mem _ hy),fun y hy=>hB.full y (List.mem_cons_of_mem _ hy)⟩
  have hnB:∀ y,y∈B→y.2.2.1≠n:=fun y hy e=>(List.nodup_cons.1 hB.nd).1 (List.mem_map.2 ⟨y,hy,e⟩)
  have hq:(fun m=>decide (m<lo)) n=false:=by simp only [decide_eq_false_iff_not];omega
  have hXn:∀ y,y∈X→y.1<lo:=fun y hy=>by
   have:=List.all_eq_true.1 hX y hy
   simp only [Bool.and_eq_true,decide_eq_true_eq] at this
   exact this.1
  have htl:∀ G:OG,(∀ y,y∈G→lo≤y.2.2.1)→∀ m,m<lo→lk (OG.tl G) m=none:=fun G hG m hm=>ff fun hh=>by
   rw [OG.tQ] at hh
   obtain ⟨y,hy,e⟩:=List.mem_map.1 hh
   have:=hG y hy
   omega
  have hXl:∀ m,lo≤m→lk X m=none:=fun m hm=>ff fun hh=>by
   obtain ⟨y,hy,e⟩:=List.mem_map.1 hh
   have:=hXn y hy
   omega
  have hlkn:lk ((mf,Ob.map (an Dt.cells dn (OG.pl A)++an Dt.cells gv ((t,a,n,L)::B)) cf)::(X++OG.tl ((t,a,n,L)::B))) n=some (.arr 37 2 L.length ((L.flatMap Dt.ds).map .d)):=by
   rw [aa,if_neg (by omega),dB,hXl n hb.1,Option.none_or]
   exact hB.Ic (x:=(t,a,n,L)) (List.mem_cons_self ..)
  refine SW.pP n (L.flatMap Dt.ds) hlkn rfl ?_
  rw [DU hq he]
  have hlen:(L.flatMap Dt.ds)=(L.flatMap Dt.ds):=rfl
  have hAB:OG.pl A++OG.pl ((t,a,n,L)::B)=OG.pl (A++[(t,a,n,L)])++OG.pl B:=by simp [OG.pl]
  rw [hAB] at h
  refine SW.weak id (st1:=⟨env,(mf,.map (an Dt.cells dn (OG.pl (A++[(t,a,n,L)]))++an Dt.cells gv B) cf)::(X++OG.tl B),k⟩) (aJ.same mH (aY.refl (fun _ _ h=>h) ?_ yg) ?_ ?_) (ih (A++[(t,a,n,L)]) hB' (fun y hy=> ?_) h)
  ·rw [List.all_eq_true] at he ⊢
   exact fun y hy=>SV.eT (fun m hm=>by simp only [decide_eq_true_eq] at *;omega) _ (he y hy)
  ·refine av (by simp only [decide_eq_true_eq];omega) ?_ ?_
   ·show (an Dt.cells dn (OG.pl (A++[(t,a,n,L)]))++an Dt.cells gv B).all _=true
    rw [List.all_append,wz hB' (Nat.le_refl _),Bool.and_true]
    exact dZ _ _
   ·have h1:=Hp.bE hlo hX
    have h2:=hB'.rR (Nat.le_refl k)
    unfold Hp.ok at*
    rw [List.all_append,h1,h2];rfl
  ·intro y hy
   have wV:∀ m,m≠n→lk (yy n L.length (L.flatMap Dt.ds) (di ((mf,Ob.map (an Dt.cells dn (OG.pl A)++an Dt.cells gv ((t,a,n,L)::B)) cf)::(X++OG.tl ((t,a,n,L)::B))) n)) m=(lk ((mf,Ob.map (an Dt.cells dn (OG.pl A)++an Dt.cells gv ((t,a,n,L)::B)) cf)::(X++OG.tl ((t,a,n,L)::B))) m).map (Ob.iB n L.length (L.flatMap Dt.ds)):=fun m hm=>by
    rw [zJ,cR,if_neg hm]
   rcases List.mem_cons.1 hy with rfl | hy
   ·show lk _ mf=_
    rw [wV mf (by omega),aa,if_pos rfl]
    have e1:(an Dt.cells dn (OG.pl A)).map (fun e=>(e.1,e.2.1,e.2.2.iB n L.length (L.flatMap Dt.ds)))=an Dt.cells dn (OG.pl A):=qU (q:=fun _=>false) rfl (dZ _ _)
    have e2:(an Dt.cells gv B).map (fun e=>(e.1,e.2.1,e.2.2.iB n L.length (L.flatMap Dt.ds)))=an Dt.cells gv B:=by
     conv=>rhs;rw [← List.map_id (an Dt.cells gv B)]
     refine List.map_congr_left fun e he=> ?_
     obtain ⟨y,hy,rfl⟩:=eY he
     obtain ⟨t',a',n',L'⟩:=y
     have:=hnB _ hy
     dsimp only at this
     rw [p_ (hB'.full _ hy)]
     simp only [SV.iB,if_neg this];rfl
    have e3:(gv (n,L)).iB n L.length (L.flatMap Dt.ds)=dn L:=by
     rw [p_ hL]
     simp only [SV.iB,if_true]
     cases L with
     | nil=>exact absurd rfl hL
     | cons d L=>rfl
    simp only [Option.map_some,Ob.iB,List.map_append,e1]
    have e4:an Dt.cells gv ((t,a,n,L)::B)=(t,SV.agg a.cells,gv (n,L))::an Dt.cells gv B:=rfl
    rw [e4,List.map_cons,e2,e3]
    simp [OG.pl,an]
   ·rcases List.mem_append.1 hy with hy | hy
    ·have hlt:=hXn y hy
     have hne:y.1≠mf:=fun e=>(List.nodup_cons.1 nq).1 (by rw [← e];exact List.mem_map.2 ⟨y,hy,rfl⟩)
     rw [wV y.1 (by omega),aa,if_neg hne,dB,aH (List.nodup_cons.1 nq).2 y hy]
     have hok:=List.all_eq_true.1 hX y hy
     simp only [Bool.and_eq_true] at hok
     simp only [Option.some_or,Option.map_some]
     rw [Ob.qa hq _ hok.2]
    ·obtain ⟨z,hz,rfl⟩:=List.mem_map.1 hy
     have hz1:=hnB z hz
     have hz2:=(hB'.bd z hz).1
     rw [wV _ hz1,aa,if_neg (by show z.2.2.1≠mf;omega),dB,hXl _ hz2,Option.none_or]
     rw [show lk (OG.tl ((t,a,n,L)::B)) z.2.2.1=some (oE z.2.2.2) from hB.Ic (List.mem_cons_of_mem _ hz)]
     rfl
  ·rcases List.mem_append.1 hy with hy | hy
   ·exact hA y hy
   ·rw [List.mem_singleton] at hy;rw [hy];exact hL
end
end
section
theorem Bb {k:Nat}(h:15≤k):((k == 0)=false∧(0 == k)=false∧(k=0)=False∧(0=k)=False)∧((k == 1)=false∧(1 == k)=false∧(k=1)=False∧(1=k)=False)∧((k == 2)=false∧(2 == k)=false∧(k=2)=False∧(2=k)=False)∧((k == 7)=false∧(7 == k)=false∧(k=7)=False∧(7=k)=False)∧((k == 8)=false∧(8 == k)=false∧(k=8)=False∧(8=k)=False)∧((k == 9)=false∧(9 == k)=false∧(k=9)=False∧(9=k)=False)∧((k == 10)=false∧(10 == k)=false∧(k=10)=False∧(10=k)=False)∧((k == 11)=false∧(11 == k)=false∧(k=11)=False∧(11=k)=False)∧((k == 12)=false∧(12 == k)=false∧(k=12)=False∧(12=k)=False)∧((k == 13)=false∧(13 == k)=false∧(k=13)=False∧(13=k)=False)∧((k == 14)=false∧(14 == k)=false∧(k=14)=False∧(14=k)=False):=⟨bA (by omega),bA (by omega),bA (by omega),bA (by omega),bA (by omega),bA (by omega),bA (by omega),bA (by omega),bA (by omega),bA (by omega),bA (by omega)⟩
abbrev yb (sp:SV)(S:Sh)(X:Ix)(jV:List (Nat×SV×SV))(R:Hp):Hp:=(14,.box 110 [sp,.mp 11,.mp 12,.mp 13])::(13,.map jV X.cf)::(12,.map (an Dt.cells dn X.ch) X.cc)::(11,.map (an Dt.cells ov X.ops) X.co)::
 (10,.box 117 [.ptr 2 0,.mp 7,.mp 8,.mp 9])::(7,.map (an Dt.cells ov S.ops) S.co)::(8,.map (an Dt.cells iv S.gf) S.ca)::(9,.map (an Dt.cells dv S.mA) S.cl)::(2,.box 166 [.mp 0,.mp 1])::(0,.map (an Dt.cells cv S.tr) S.ct)::(1,.map (an Dt.cells ov S.md) S.cm)::R
abbrev hX (S:Sh)(X:Ix):Hp:=yb .any S X (an Dt.cells dn X.jV) []
theorem wC {sp:SV}(S:Sh)(X:Ix){es:List (Nat×SV×SV)}{R:Hp}{k:Nat}(hk:15≤k)(hsp:sp.ok (fun n=>decide (n<k))=true)(he:(es.all fun e=>e.2.1.ok (fun n=>decide (n<k)) && e.2.2.ok (fun n=>decide (n<k)))=true)(hR:R.ok (fun n=>decide (n<k))=true):(yb sp S X es R).ok (fun n=>decide (n<k))=true:=by
 have a:=bq (fun n=>decide (n<k)) S.ops
 have b:=bM (fun n=>decide (n<k)) S.gf
 have c:=lp (fun n=>decide (n<k)) S.mA
 have d:=iY (fun n=>decide (n<k)) S.tr
 have e:=bq (fun n=>decide (n<k)) S.md
 have f:=bq (fun n=>decide (n<k)) X.ops
 have g:=dZ (fun n=>decide (n<k)) X.ch
 refine av (by simp;omega) (by simp [Ob.ok,SV.ay,SV.ok,hsp];omega) (av (by simp;omega) he (av (by simp;omega) g (av (by simp;omega) f (av (by simp;omega) (by simp [Ob.ok,SV.ay,SV.ok];omega) (av (by simp;omega) a (av (by simp;omega) b (av (by simp;omega) c (av (by simp;omega) (by simp [Ob.ok,SV.ay,SV.ok];omega) (av (by simp;omega) d (av (by simp;omega) e hR))))))))))
theorem DW (S:Sh)(X:Ix){k:Nat}(hk:15≤k):(hX S X).ok (fun n=>decide (n<k))=true:=wC S X hk rfl (dZ _ _) rfl
theorem Ab (sp:SV)(S:Sh)(X:Ix)(es:List (Nat×SV×SV))(R:Hp):HSub S.jk (yb sp S X es R):=by
 refine HSub.cons ?_ (HSub.cons ?_ (HSub.cons ?_ (HSub.cons ?_ (HSub.cons ?_ (HSub.cons ?_ (HSub.cons ?_ (HSub.nil _))))))) <;> rfl
theorem qV {F h:Hp}{n:Nat}{ob:Ob}(hF:HSub F h)(hn:lk F n=none):HSub F ((n,ob)::h):=fun m o hm=>by
 rw [aa,if_neg (fun e=>by rw [e,hn] at hm;cases hm)]
 exact hF m o hm
theorem wD (S:Sh){n:Nat}(h:15≤n):lk S.jk n=none:=by
 refine ff ?_
 simp
 omega
theorem DX (S:Sh)(hu:S.ue)(hs:mB S)(d:Dt)(k:Nat):aM Tryz.prog shape_Shape_Good.f [.ptr 10 0,.agg d.cells] S.jk k 0 (bl (S.good d)) S.jk:=Dv S hu hs d n10 wk k
theorem Ih (S:Sh)(hs:mB S)(d:Dt)(k:Nat):aM Tryz.prog shape_Shape_Op.f [.ptr 10 0,.agg d.cells] S.jk k 0 (.dM [.agg (S.op d).cells,bl (MM.has S.ops d)]) S.jk:=
 S.at_ (Ds S hs d) (fun ρ=>by simp [SV.aW,SV.aC,Dt.ax]) (fun ρ=>by simp [SV.aW,SV.aC,ag.ax]) n10 wk k
abbrev Sh.K1 (S:Sh):Tr:=⟨2,0,1,S.tr,S.ct,S.md,S.cm⟩
abbrev Sh.h3 (S:Sh):Hp:=[(2,.box 166 [.mp 0,.mp 1]),(0,.map (an Dt.cells cv S.tr) S.ct),(1,.map (an Dt.cells ov S.md) S.cm)]
theorem Sh.Ii (S:Sh):S.K1.sep:=⟨by show (0:Nat)≠2;decide,by show (1:Nat)≠2;decide,by show (0:Nat)≠1;decide⟩
noncomputable def Sh.de (S:Sh)(d:Dt):List Dt:=(mV S.tr d).map (·.dot)
theorem Bc (S:Sh)(hu:S.ue)(d:Dt):∃ n,∃ e:Int,∀ k,aM Tryz.prog tree_Tree_Chain.f [.ptr 2 0,.agg d.cells] S.h3 k n (.dM [dn (S.de d),.d (.int .i64 e)]) S.h3:=by
 obtain ⟨L,hL,hlen⟩:=hu d
 refine ⟨6+L.length*(1+2),if MM.has S.tr d then 0 else 7,fun k=> ?_⟩
 have h:=CK (T:=S.K1) S.Ii d L hL (by omega) k
 have e:mS S.K1.at_ d L= .dM [dn (S.de d),.d (.int .i64 (if MM.has S.tr d then 0 else 7))]:=by
  unfold mS Sh.de
  rw [i_ hL]
  show (if MM.has S.tr d=true then _ else _)=_
  unfold MM.has
  cases hg:MM.get S.tr d with
  | none=>
   rw [hg] at hL
   cases hL
   rfl
  | some c=>
   rw [hg] at hL
   cases L with
   | nil=>cases hL
   | cons x L=>simp [dn,bS]
 rw [e] at h
 exact h
end
section
structure K2 (S:Sh)(ds:List Dt)(i:Nat)(G:OG)(kk:Nat):Prop where
 le:i≤ds.length
 pl:OG.pl G=(uf S (ds.take i)).jV
 ok:lB G 15 kk
 lo:15≤kk
theorem DY {A R:Hp}{n:Nat}(h:n∉A.map (·.1)):lk (A++R) n=lk R n:=by rw [dB,ff h,Option.none_or]
theorem qb {sp:SV}{S:Sh}{X:Ix}{es:List (Nat×SV×SV)}{R H:Hp}(h:∀ y,y∈yb sp S X es []→lk H y.1=some y.2)(hR:∀ y,y∈R→lk H y.1=some y.2):∀ y,y∈yb sp S X es R→lk H y.1=some y.2:=fun y hy=>by
 rcases List.mem_append.1 (show y∈yb sp S X es []++R from hy) with hy | hy
 ·exact h y hy
 ·exact hR y hy
section
attribute [local irreducible] SW RW aM SC ak au
set_option maxHeartbeats 16000000 in
theorem Ac (S:Sh)(ds:List Dt)(hu:S.ue)(hs:mB S)(hds:ds.length<1000000)
    (hD:∀ k,aM Tryz.prog shape_Shape_Dots.f [.ptr 10 0] S.jk k 0 (bS ds) S.jk):SB Tryz.prog revoke_New.f [.ptr 10 0] S.jk 11 4 fun r F=>r= .ptr 14 0∧F=hX S (uf S ds):=by
  refine revoke_New.enter (by simp [SV.ay,SV.ok]) (Sh.mE _ (Nat.le_refl 11)) (by simp) ?_
  dsimp only [revoke_New.s,Co.M,Co.G,Co.J,Co.H,Co.N,Co.F,Co.C,Co.Z,Co.B,Co.b8,Co.aB,Co.bL,Co.i6,Co.z8,Co.bU]
  have hT:=cN.FW S
  refine SW.seq ?_
  refine SW.g0 [0,2,3,5,6,10,18,19,20,21,27,55,63] mixed af ?_
  refine SW.seq (SW.seq ?_)
  refine SW.g1 [0,2,3,5,6,10,18,19,20,21,27,55,63] mixed af hT ?_
  refine SW.aj rfl (SW.skip ?_)
  refine SW.seq ?_
  have sp4:cU (cU (cU (cU [SV.d .jt,.d .jl,.d .jl,.d .jl] 0 [.ptr 10 0]) 1 [.mp 11]) 2 [.mp 12]) 3 [.mp 13]=[.ptr 10 0,.mp 11,.mp 12,.mp 13]:=rfl
  refine SW.g0 [0,2,3,5,6,10,18,19,20,21,27,55,63] mixed (sp4) ?_
  refine SW.seq (SW.seq ?_)
  refine SW.g1 [0,2,3,5,6,10,18,19,20,21,27,55,63] mixed af hD ?_
  refine SW.block ?_
  refine SW.loop (α:={p:Nat×OG×Nat // K2 S ds p.1 p.2.1 p.2.2}) (fun p=>⟨[(20,i64 p.1.1),(19,i64 ds.length),(18,bS ds),(3,.ptr 14 0),(0,.ptr 10 0)],yb (.ptr 10 0) S (uf S (ds.take p.1.1)) (an Dt.cells gv p.1.2.1) (OG.tl p.1.2.1),p.1.2.2⟩) (fun p=>ds.length - p.1.1) ⟨(0,[],15),Nat.zero_le _,rfl,⟨by simp,by simp,by simp⟩,Nat.le_refl _⟩ id ?_ ?_
  · show aJ 11 _ ⟨[(20,i64 (0:Nat)),(19,i64 ds.length),(18,bS ds),(3,.ptr 14 0),(0,.ptr 10 0)],yb (.ptr 10 0) S Ix.zero (an Dt.cells gv []) [],15⟩ id
    exact aJ.same (by show 11≤15;decide) (by simp [aY,List.lookup,SV.aC,SV.ok,SV.ay]) (wC S _ (Nat.le_refl _) rfl rfl rfl) (fun y hy=>by
      simp only [List.mem_cons,List.not_mem_nil,or_false] at hy
      rcases hy with rfl | rfl | rfl | rfl | rfl | rfl | rfl | rfl | rfl | rfl | rfl <;> rfl)
  rintro ⟨⟨i,G,kk⟩,hi⟩
  have hi:K2 S ds i G kk:=hi
  obtain ⟨p1,p2,p3,p4⟩:=hi
  dsimp only at*
  have hI:=DR S (ds.take i)
  have hwG:MM.wf G (uf S (ds.take i)).cf:=OG.JV (by rw [p2];exact hI.wf)
  by_cases h:i<ds.length
  · have h1 :decide ((i:Int)<ds.length)=true:=by simp only [decide_eq_true_eq];omega
    obtain ⟨d,hx⟩:=br h
    have e2:IntKind.i64.wrap ((i:Int)+1)=((i+1:Nat):Int):=wrap_i64 _ (by omega)
    have htk:ds.take (i+1)=ds.take i++[d]:=f_ hx
    have hsn:uf S (ds.take (i+1))=Ix.step S (uf S (ds.take i)) d:=by rw [htk,xV]
    have hofl:∀ a,((MM.get (uf S (ds.take i)).jV a).getD []).length≤1000000:=fun a=>by
      rw [hI.jV]
      have h1:=List.length_filter_le (S.rv a) (ds.take i)
      have h2:=List.length_take_le i ds
      have h3:(ds.take i).length≤ds.length:=by rw [List.length_take];omega
      omega
    clear hI
    generalize uf S (ds.take i)=X at hsn p2 hwG hofl ⊢
    have fk:=Bb p4
    have fj:=Bb (show 15≤kk+1 by omega)
    have fl:=bA (show kk+1≠kk by omega)
    have t0:List.lookup kk (OG.tl G)=none:=p3.out (.inr (Nat.le_refl _))
    have t1:List.lookup (kk+1) (OG.tl G)=none:=p3.out (.inr (by omega))
    refine SW.seq ?_
    refine SW.g0 [0,2,3,5,6,10,18,19,20,21,27,55,63] mixed (h1) ?_
    refine SW.seq (SW.ah rfl (SW.skip ?_))
    refine SW.seq (SW.block (SW.seq ?_))
    refine SW.g0 [0,2,3,5,6,10,18,19,20,21,27,55,63] mixed (And.intro (gI hx) (And.intro (fk) (t0))) ?_
    refine SW.seq (SW.seq ?_)
    have hs1:HSub S.jk ((kk,.box 37 d.cells)::yb (.ptr 10 0) S X (an Dt.cells gv G) (OG.tl G)):=qV (Ab _ _ _ _ _) (wD S p4)
    have hG:=DX S hu hs d
    (refine SW.dL [0,2,3,5,6,10,18,19,20,21,27,55,63] mixed ?_;(repeat (first | refine RW.ro (And.intro (fk) (t0)) (h:= ?_) | refine RW.skip (h:= ?_) | refine RW.op (And.intro (fk) (t0)) (h:= ?_) | refine RW.eF (And.intro (fk) (t0)) (h:= ?_) | refine RW.bH (h:= ?_) | (refine RW.bJ (h:= ?_);(first | refine ak.mk (And.intro (fk) (t0)) (hs:=hs1) (hc:=hG _) (h:= ?_)))));refine RW.nil ⟨dY (by kernel_rfl),au.mk (h:= ?_)⟩)
    have goOn:∀ (G':OG) (k':Nat) (env:List (Nat×SV)) (hp:Hp) (kz:Nat),OG.pl G'=(Ix.step S X d).jV→lB G' 15 k'→k'≤kz→kk≤k'→(∀ y,y∈yb (.ptr 10 0) S (Ix.step S X d) (an Dt.cells gv G') (OG.tl G')→lk hp y.1=some y.2)→aY id k' env [(20,i64 ((i+1:Nat):Int)),(19,i64 ds.length),(18,bS ds),(3,.ptr 14 0),(0,.ptr 10 0)]→
        ∃ (j:{p:Nat×OG×Nat // K2 S ds p.1 p.2.1 p.2.2}) (ρ:Nat→Nat),ds.length - j.1.1<ds.length - i∧aJ 11 ⟨env,hp,kz⟩ ⟨[(20,i64 j.1.1),(19,i64 ds.length),(18,bS ds),(3,.ptr 14 0),(0,.ptr 10 0)],yb (.ptr 10 0) S (uf S (ds.take j.1.1)) (an Dt.cells gv j.1.2.1) (OG.tl j.1.2.1),j.1.2.2⟩ ρ:=by
      intro G' k' env hp kz g1 g2 g3 g4 g5 g6
      refine ⟨⟨(i+1,G',k'),by show i+1≤_;omega,by show OG.pl G'=(uf S (ds.take (i+1))).jV;rw [hsn];exact g1,g2,by show 15≤k';omega⟩,id,by show ds.length - (i+1)<_;omega,?_⟩
      dsimp only
      rw [hsn]
      exact aJ.same (by show 11≤k';omega) g6 (wC S _ (by show 15≤k';omega) (by simp [SV.ok];omega) (wz g2 (Nat.le_refl _)) (g2.rR (Nat.le_refl _))) g5
    rcases hgd:S.good d with _ | _
    · have hst:Ix.step S X d=X:=by unfold Ix.step;rw [hgd];rfl
      refine SW.ah rfl (SW.exit ?_)
      refine (?_:Sl.SW _ _ _ _ _ _)
      refine SW.g0 [0,2,3,5,6,10,18,19,20,21,27,55,63] mixed (e2) ?_
      refine goOn G kk _ _ _ (by rw [hst];exact p2) p3 (by omega) (Nat.le_refl _) (qb (fun y hy=> ?_) fun y hy=> ?_) (by simp [aY,List.lookup,SV.aC,SV.ok,SV.ay];omega)
      · rw [hst] at hy
        simp only [List.mem_cons,List.not_mem_nil,or_false] at hy
        rcases hy with rfl | rfl | rfl | rfl | rfl | rfl | rfl | rfl | rfl | rfl | rfl <;> simp [aa,fk]
      · obtain ⟨z,hz,rfl⟩:=List.mem_map.1 hy
        have hb:=p3.bd z hz
        refine (DY (A:=(kk,.box 37 d.cells)::yb (.ptr 10 0) S X (an Dt.cells gv G) []) (R:=OG.tl G) ?_).trans (p3.Ic hz)
        simp
        omega
    · have hst:Ix.step S X d=X.put S d:=by unfold Ix.step;rw [hgd];rfl
      rw [hst] at hsn goOn
      refine SW.aj rfl (SW.skip ?_)
      obtain ⟨o,ho⟩:∃ o,S.op d=o:=⟨_,rfl⟩
      have hOp:=Ih S hs d
      rw [ho] at hOp
      have kd:o.cells[14]? =some (.d (.int .u8 o.kind)):=rfl
      have cd:List.take 2 (List.drop 15 o.cells)=o.aK.cells:=rfl
      have ad:List.take 2 (List.drop 21 o.cells)=o.at_.cells:=rfl
      refine SW.seq ?_
      (have fx:=(And.intro (fk) (And.intro (fj) (And.intro (fl) (And.intro (t0) (t1)))));refine SW.dL [0,2,3,5,6,10,18,19,20,21,27,55,63] mixed ?_;(repeat (first | refine RW.ro fx (h:= ?_) | refine RW.skip (h:= ?_) | refine RW.op fx (h:= ?_) | refine RW.eF fx (h:= ?_) | refine RW.bH (h:= ?_) | (refine RW.bJ (h:= ?_);(first | refine ak.mk fx (hs:=hs1) (hc:=hOp _) (h:= ?_)))));refine RW.nil ⟨dY (by kernel_rfl),au.mk (h:= ?_)⟩)
      refine SW.seq ?_
      refine SW.gK [0,2,3,5,6,10,18,19,20,21,27,55,63] mixed (And.intro (fk) (And.intro (fj) (And.intro (fl) (And.intro (t0) (And.intro (t1) (zT X.ops X.co d o)))))) (And.intro fk (And.intro fj fl)) True.intro ?_
      refine SW.seq ?_
      obtain ⟨nc,ec,hch⟩:=Bc S hu o.aK
      have hs2:HSub S.jk ((kk+1,.box 43 o.cells)::(kk,.box 37 d.cells)::yb (.ptr 10 0) S { X with ops:=MM.put X.ops X.co d o,co:=MM.iU X.ops X.co d} (an Dt.cells gv G) (OG.tl G)):=qV (qV (Ab _ _ _ _ _) (wD S p4)) (wD S (show 15≤kk+1 by omega))
      have hs3:HSub S.h3 ((kk+1,.box 43 o.cells)::(kk,.box 37 d.cells)::yb (.ptr 10 0) S { X with ops:=MM.put X.ops X.co d o,co:=MM.iU X.ops X.co d} (an Dt.cells gv G) (OG.tl G)):=fun n ob hn=>hs2 n ob (HSub.cons (h:=S.jk) rfl (HSub.cons rfl (HSub.cons rfl (HSub.nil _))) n ob hn)
      (have fx:=(And.intro (fk) (And.intro (fj) (And.intro (fl) (And.intro (t0) (And.intro (t1) (And.intro (cd) (FY X.ch X.cc d (S.de o.aK))))))));refine SW.dL [0,2,3,5,6,10,18,19,20,21,27,55,63] mixed ?_;(repeat (first | refine RW.ro fx (h:= ?_) | refine RW.skip (h:= ?_) | refine RW.op fx (h:= ?_) | refine RW.eF fx (h:= ?_) | refine RW.bH (h:= ?_) | (refine RW.bJ (h:= ?_);(first | refine ak.mk fx (hs:=hs2) (hc:=hT _) (h:= ?_) | refine ak.mk fx (hs:=hs3) (hc:=hch _) (h:= ?_)))));refine RW.nil ⟨dY (by simp [iZ,qu,eG,cg,List.range,List.range.loop,fk,fj,fl] <;> (first | decide | (repeat (first | assumption | refine ⟨?_,?_⟩ | exact .inl (by decide) | exact .inl (.inr (by decide)) | exact .inl (.inl (by decide)) | refine .inr ?_)))),au.mk (h:= ?_)⟩)
      have hput:X.put S d=⟨MM.put X.ops X.co d o,MM.iU X.ops X.co d,if o.kind=0 then MM.put (MM.put X.ch X.cc d (S.de o.aK)) (MM.iU X.ch X.cc d) d [] else MM.put X.ch X.cc d (S.de o.aK),if o.kind=0 then MM.iU (MM.put X.ch X.cc d (S.de o.aK)) (MM.iU X.ch X.cc d) d else MM.iU X.ch X.cc d,
          if o.kind=2 then MM.put X.jV X.cf o.at_ ((MM.get X.jV o.at_).getD []++[d]) else X.jV,if o.kind=2 then MM.iU X.jV X.cf o.at_ else X.cf⟩:=by unfold Ix.put Sh.de;rw [ho]
      rw [hput] at goOn
      clear hsn hput
      have htl:∀ z,z∈G→(∀ (c0 c1 c2 c3 c4 c5 c6 c7 c8 c9 ca cb cc:Ob),lk ((kk+1,c0)::(kk,c1)::(14,c2)::(13,c3)::(12,c4)::(11,c5)::(10,c6)::(7,c7)::(8,c8)::(9,c9)::(2,ca)::(0,cb)::(1,cc)::OG.tl G) z.2.2.1=some (oE z.2.2.2)):=fun z hz=>by
        have hb:=p3.bd z hz
        have hl:=p3.Ic hz
        have fn:=Bb hb.1
        have f8:=bA (show z.2.2.1≠kk by omega)
        have f9:=bA (show z.2.2.1≠kk+1 by omega)
        intros
        simp only [aa,fn,f8,f9,if_false]
        exact hl
      have htail:∀ y,y∈OG.tl G→∀ (c0 c1 c2 c3 c4 c5 c6 c7 c8 c9 ca cb cc:Ob),lk ((kk+1,c0)::(kk,c1)::(14,c2)::(13,c3)::(12,c4)::(11,c5)::(10,c6)::(7,c7)::(8,c8)::(9,c9)::(2,ca)::(0,cb)::(1,cc)::OG.tl G) y.1=some y.2:=fun y hy=>by
        obtain ⟨z,hz,rfl⟩:=List.mem_map.1 hy
        exact htl z hz
      by_cases h0:o.kind=0
      · have z0:(((o.kind:Nat):Int) == 0)=true:=by rw [h0];rfl
        have z2:(((o.kind:Nat):Int) == 2)=false:=by rw [h0];rfl
        simp only [h0,if_true,if_false,show ¬ (0:Nat)=2 by decide] at goOn
        refine SW.seq (SW.seq ?_)
        refine SW.g0 [0,2,3,5,6,10,18,19,20,21,27,55,63] mixed (And.intro (fk) (And.intro (fj) (And.intro (fl) (And.intro (kd) (z0))))) ?_
        refine SW.ah rfl ?_
        refine SW.gK [0,2,3,5,6,10,18,19,20,21,27,55,63] mixed (And.intro (fk) (And.intro (fj) (And.intro (fl) (And.intro (t0) (And.intro (t1) (DQ (MM.put X.ch X.cc d (S.de o.aK)) (MM.iU X.ch X.cc d) d)))))) (And.intro fk (And.intro fj fl)) True.intro ?_
        refine SW.seq ?_
        refine SW.g0 [0,2,3,5,6,10,18,19,20,21,27,55,63] mixed (And.intro (fk) (And.intro (fj) (And.intro (fl) (And.intro (kd) (z2))))) ?_
        refine SW.aj rfl (SW.skip ?_)
        refine SW.g0 [0,2,3,5,6,10,18,19,20,21,27,55,63] mixed (e2) ?_
        refine goOn G kk _ _ _ p2 p3 (by omega) (Nat.le_refl _) (qb (fun y hy=> ?_) fun y hy=> ?_) (by simp [aY,List.lookup,SV.aC,SV.ok,SV.ay];omega)
        · simp only [List.mem_cons,List.not_mem_nil,or_false] at hy
          rcases hy with rfl | rfl | rfl | rfl | rfl | rfl | rfl | rfl | rfl | rfl | rfl <;> simp [aa,fk,fj,fl]
        · exact htail y hy _ _ _ _ _ _ _ _ _ _ _ _ _
      have z0:(((o.kind:Nat):Int) == 0)=false:=by simpa using h0
      by_cases h2:o.kind=2
      · have z2:(((o.kind:Nat):Int) == 2)=true:=by rw [h2];rfl
        simp only [h0,if_true,if_false,h2,show ¬ (2:Nat)=0 by decide] at goOn
        refine SW.seq (SW.seq ?_)
        refine SW.g0 [0,2,3,5,6,10,18,19,20,21,27,55,63] mixed (And.intro (fk) (And.intro (fj) (And.intro (fl) (And.intro (kd) (z0))))) ?_
        refine SW.aj rfl (SW.skip ?_)
        refine SW.seq ?_
        refine SW.g0 [0,2,3,5,6,10,18,19,20,21,27,55,63] mixed (And.intro (fk) (And.intro (fj) (And.intro (fl) (And.intro (kd) (z2))))) ?_
        refine SW.ah rfl ?_
        have hlG:=hofl o.at_
        rw [← p2,OG.yU] at hlG
        rw [← p2,OG.yU] at goOn
        have fe:=r6 (vs:=gv) (kc:=Dt.cells) hwG o.at_ (0,[])
        have f1:fH (an Dt.cells gv G) (.d .aU) (MM.idx G o.at_)=gv ((MM.get G o.at_).getD (0,[])):=iJ (vs:=gv) (0,[]) G o.at_
        have f2:o6 (an Dt.cells gv G) X.cf (.agg o.at_.cells) (.d .aU) (MM.idx G o.at_)= .map (an Dt.cells gv (MM.vQ G X.cf o.at_ (0,[]))) (MM.iU G X.cf o.at_):=sY (vs:=gv) (kc:=Dt.cells) G X.cf o.at_ (0,[])
        have f3:wS (an Dt.cells gv G) X.cf (MM.idx G o.at_)=MM.Jg G X.cf o.at_:=oO (vs:=gv) (kc:=Dt.cells) G X.cf o.at_
        obtain ⟨kn,hkn⟩:∃ kn,kk+2+nc=kn:=⟨_,rfl⟩
        rw [hkn]
        have gk:=Bb (show 15≤kn by omega)
        have gk0:=bA (show kn≠kk by omega)
        have gk1:=bA (show kn≠kk+1 by omega)
        have t2:List.lookup kn (OG.tl G)=none:=p3.out (.inr (by omega))
        rw [OG.Ib] at goOn
        have h13:∀ (T:Hp) (m:Nat),15≤m→m<kk→∀ (ck c0 c1 c2 c3 c4 c5 c6 c7 c8 c9 ca cb cc:Ob),lk ((kn,ck)::(kk+1,c0)::(kk,c1)::(14,c2)::(13,c3)::(12,c4)::(11,c5)::(10,c6)::(7,c7)::(8,c8)::(9,c9)::(2,ca)::(0,cb)::(1,cc)::T) m=lk T m:=fun T m hm1 hm2=>by
          have fn:=Bb hm1
          have f8:=bA (show m≠kk by omega)
          have f9:=bA (show m≠kk+1 by omega)
          have f7:=bA (show m≠kn by omega)
          intros
          simp only [aa,fn,f8,f9,f7,if_false]
        cases hg:MM.get G o.at_ with
        | none=>
          rw [hg] at f1 goOn
          simp only [Option.getD_none,Option.map_none,List.nil_append] at f1 goOn
          change _=SV.d .aU at f1
          have fp:(an Dt.cells gv (MM.vQ G X.cf o.at_ (0,[]))).modify (MM.pos G o.at_) (fun e=>(e.1,e.2.1,SV.gs kn 1))=an Dt.cells gv (MM.put G X.cf o.at_ (kn,[d])):=jD (vs:=gv) (kc:=Dt.cells) G X.cf o.at_ (0,[]) (kn,[d])
          refine SW.gK [0,2,3,5,6,10,18,19,20,21,27,55,63] mixed (And.intro (fk) (And.intro (fj) (And.intro (fl) (And.intro (gk) (And.intro (gk0) (And.intro (gk1) (And.intro (t0) (And.intro (t1) (And.intro (t2) (And.intro (ad) (And.intro (fe) (And.intro (f1) (And.intro (f2) (And.intro (f3) (fp))))))))))))))) (And.intro fk (And.intro fj (And.intro fl (And.intro gk (And.intro gk0 gk1))))) True.intro ?_
          refine SW.g0 [0,2,3,5,6,10,18,19,20,21,27,55,63] mixed (e2) ?_
          have hok:=p3.put hwG.keys X.cf o.at_ [d] kn (kn+1) (by omega) (by omega) (by omega) (by simp)
          refine goOn (MM.put G X.cf o.at_ (kn,[d])) (kn+1) _ _ _ (OG.DS _ _ _ _) hok (by omega) (by omega) (qb (fun y hy=> ?_) (p3.Lh hwG.keys ?_ fun x hx _=> ?_)) (by simp [aY,List.lookup,SV.aC,SV.ok,SV.ay];omega)
          · simp only [List.mem_cons,List.not_mem_nil,or_false] at hy
            rcases hy with rfl | rfl | rfl | rfl | rfl | rfl | rfl | rfl | rfl | rfl | rfl <;> simp [aa,fk,fj,fl,gk,gk0,gk1]
          · rw [aa,if_pos rfl];rfl
          · have hb:=p3.bd x hx
            exact h13 _ x.2.2.1 hb.1 hb.2 _ _ _ _ _ _ _ _ _ _ _ _ _ _
        | some g=>
          obtain ⟨n,L⟩:=g
          obtain ⟨tt,hgm⟩:=MM.get_mem hg
          have hLf:L≠[]:=p3.full _ hgm
          have hnb:=p3.bd _ hgm
          dsimp only at hnb
          rw [hg] at f1 goOn hlG
          simp only [Option.getD_some,Option.map_some] at f1 goOn hlG
          rw [p_ hLf] at f1
          have fp:(an Dt.cells gv (MM.vQ G X.cf o.at_ (0,[]))).modify (MM.pos G o.at_) (fun e=>(e.1,e.2.1,SV.gs kn (L.length+1)))=an Dt.cells gv (MM.put G X.cf o.at_ (kn,L++[d])):=by
            have:=jD (vs:=gv) (kc:=Dt.cells) G X.cf o.at_ (0,[]) (kn,L++[d])
            rwa [p_ (show L++[d]≠[] by simp),show (L++[d]).length=L.length+1 by simp] at this
          have fn:=Bb hnb.1
          have fn0:=bA (show n≠kk by omega)
          have fn1:=bA (show n≠kk+1 by omega)
          have fn2:=bA (show n≠kn by omega)
          have t3:List.lookup n (OG.tl G)=some (.arr 37 2 L.length ((L.flatMap Dt.ds).map .d)):=p3.Ic hgm
          have t4:List.lookup kn (di (OG.tl G) n)=none:=by
            show lk (di (OG.tl G) n) kn=none
            rw [cR,if_neg (by omega)];exact t2
          refine SW.gK [0,2,3,5,6,10,18,19,20,21,27,55,63] mixed (And.intro (fk) (And.intro (fj) (And.intro (fl) (And.intro (gk) (And.intro (gk0) (And.intro (gk1) (And.intro (fn) (And.intro (fn0) (And.intro (fn1) (And.intro (fn2) (And.intro (t0) (And.intro (t1) (And.intro (t2) (And.intro (t3) (And.intro (t4) (And.intro (ad) (And.intro (fe) (And.intro (f1) (And.intro (f2) (And.intro (f3) (fp))))))))))))))))))))) (And.intro fk (And.intro fj (And.intro fl (And.intro gk (And.intro gk0 (And.intro gk1 (And.intro fn (And.intro fn0 (And.intro fn1 fn2))))))))) True.intro ?_
          refine SW.g0 [0,2,3,5,6,10,18,19,20,21,27,55,63] mixed (e2) ?_
          have hok:=p3.put hwG.keys X.cf o.at_ (L++[d]) kn (kn+1) (by omega) (by omega) (by omega) (by simp)
          refine goOn (MM.put G X.cf o.at_ (kn,L++[d])) (kn+1) _ _ _ (OG.DS _ _ _ _) hok (by omega) (by omega) (qb (fun y hy=> ?_) (p3.Lh hwG.keys ?_ fun x hx hxa=> ?_)) (by simp [aY,List.lookup,SV.aC,SV.ok,SV.ay];omega)
          · simp only [List.mem_cons,List.not_mem_nil,or_false] at hy
            rcases hy with rfl | rfl | rfl | rfl | rfl | rfl | rfl | rfl | rfl | rfl | rfl <;> simp [aa,fk,fj,fl,gk,gk0,gk1]
          · rw [aa,if_pos rfl]
            simp [oE,Dt.qx]
          · have hb:=p3.bd x hx
            refine (h13 _ x.2.2.1 hb.1 hb.2 _ _ _ _ _ _ _ _ _ _ _ _ _ _).trans ?_
            rw [cR,if_neg]
            intro e
            have:=DT p3 hx hgm e
            rw [this] at hxa
            exact hxa rfl
      have z2:(((o.kind:Nat):Int) == 2)=false:=by simp;omega
      simp only [h0,if_false,h2] at goOn
      refine SW.seq (SW.seq ?_)
      refine SW.g0 [0,2,3,5,6,10,18,19,20,21,27,55,63] mixed (And.intro (fk) (And.intro (fj) (And.intro (fl) (And.intro (kd) (z0))))) ?_
      refine SW.aj rfl (SW.skip ?_)
      refine SW.seq ?_
      refine SW.g0 [0,2,3,5,6,10,18,19,20,21,27,55,63] mixed (And.intro (fk) (And.intro (fj) (And.intro (fl) (And.intro (kd) (z2))))) ?_
      refine SW.aj rfl (SW.skip ?_)
      refine SW.g0 [0,2,3,5,6,10,18,19,20,21,27,55,63] mixed (e2) ?_
      refine goOn G kk _ _ _ p2 p3 (by omega) (Nat.le_refl _) (qb (fun y hy=> ?_) fun y hy=> ?_) (by simp [aY,List.lookup,SV.aC,SV.ok,SV.ay];omega)
      · simp only [List.mem_cons,List.not_mem_nil,or_false] at hy
        rcases hy with rfl | rfl | rfl | rfl | rfl | rfl | rfl | rfl | rfl | rfl | rfl <;> simp [aa,fk,fj,fl]
      · exact htail y hy _ _ _ _ _ _ _ _ _ _ _ _ _
  have h1:decide ((i:Int)<ds.length)=false:=by simp only [decide_eq_false_iff_not];omega
  have hi2:i=ds.length:=by omega
  subst hi2
  rw [List.take_length] at*
  obtain ⟨X,hXe⟩:∃ X,uf S ds=X:=⟨_,rfl⟩
  rw [hXe] at p2 hwG hI ⊢
  refine SW.seq ?_
  refine SW.g0 [0,2,3,5,6,10,18,19,20,21,27,55,63] mixed (h1) ?_
  refine SW.seq (SW.aj rfl (SW.exit ?_))
  refine (?_:Sl.SW _ _ _ _ _ _)
  have nq:(13::(yb .any S X [] []).tail.tail.map (·.1)).Nodup:=by simp
  refine SW.weak id (st1:=⟨[(3,.ptr 14 0)],(13,.map (an Dt.cells dn (OG.pl [])++an Dt.cells gv G) X.cf)::(((14,.box 110 [.ptr 10 0,.mp 11,.mp 12,.mp 13])::(12,.map (an Dt.cells dn X.ch) X.cc)::(11,.map (an Dt.cells ov X.ops) X.co)::S.jk)++OG.tl G),kk⟩) (aJ.same (by show 11≤kk;omega) (by simp [aY,List.lookup,SV.aC,SV.ok,SV.ay];omega) ?_ ?_) (SW.KZ (lo:=15) (by show 11≤kk;omega) p4 (by decide) ?_ (by simp) (by simp [SV.ok]) (by simp) G [] p3 (by simp) ?_)
  · have h:=wC (sp:= .ptr 10 0) S X p4 (by simp [SV.ok];omega) (wz p3 (Nat.le_refl _)) (p3.rR (Nat.le_refl _))
    unfold Hp.ok at*
    rw [List.all_eq_true] at h ⊢
    refine fun y hy=>h y ?_
    simp only [List.cons_append,List.nil_append,List.mem_cons] at hy ⊢
    rcases hy with h | h | h | h | h | h | h | h | h | h | h | h <;> simp [h,OG.pl,an]
  · intro y hy
    rw [List.mem_cons,List.mem_append] at hy
    rcases hy with rfl | hy | hy
    · rfl
    · simp only [List.mem_cons,List.not_mem_nil,or_false] at hy
      rcases hy with rfl | rfl | rfl | rfl | rfl | rfl | rfl | rfl | rfl | rfl <;> rfl
    · obtain ⟨z,hz,rfl⟩:=List.mem_map.1 hy
      have hb:=p3.bd z hz
      refine (DY (A:=yb (.ptr 10 0) S X (an Dt.cells gv G) []) (R:=OG.tl G) ?_).trans (p3.Ic hz)
      simp
      omega
  · exact av (by simp) (by simp [Ob.ok,SV.ay,SV.ok]) (av (by simp) (dZ _ _) (av (by simp) (bq _ _) (Sh.mE S (by decide))))
  · rw [p2]
    refine SW.Ig 14 (cs':=[.any,.mp 11,.mp 12,.mp 13]) rfl (fun p μ M vs h=> ?_) ?_
    · obtain ⟨u,us,e,h1,h2⟩:=aR.aF.1 h
      exact aR.aF.2 ⟨u,us,e,Rp.any,h2⟩
    · refine SW.weak id (st1:=⟨[(3,.ptr 14 0)],hX S X,15⟩) (aJ.same (by show 11≤15;decide) (by simp [aY,List.lookup,SV.aC,SV.ok,SV.ay]) (DW S X (Nat.le_refl _)) (fun y hy=> ?_)) ?_
      · simp only [List.mem_cons,List.not_mem_nil,or_false] at hy
        rcases hy with rfl | rfl | rfl | rfl | rfl | rfl | rfl | rfl | rfl | rfl | rfl <;> rfl
      refine SW.seq ?_
      refine SW.g0 [0,2,3,5,6,10,18,19,20,21,27,55,63] mixed af ?_
      refine SW.ret ?_
      exact End.mk (hX S X) (h4:=⟨rfl,rfl⟩) (h6:=DW S X (by decide))
end
end
end Go.Proofs.YtaelhkkjgfobhaaGreat
