/-
 Revoke: what an index holds (plain).
-/
import Derived.Test.YtaelhkkjgfobhaaGreatUL
set_option linter.unusedSectionVars false
set_option linter.unusedVariables false
set_option linter.unusedSimpArgs false
namespace Go.Proofs.YtaelhkkjgfobhaaGreat
open Go.Sl Go.Proofs
section
def dn:List Dt->SV
 | []=> .d .aN
 | d::L=>bq (d::L)
theorem Lc (ρ:Nat->Nat)(L:List Dt):(dn L).aA ρ=dn L:=by cases L <;> rfl
theorem Gb (q:Nat->Bool)(L:List Dt):(dn L).ok q=true:=by cases L <;> rfl
theorem uo (L:MM Dt (List Dt))(a:Dt):fP (ah Dt.cells dn L) (.d .aN) (MM.idx L a)=dn ((MM.get L a).getD []):=iR (vs:=dn) [] L a
theorem IW (L:MM Dt (List Dt))(c:Nat)(a:Dt)(v:List Dt):iZ (ah Dt.cells dn L) c (.agg a.cells) (dn v) (MM.idx L a)= .map (ah Dt.cells dn (MM.put L c a v)) (MM.jh L c a):=jC (vs:=dn) L c a v
theorem Gc (L:MM Dt (List Dt))(c:Nat)(a:Dt):iZ (ah Dt.cells dn L) c (.agg a.cells) (.d .aN) (MM.idx L a)= .map (ah Dt.cells dn (MM.put L c a [])) (MM.jh L c a):=jC (vs:=dn) L c a []
theorem dA (ρ:Nat->Nat)(L:MM Dt (List Dt)):(ah Dt.cells dn L).map (λ e=>(e.1,e.2.1.aA ρ,e.2.2.aA ρ))=ah Dt.cells dn L:=lB ρ L (λ a=>Dt.ax a ρ) (Lc ρ)
theorem dw (q:Nat->Bool)(L:MM Dt (List Dt)):((ah Dt.cells dn L).all λ e=>e.2.1.ok q && e.2.2.ok q)=true:=nN q L (λ a=>Dt.aq a q) (Gb q)
noncomputable def Sh.mD (S:Sh)(o:ag):List Dt:=if o.kind=0 then [] else (m_ S.tr o.aM).map (·.dot)
structure Ix where
 ops:MM Dt ag
 co:Nat
 ch:MM Dt (List Dt)
 cc:Nat
 kG:MM Dt (List Dt)
 cf:Nat
def Ix.zero:Ix:=⟨[],0,[],0,[],0⟩
noncomputable def Ix.put (S:Sh)(X:Ix)(d:Dt):Ix:=
 ⟨MM.put X.ops X.co d (S.op d),MM.jh X.ops X.co d,
  if (S.op d).kind=0 then MM.put (MM.put X.ch X.cc d ((m_ S.tr (S.op d).aM).map (·.dot))) (MM.jh X.ch X.cc d) d [] else MM.put X.ch X.cc d ((m_ S.tr (S.op d).aM).map (·.dot)),
  if (S.op d).kind=0 then MM.jh (MM.put X.ch X.cc d ((m_ S.tr (S.op d).aM).map (·.dot))) (MM.jh X.ch X.cc d) d else MM.jh X.ch X.cc d,
  if (S.op d).kind=2 then MM.put X.kG X.cf (S.op d).at_ ((MM.get X.kG (S.op d).at_).getD []++[d]) else X.kG,
  if (S.op d).kind=2 then MM.jh X.kG X.cf (S.op d).at_ else X.cf⟩
noncomputable def Ix.step (S:Sh)(X:Ix)(d:Dt):Ix:=if S.good d then X.put S d else X
noncomputable def vR (S:Sh)(ds:List Dt):Ix:=ds.foldl (Ix.step S) Ix.zero
theorem z_ (S:Sh)(ds:List Dt)(d:Dt):vR S (ds++[d])=Ix.step S (vR S ds) d:=by unfold vR;rw [List.foldl_append];rfl
noncomputable def Sh.rv (S:Sh)(a d:Dt):Bool:=S.good d && (decide ((S.op d).kind=2) && decide ((S.op d).at_=a))
structure Ld (S:Sh)(ds:List Dt)(X:Ix):Prop where
 wo:MM.wf X.ops X.co
 wc:MM.wf X.ch X.cc
 wf:MM.wf X.kG X.cf
 ops:∀ d,MM.get X.ops d=if d∈ds/\S.good d=true then some (S.op d) else none
 ch:∀ d,MM.get X.ch d=if d∈ds/\S.good d=true then some (S.mD (S.op d)) else none
 kG:∀ a,(MM.get X.kG a).getD []=ds.filter (S.rv a)
 full:∀ x,x∈X.kG->x.2.2≠[]
theorem Cf {K V:Type}[DecidableEq K]{m:MM K V}{c:Nat}{a:K}{v:V}{x:Nat×K×V}(hx:x∈MM.put m c a v):x∈m\/x.2.1=a/\x.2.2=v:=by
 unfold MM.put at hx
 split at hx
 .rename_i i hi
  obtain ⟨y,hy,e,_⟩:=MM.tZ hi;obtain ⟨j,hj⟩:=List.mem_iff_getElem?.1 hx;rw [List.getElem?_modify] at hj
  by_cases h:i=j
  .subst h
   rw [hy] at hj;simp at hj;subst hj;exact .inr ⟨e,rfl⟩
  .simp [h] at hj
   exact .inl (List.mem_of_getElem? hj)
 .rcases List.mem_append.1 hx with h | h
  .exact .inl h
  .rw [List.mem_singleton] at h
   subst h;exact .inr ⟨rfl,rfl⟩
theorem Nh (S:Sh):∀ n (ds:List Dt),ds.length=n->Ld S ds (vR S ds):=by
  intro n
  induction n with
  | zero=>
    intro ds h;rw [List.eq_nil_of_length_eq_zero h];exact ⟨MM.j7,MM.j7,MM.j7,λ d=>by simp [vR,Ix.zero,MM.get],λ d=>by simp [vR,Ix.zero,MM.get],λ a=>by simp [vR,Ix.zero,MM.get],λ x hx=>by simp [vR,Ix.zero] at hx⟩
  | succ n ih=>
    intro ds h;have hne:ds≠[]:=λ e=>by rw [e] at h;cases h
    obtain ⟨t,d,rfl⟩:∃ t d,ds=t++[d]:=⟨ds.dropLast,ds.getLast hne,(List.dropLast_concat_getLast hne).symm⟩;have hI:=ih t (by simp at h;exact h);rw [z_];generalize vR S t=X at hI ⊢;unfold Ix.step;cases hg:S.good d with
    | false=>
      rw [if_neg (by simp)];have hm:∀ x,(x∈t++[d]/\S.good x=true)↔(x∈t/\S.good x=true):=λ x=>by
        rw [List.mem_append,List.mem_singleton];constructor
        . rintro ⟨h1 | rfl,h2⟩
          . exact ⟨h1,h2⟩
          . rw [hg] at h2;cases h2
        . rintro ⟨h1,h2⟩
          exact ⟨.inl h1,h2⟩
      refine ⟨hI.wo,hI.wc,hI.wf,λ x=> ?_,λ x=> ?_,λ a=> ?_,hI.full⟩
      . rw [hI.ops];simp only [hm]
      . rw [hI.ch];simp only [hm]
      . rw [hI.kG,List.filter_append]
        have:S.rv a d=false:=by unfold Sh.rv;rw [hg];rfl
        simp [this]
    | true=>
      rw [if_pos rfl];have hm:∀ x,(x∈t++[d]/\S.good x=true)↔(x=d\/x∈t/\S.good x=true):=λ x=>by
        rw [List.mem_append,List.mem_singleton];constructor
        . rintro ⟨h1 | rfl,h2⟩
          . exact .inr ⟨h1,h2⟩
          . exact .inl rfl
        . rintro (rfl | ⟨h1,h2⟩)
          . exact ⟨.inr rfl,hg⟩
          . exact ⟨.inl h1,h2⟩
      refine ⟨MM.fV hI.wo _ _,?_,?_,λ x=> ?_,λ x=> ?_,λ a=> ?_,?_⟩
      . show MM.wf (if _ then _ else _) (if _ then _ else _)
        by_cases h0:(S.op d).kind=0
        . rw [if_pos h0,if_pos h0]
          exact MM.fV (MM.fV hI.wc _ _) _ _
        . rw [if_neg h0,if_neg h0]
          exact MM.fV hI.wc _ _
      . show MM.wf (if _ then _ else _) (if _ then _ else _)
        by_cases h0:(S.op d).kind=2
        . rw [if_pos h0,if_pos h0]
          exact MM.fV hI.wf _ _
        . rw [if_neg h0,if_neg h0]
          exact hI.wf
      . show MM.get (MM.put _ _ _ _) _=_
        rw [MM.bT]
        by_cases e:x=d
        . subst e
          rw [if_pos rfl,if_pos ((hm x).2 (.inl rfl))]
        . rw [if_neg e,hI.ops]
          simp only [hm,e,false_or]
      . show MM.get (if _ then _ else _) _=_
        have hch:MM.get (if (S.op d).kind=0 then MM.put (MM.put X.ch X.cc d ((m_ S.tr (S.op d).aM).map (·.dot))) (MM.jh X.ch X.cc d) d [] else MM.put X.ch X.cc d ((m_ S.tr (S.op d).aM).map (·.dot))) x=if x=d then some (S.mD (S.op d)) else MM.get X.ch x:=by
          unfold Sh.mD
          by_cases h0:(S.op d).kind=0
          . rw [if_pos h0,if_pos h0,MM.bT,MM.bT]
            by_cases e:x=d <;> simp [e]
          . rw [if_neg h0,if_neg h0,MM.bT]
        rw [hch]
        by_cases e:x=d
        . subst e
          rw [if_pos rfl,if_pos ((hm x).2 (.inl rfl))]
        . rw [if_neg e,hI.ch]
          simp only [hm,e,false_or]
      . show (MM.get (if _ then _ else _) _).getD []=_
        rw [List.filter_append]
        by_cases h0:(S.op d).kind=2
        . rw [if_pos h0,MM.bT]
          by_cases e:a=(S.op d).at_
          . have:S.rv a d=true:=by unfold Sh.rv;rw [hg,h0,e];simp
            rw [if_pos e];subst e;rw [hI.kG];simp [this]
          . have:S.rv a d=false:=by unfold Sh.rv;rw [hg,h0];simp [show ¬ (S.op d).at_=a from λ h=>e h.symm]
            rw [if_neg e,hI.kG];simp [this]
        . have:S.rv a d=false:=by unfold Sh.rv;simp [h0]
          rw [if_neg h0,hI.kG];simp [this]
      . intro x hx
        have hx:x∈(if (S.op d).kind=2 then MM.put X.kG X.cf (S.op d).at_ ((MM.get X.kG (S.op d).at_).getD []++[d]) else X.kG):=hx
        by_cases h0:(S.op d).kind=2
        . rw [if_pos h0] at hx
          rcases Cf hx with hx | ⟨_,hx⟩
          . exact hI.full x hx
          . rw [hx];simp
        . rw [if_neg h0] at hx
          exact hI.full x hx
theorem Gd (S:Sh)(ds:List Dt):Ld S ds (vR S ds):=Nh S _ ds rfl
end
section
abbrev OG:=MM Dt (Nat×List Dt)
def gv:Nat×List Dt->SV
 | (_,[])=> .d .aN
 | (n,d::L)=> .gs n (d::L).length
theorem l8 {n:Nat}{L:List Dt}(h:L≠[]):gv (n,L)= .gs n L.length:=by
 cases L with
 | nil=>exact absurd rfl h
 | cons d L=>rfl
def fK (L:List Dt):Ob:= .arr 37 2 L.length ((L.flatMap Dt.ds).map .d)
def OG.pl (G:OG):MM Dt (List Dt):=G.map λ x=>(x.1,x.2.1,x.2.2.2)
def OG.tl (G:OG):Hp:=G.map λ x=>(x.2.2.1,fK x.2.2.2)
structure nj (G:OG)(lo kk:Nat):Prop where
 nd:(G.map (·.2.2.1)).Nodup
 bd:∀ x,x∈G->lo<=x.2.2.1/\x.2.2.1<kk
 full:∀ x,x∈G->x.2.2.2≠[]
theorem nj.more {G:OG}{lo kk k':Nat}(h:nj G lo kk)(hk:kk<=k'):nj G lo k':=⟨h.nd,λ x hx=>⟨(h.bd x hx).1,by have:=(h.bd x hx).2;omega⟩,h.full⟩
theorem OG.Le (G:OG)(a:Dt):MM.idx G.pl a=MM.idx G a:=by
 unfold MM.idx OG.pl;rw [List.findIdx?_map];rfl
theorem OG.Bc (G:OG)(a:Dt):MM.get G.pl a=(MM.get G a).map (·.2):=by
 unfold MM.get OG.pl;rw [List.find?_map,Option.map_map,Option.map_map];rfl
theorem OG.Lf (G:OG)(a:Dt):MM.has G.pl a=MM.has G a:=by unfold MM.has;rw [OG.Bc,Option.isSome_map]
theorem OG.Ge (G:OG)(c:Nat)(a:Dt)(v:Nat×List Dt):OG.pl (MM.put G c a v)=MM.put G.pl c a v.2:=by
 unfold MM.put;rw [OG.Le];cases MM.idx G a with
 | none=>simp [OG.pl]
 | some i=>
  unfold OG.pl;apply List.ext_getElem?;intro j;simp only [List.getElem?_map,List.getElem?_modify];cases G[j]? with
  | none=>simp
  | some x=>by_cases e:i=j <;> simp [e]
theorem OG.Lg (G:OG)(c:Nat)(a:Dt):MM.jh G.pl c a=MM.jh G c a:=by unfold MM.jh;rw [OG.Lf]
theorem OG.Ni {G:OG}{c:Nat}(h:MM.wf G.pl c):MM.wf G c:=by
 have e1:MM.keys G.pl=MM.keys G:=by unfold MM.keys OG.pl;rw [List.map_map];rfl
 have e2:G.pl.map (·.1)=G.map (·.1):=by unfold OG.pl;rw [List.map_map];rfl
 refine ⟨by rw [<- e1];exact h.keys,by rw [<- e2];exact h.times,λ x hx=> ?_⟩;exact h.old (x.1,x.2.1,x.2.2.2) (List.mem_map.2 ⟨x,hx,rfl⟩)
theorem OG.vu (G:OG):G.tl.map (·.1)=G.map (·.2.2.1):=by unfold OG.tl;rw [List.map_map];rfl
theorem nj.Cg {G:OG}{lo kk:Nat}(h:nj G lo kk){x:Nat×Dt×(Nat×List Dt)}(hx:x∈G):lk G.tl x.2.2.1=some (fK x.2.2.2):=
 aH (by rw [OG.vu];exact h.nd) (x.2.2.1,fK x.2.2.2) (List.mem_map.2 ⟨x,hx,rfl⟩)
theorem nj.out {G:OG}{lo kk n:Nat}(h:nj G lo kk)(hn:n<lo\/kk<=n):lk G.tl n=none:=by
 refine gq λ hm=> ?_
 rw [OG.vu] at hm;obtain ⟨x,hx,e⟩:=List.mem_map.1 hm;have:=h.bd x hx;omega
theorem nj.tB {G:OG}{lo kk k:Nat}(h:nj G lo kk)(hk:kk<=k):G.tl.ok (λ n=>decide (n<k))=true:=by
 unfold Hp.ok OG.tl;rw [List.all_eq_true];intro y hy;obtain ⟨x,hx,rfl⟩:=List.mem_map.1 hy;have:=(h.bd x hx).2;simp only [fK,Ob.ok,SV.bg,Bool.and_true,decide_eq_true_eq];omega
theorem yF {G:OG}{lo kk k:Nat}(h:nj G lo kk)(hk:kk<=k):((ah Dt.cells gv G).all λ e=>e.2.1.ok (λ n=>decide (n<k)) && e.2.2.ok (λ n=>decide (n<k)))=true:=by
 rw [List.all_eq_true];intro y hy;obtain ⟨x,hx,rfl⟩:=eV hy;have:=(h.bd x hx).2;dsimp only;obtain ⟨t,a,n,L⟩:=x;rw [l8 (h.full _ hx)];simp only [SV.ok,Dt.aq,Bool.true_and,decide_eq_true_eq];dsimp only at this;omega
theorem vv {K V:Type}[DecidableEq K]{m:MM K V}(hk:(MM.keys m).Nodup){c:Nat}{a:K}{v:V}{x:Nat×K×V}(hx:x∈MM.put m c a v):(x∈m/\x.2.1≠a)\/x.2.1=a/\x.2.2=v:=by
 by_cases e:x.2.1=a
 .refine .inr ⟨e,?_⟩
  have hk2:(MM.keys (MM.put m c a v)).Nodup:=by
   rw [MM.ru]
   split
   .exact hk
   .rename_i hh
    rw [List.nodup_append];refine ⟨hk,by simp,λ y hy z hz=> ?_⟩;simp only [List.mem_singleton] at hz;subst hz;intro e2;subst e2;exact hh (MM.ia.2 hy)
  have h1:=mem_get2 hk2 hx;rw [e,MM.bT,if_pos rfl] at h1;injection h1 with h1;exact h1.symm
 .rcases Cf hx with h | ⟨h,_⟩
  .exact .inl ⟨h,e⟩
  .exact absurd h e
 where
 mem_get2 {K V:Type} [DecidableEq K] {m:MM K V} (hk:(MM.keys m).Nodup) {x:Nat×K×V} (hx:x∈m):MM.get m x.2.1=some x.2.2:=MM.get_of_mem hk (t:=x.1) hx
theorem nj.put {G:OG}{lo kk:Nat}(h:nj G lo kk)(hk:(MM.keys G).Nodup)(c:Nat)(a:Dt)(L:List Dt)(n k':Nat)(hn:kk<=n)(hlo:lo<=n)(hk':n<k')(hL:L≠[]):nj (MM.put G c a (n,L)) lo k':=by
 refine ⟨?_,λ x hx=> ?_,λ x hx=> ?_⟩
 .unfold MM.put
  cases hi:MM.idx G a with
  | none=>
   dsimp only;rw [List.map_append,List.nodup_append];refine ⟨h.nd,by simp,λ y hy z hz=> ?_⟩;obtain ⟨x,hx,rfl⟩:=List.mem_map.1 hy;simp at hz;have:=(h.bd x hx).2;omega
  | some i=>
   dsimp only;rw [List.nodup_iff_pairwise_ne,List.pairwise_iff_getElem];have hp:=List.pairwise_iff_getElem.1 (List.nodup_iff_pairwise_ne.1 h.nd);intro p q hp1 hq1 hpq;simp only [List.length_map,List.length_modify] at hp1 hq1;have gx:=hp p q (by simpa using hp1) (by simpa using hq1) hpq;simp only [List.getElem_map,List.getElem_modify] at gx ⊢;have b1:=(h.bd G[p] (List.getElem_mem _)).2;have b2:=(h.bd G[q] (List.getElem_mem _)).2
   by_cases e1:i=p
   .by_cases e2:i=q
    .omega
    .rw [if_pos e1,if_neg e2];show n≠_;omega
   .by_cases e2:i=q
    .rw [if_neg e1,if_pos e2];show _≠n;omega
    .rw [if_neg e1,if_neg e2];exact gx
 .rcases vv hk hx with ⟨h1,_⟩ | ⟨_,h1⟩
  .have:=h.bd x h1;omega
  .rw [h1];exact ⟨hlo,hk'⟩
 .rcases vv hk hx with ⟨h1,_⟩ | ⟨_,h1⟩
  .exact h.full x h1
  .rw [h1];exact hL
theorem Gf {G:OG}{lo kk:Nat}(h:nj G lo kk){x y:Nat×Dt×(Nat×List Dt)}(hx:x∈G)(hy:y∈G)(e:x.2.2.1=y.2.2.1):x=y:=by
 have hp:=List.pairwise_iff_getElem.1 (List.nodup_iff_pairwise_ne.1 h.nd);obtain ⟨i,hi,rfl⟩:=List.getElem_of_mem hx;obtain ⟨j,hj,rfl⟩:=List.getElem_of_mem hy;rcases Nat.lt_trichotomy i j with hij | hij | hij
 .have:=hp i j (by simpa using hi) (by simpa using hj) hij
  simp only [List.getElem_map] at this;exact absurd e this
 .subst hij;rfl
 .have:=hp j i (by simpa using hj) (by simpa using hi) hij
  simp only [List.getElem_map] at this;exact absurd e.symm this
theorem nj.Mb {G:OG}{lo kk:Nat}(h:nj G lo kk)(hk:(MM.keys G).Nodup){c:Nat}{a:Dt}{L:List Dt}{n:Nat}{H:Hp}(h1:lk H n=some (fK L))(h2:∀ x,x∈G->x.2.1≠a->lk H x.2.2.1=lk G.tl x.2.2.1):∀ y,y∈OG.tl (MM.put G c a (n,L))->lk H y.1=some y.2:=by
 intro y hy;obtain ⟨x,hx,rfl⟩:=List.mem_map.1 hy;rcases vv hk hx with ⟨g1,g2⟩ | ⟨_,g1⟩
 .show lk H x.2.2.1=some (fK x.2.2.2)
  rw [h2 x g1 g2];exact h.Cg g1
 .show lk H x.2.2.1=some (fK x.2.2.2)
  rw [g1];exact h1
mutual
theorem SV.nW {n len:Nat}{ds:List DV}{q:Nat->Bool}(hq:q n=false):∀ (s:SV),s.ok q=true->s.iB n len ds=s
 | .gs m l,h=>by
  simp only [SV.iB];rw [if_neg];intro e;subst e;simp only [SV.ok] at h;rw [hq] at h;cases h
 | .agg cs,h=>by simp only [SV.iB];rw [SV.lH hq cs (by simpa only [SV.ok] using h)]
 | .eu cs,h=>by simp only [SV.iB];rw [SV.lH hq cs (by simpa only [SV.ok] using h)]
 | .d _,_=>rfl
 | .ptr _ _,_=>rfl
 | .vp _ _,_=>rfl
 | .bs _ _ _,_=>rfl
 | .mp _,_=>rfl
 | .it _,_=>rfl
 | .fn _ _ _,_=>rfl
 | .yl _,_=>rfl
 | .any,_=>rfl
theorem SV.lH {n len:Nat}{ds:List DV}{q:Nat->Bool}(hq:q n=false):∀ (s:List SV),SV.ay q s=true->SV.jS n len ds s=s
 | [],_=>rfl
 | c::cs,h=>by
  simp only [SV.ay,Bool.and_eq_true] at h;simp only [SV.jS];rw [SV.nW hq c h.1,SV.lH hq cs h.2]
end
theorem s7 {n len:Nat}{ds:List DV}{q:Nat->Bool}(hq:q n=false){es:List (Nat×SV×SV)}(h:(es.all λ e=>e.2.1.ok q && e.2.2.ok q)=true):es.map (λ e=>(e.1,e.2.1,e.2.2.iB n len ds))=es:=by
 conv=>rhs;rw [<- List.map_id es]
 refine List.map_congr_left λ e he=> ?_
 have:=List.all_eq_true.1 h e he;simp only [Bool.and_eq_true] at this;rw [SV.nW hq _ this.2];rfl
theorem Ob.nW {n len:Nat}{ds:List DV}{q:Nat->Bool}(hq:q n=false)(o:Ob)(h:o.ok q=true):o.iB n len ds=o:=by
 cases o with
 | box t cs=>simp only [Ob.iB];rw [SV.lH hq cs (by simpa only [Ob.ok] using h)]
 | map es c=>simp only [Ob.iB];rw [s7 hq (by simpa only [Ob.ok] using h)]
 | _=>rfl
theorem Aa {n len:Nat}{ds:List DV}{q:Nat->Bool}(hq:q n=false){env:List (Nat×SV)}(h:(env.all λ x=>x.2.ok q)=true):k_ n len ds env=env:=by
 unfold k_
 conv=>rhs;rw [<- List.map_id env]
 refine List.map_congr_left λ e he=> ?_
 rw [SV.nW hq _ (List.all_eq_true.1 h e he)];rfl
theorem aL.refl {k:Nat}:∀ {Lh env:List (Nat×SV)},(∀ t s,env.lookup t=some s->Lh.lookup t=some s)->(env.all λ x=>x.2.ok λ n=>decide (n<k))=true->(env.map (·.1)).Nodup->aL id k Lh env
 | _,[],_,_,_=>trivial
 | Lh, (t,s)::env,h,hok,ny=>by
  simp only [List.all_cons,Bool.and_eq_true] at hok;rw [List.map_cons,List.nodup_cons] at ny;simp only [aL];refine ⟨?_,hok.1,aL.refl (λ u x hx=> ?_) hok.2 ny.2⟩
  .rw [h t s (by simp [List.lookup])];simp [SV.oA]
  .refine h u x ?_
   rw [List.lookup_cons];have:(u == t)=false:=by
    rw [beq_eq_false_iff_ne];intro e;subst e;refine ny.1 ?_;have hm:=List.lookup_eq_some_iff.1 hx;obtain ⟨a,b,e,_⟩:=hm;rw [e];simp
   rw [this];exact hx
section
variable {P:Program} {N k0:Nat} {Q:Exit->St->Prop}
theorem SW.Li {s:cu}{st:St}(n:Nat){t:Nat}{cs cs':List SV}(hn:lk st.hp n=some (.box t cs))(hw:∀ (p:Nat->Prop) (μ:Nat->Nm) (M:Mem) (vs:List Value),aX p μ M cs vs->aX p μ M cs' vs)(h:Go.Sl.SW P N k0 s ⟨st.env,gf st.hp n (.box t cs'),st.k⟩ Q):Go.Sl.SW P N k0 s st Q:=by
 intro c hc rd hrf cR M0 w0 c0 a w fO;refine h c hc rd hrf cR M0 w0 c0 a w ?_;obtain ⟨og,hdf,hsz,μ,M,gD,hS,hE⟩:=fO;have hlk:∀ m,lk (gf st.hp n (.box t cs')) m≠none->lk st.hp m≠none:=λ m hm=>by
  rw [tY] at hm
  by_cases e:m=n
  .rw [e,hn];simp
  .rwa [if_neg e] at hm
 refine ⟨og,hdf,hsz,μ,M,gD,⟨⟨hS.mem.cell,hS.mem.mc⟩,λ m ob hm=> ?_,λ m m' hm hm'=>hS.inj m m' (hlk m hm) (hlk m' hm')⟩,hE.yW hlk⟩;rw [tY] at hm
 by_cases e:m=n
 .rw [if_pos e] at hm
  injection hm with hm;subst hm;subst e;obtain ⟨a1,a2,a3⟩:=hS.obs _ _ hn;refine ⟨a1,?_,a3⟩;simp only [cB] at a2 ⊢;obtain ⟨b1,vs,b2,b3⟩:=a2;exact ⟨b1,vs,b2,hw _ _ _ _ b3⟩
 .rw [if_neg e] at hm
  exact hS.obs m ob hm
theorem SW.Oo {s:cu}{X:Hp}{mf cf lo k:Nat}{env:List (Nat×SV)}(og:k0<=k)(hlo:lo<=k)(PL:mf<lo)(hX:X.ok (λ n=>decide (n<lo))=true)(ny:(mf::X.map (·.1)).Nodup)(he:(env.all λ x=>x.2.ok λ n=>decide (n<lo))=true)(y_:(env.map (·.1)).Nodup):
  ∀ (B A:OG),nj B lo k->(∀ x,x∈A->x.2.2.2≠[])->Go.Sl.SW P N k0 s ⟨env,(mf,.map (ah Dt.cells dn (OG.pl A++OG.pl B)) cf)::X,k⟩ Q->Go.Sl.SW P N k0 s ⟨env,(mf,.map (ah Dt.cells dn (OG.pl A)++ah Dt.cells gv B) cf)::(X++OG.tl B),k⟩ Q:=by
 intro B
 induction B with
 | nil=>
  intro A _ _ h
  simpa [OG.pl,OG.tl,ah] using h
 | cons x B ih=>
  intro A hB hA h;obtain ⟨t,a,n,L⟩:=x;have hb:=hB.bd _ (List.mem_cons_self ..);dsimp only at hb;have hL:L≠[]:=hB.full _ (List.mem_cons_self ..);have hB':nj B lo k:=⟨(List.nodup_cons.1 hB.nd).2,λ y hy=>hB.bd y (List.mem_cons_of_mem _ hy),λ y hy=>hB.full y (List.mem_cons_of_mem _ hy)⟩;have hnB:∀ y,y∈B->y.2.2.1≠n:=λ y hy e=>(List.nodup_cons.1 hB.nd).1 (List.mem_map.2 ⟨y,hy,e⟩)
  have hq:(λ m=>decide (m<lo)) n=false:=by simp only [decide_eq_false_iff_not];omega
  have hXn:∀ y,y∈X->y.1<lo:=λ y hy=>by
   have:=List.all_eq_true.1 hX y hy;simp only [Bool.and_eq_true,decide_eq_true_eq] at this;exact this.1
  have htl:∀ G:OG,(∀ y,y∈G->lo<=y.2.2.1)->∀ m,m<lo->lk (OG.tl G) m=none:=λ G hG m hm=>gq λ hh=>by
   rw [OG.vu] at hh;obtain ⟨y,hy,e⟩:=List.mem_map.1 hh;have:=hG y hy;omega
  have hXl:∀ m,lo<=m->lk X m=none:=λ m hm=>gq λ hh=>by
   obtain ⟨y,hy,e⟩:=List.mem_map.1 hh;have:=hXn y hy;omega
  have hlkn:lk ((mf,Ob.map (ah Dt.cells dn (OG.pl A)++ah Dt.cells gv ((t,a,n,L)::B)) cf)::(X++OG.tl ((t,a,n,L)::B))) n=some (.arr 37 2 L.length ((L.flatMap Dt.ds).map .d)):=by
   rw [aa,if_neg (by omega),iK,hXl n hb.1,Option.none_or];exact hB.Cg (x:=(t,a,n,L)) (List.mem_cons_self ..)
  refine SW.rA n (L.flatMap Dt.ds) hlkn rfl ?_;rw [Aa hq he];have hlen:(L.flatMap Dt.ds)=(L.flatMap Dt.ds):=rfl;have hAB:OG.pl A++OG.pl ((t,a,n,L)::B)=OG.pl (A++[(t,a,n,L)])++OG.pl B:=by simp [OG.pl]
  rw [hAB] at h;refine SW.weak id (st1:=⟨env,(mf,.map (ah Dt.cells dn (OG.pl (A++[(t,a,n,L)]))++ah Dt.cells gv B) cf)::(X++OG.tl B),k⟩) (aI.same og (aL.refl (λ _ _ h=>h) ?_ y_) ?_ ?_) (ih (A++[(t,a,n,L)]) hB' (λ y hy=> ?_) h)
  .rw [List.all_eq_true] at he ⊢
   exact λ y hy=>SV.eW (λ m hm=>by simp only [decide_eq_true_eq] at *;omega) _ (he y hy)
  .refine ak (by simp only [decide_eq_true_eq];omega) ?_ ?_
   .show (ah Dt.cells dn (OG.pl (A++[(t,a,n,L)]))++ah Dt.cells gv B).all _=true
    rw [List.all_append,yF hB' (Nat.le_refl _),Bool.and_true];exact dw _ _
   .have h1:=Hp.bw hlo hX
    have h2:=hB'.tB (Nat.le_refl k);unfold Hp.ok at*;rw [List.all_append,h1,h2];rfl
  .intro y hy
   have vV:∀ m,m≠n->lk (AP n L.length (L.flatMap Dt.ds) (cE ((mf,Ob.map (ah Dt.cells dn (OG.pl A)++ah Dt.cells gv ((t,a,n,L)::B)) cf)::(X++OG.tl ((t,a,n,L)::B))) n)) m=(lk ((mf,Ob.map (ah Dt.cells dn (OG.pl A)++ah Dt.cells gv ((t,a,n,L)::B)) cf)::(X++OG.tl ((t,a,n,L)::B))) m).map (Ob.iB n L.length (L.flatMap Dt.ds)):=λ m hm=>by
    rw [BV,dg,if_neg hm]
   rcases List.mem_cons.1 hy with rfl | hy
   .show lk _ mf=_
    rw [vV mf (by omega),aa,if_pos rfl];have e1:(ah Dt.cells dn (OG.pl A)).map (λ e=>(e.1,e.2.1,e.2.2.iB n L.length (L.flatMap Dt.ds)))=ah Dt.cells dn (OG.pl A):=s7 (q:=λ _=>false) rfl (dw _ _);have e2:(ah Dt.cells gv B).map (λ e=>(e.1,e.2.1,e.2.2.iB n L.length (L.flatMap Dt.ds)))=ah Dt.cells gv B:=by
     conv=>rhs;rw [<- List.map_id (ah Dt.cells gv B)]
     refine List.map_congr_left λ e he=> ?_
     obtain ⟨y,hy,rfl⟩:=eV he;obtain ⟨t',a',n',L'⟩:=y;have:=hnB _ hy;dsimp only at this;rw [l8 (hB'.full _ hy)];simp only [SV.iB,if_neg this];rfl
    have e3:(gv (n,L)).iB n L.length (L.flatMap Dt.ds)=dn L:=by
     rw [l8 hL];simp only [SV.iB,if_true];cases L with
     | nil=>exact absurd rfl hL
     | cons d L=>rfl
    simp only [Option.map_some,Ob.iB,List.map_append,e1];have e4:ah Dt.cells gv ((t,a,n,L)::B)=(t,SV.agg a.cells,gv (n,L))::ah Dt.cells gv B:=rfl;rw [e4,List.map_cons,e2,e3];simp [OG.pl,ah]
   .rcases List.mem_append.1 hy with hy | hy
    .have hlt:=hXn y hy
     have hne:y.1≠mf:=λ e=>(List.nodup_cons.1 ny).1 (by rw [<- e];exact List.mem_map.2 ⟨y,hy,rfl⟩)
     rw [vV y.1 (by omega),aa,if_neg hne,iK,aH (List.nodup_cons.1 ny).2 y hy];have hok:=List.all_eq_true.1 hX y hy;simp only [Bool.and_eq_true] at hok;simp only [Option.some_or,Option.map_some];rw [Ob.nW hq _ hok.2]
    .obtain ⟨z,hz,rfl⟩:=List.mem_map.1 hy
     have hz1:=hnB z hz;have hz2:=(hB'.bd z hz).1;rw [vV _ hz1,aa,if_neg (by show z.2.2.1≠mf;omega),iK,hXl _ hz2,Option.none_or];rw [show lk (OG.tl ((t,a,n,L)::B)) z.2.2.1=some (fK z.2.2.2) from hB.Cg (List.mem_cons_of_mem _ hz)];rfl
  .rcases List.mem_append.1 hy with hy | hy
   .exact hA y hy
   .rw [List.mem_singleton] at hy;rw [hy];exact hL
end
end
section
theorem Dk {k:Nat}(h:15<=k):((k == 0)=false/\(0 == k)=false/\(k=0)=False/\(0=k)=False)/\((k == 1)=false/\(1 == k)=false/\(k=1)=False/\(1=k)=False)/\((k == 2)=false/\(2 == k)=false/\(k=2)=False/\(2=k)=False)/\((k == 7)=false/\(7 == k)=false/\(k=7)=False/\(7=k)=False)/\((k == 8)=false/\(8 == k)=false/\(k=8)=False/\(8=k)=False)/\((k == 9)=false/\(9 == k)=false/\(k=9)=False/\(9=k)=False)/\((k == 10)=false/\(10 == k)=false/\(k=10)=False/\(10=k)=False)/\((k == 11)=false/\(11 == k)=false/\(k=11)=False/\(11=k)=False)/\((k == 12)=false/\(12 == k)=false/\(k=12)=False/\(12=k)=False)/\((k == 13)=false/\(13 == k)=false/\(k=13)=False/\(13=k)=False)/\((k == 14)=false/\(14 == k)=false/\(k=14)=False/\(14=k)=False):=⟨b_ (by omega),b_ (by omega),b_ (by omega),b_ (by omega),b_ (by omega),b_ (by omega),b_ (by omega),b_ (by omega),b_ (by omega),b_ (by omega),b_ (by omega)⟩
abbrev Az (sp:SV)(S:Sh)(X:Ix)(kG:List (Nat×SV×SV))(R:Hp):Hp:=(14,.box 110 [sp,.mp 11,.mp 12,.mp 13])::(13,.map kG X.cf)::(12,.map (ah Dt.cells dn X.ch) X.cc)::(11,.map (ah Dt.cells ov X.ops) X.co)::
 (10,.box 117 [.ptr 2 0,.mp 7,.mp 8,.mp 9])::(7,.map (ah Dt.cells ov S.ops) S.co)::(8,.map (ah Dt.cells iv S.gj) S.ca)::(9,.map (ah Dt.cells dv S.mI) S.cl)::(2,.box 166 [.mp 0,.mp 1])::(0,.map (ah Dt.cells cv S.tr) S.ct)::(1,.map (ah Dt.cells ov S.md) S.cm)::R
abbrev hX (S:Sh)(X:Ix):Hp:=Az .any S X (ah Dt.cells dn X.kG) []
theorem yG {sp:SV}(S:Sh)(X:Ix){es:List (Nat×SV×SV)}{R:Hp}{k:Nat}(hk:15<=k)(hsp:sp.ok (λ n=>decide (n<k))=true)(he:(es.all λ e=>e.2.1.ok (λ n=>decide (n<k)) && e.2.2.ok (λ n=>decide (n<k)))=true)(hR:R.ok (λ n=>decide (n<k))=true):(Az sp S X es R).ok (λ n=>decide (n<k))=true:=by
 have a:=a_ (λ n=>decide (n<k)) S.ops;have b:=bB (λ n=>decide (n<k)) S.gj;have c:=jX (λ n=>decide (n<k)) S.mI;have d:=iG (λ n=>decide (n<k)) S.tr;have e:=a_ (λ n=>decide (n<k)) S.md;have f:=a_ (λ n=>decide (n<k)) X.ops;have g:=dw (λ n=>decide (n<k)) X.ch;refine ak (by simp;omega) (by simp [Ob.ok,SV.ay,SV.ok,hsp];omega) (ak (by simp;omega) he (ak (by simp;omega) g (ak (by simp;omega) f (ak (by simp;omega) (by simp [Ob.ok,SV.ay,SV.ok];omega) (ak (by simp;omega) a (ak (by simp;omega) b (ak (by simp;omega) c (ak (by simp;omega) (by simp [Ob.ok,SV.ay,SV.ok];omega) (ak (by simp;omega) d (ak (by simp;omega) e hR))))))))))
theorem JW (S:Sh)(X:Ix){k:Nat}(hk:15<=k):(hX S X).ok (λ n=>decide (n<k))=true:=yG S X hk rfl (dw _ _) rfl
theorem Ch (sp:SV)(S:Sh)(X:Ix)(es:List (Nat×SV×SV))(R:Hp):HSub S.j5 (Az sp S X es R):=by
 refine HSub.cons ?_ (HSub.cons ?_ (HSub.cons ?_ (HSub.cons ?_ (HSub.cons ?_ (HSub.cons ?_ (HSub.cons ?_ (HSub.nil _))))))) <;> rfl
theorem s8 {F h:Hp}{n:Nat}{ob:Ob}(hF:HSub F h)(hn:lk F n=none):HSub F ((n,ob)::h):=λ m o hm=>by
 rw [aa,if_neg (λ e=>by rw [e,hn] at hm;cases hm)];exact hF m o hm
theorem yH (S:Sh){n:Nat}(h:15<=n):lk S.j5 n=none:=by
 refine gq ?_;simp;omega
theorem Gg (S:Sh)(hu:S.tR)(hs:lZ S)(d:Dt)(k:Nat):aJ Tryz.prog shape_Shape_Good.f [.ptr 10 0,.agg d.cells] S.j5 k 0 (bl (S.good d)) S.j5:=FV S hu hs d n10 yA k
theorem Lj (S:Sh)(hs:lZ S)(d:Dt)(k:Nat):aJ Tryz.prog shape_Shape_Op.f [.ptr 10 0,.agg d.cells] S.j5 k 0 (.eu [.agg (S.op d).cells,bl (MM.has S.ops d)]) S.j5:=
 S.at_ (A2 S hs d) (λ ρ=>by simp [SV.aQ,SV.aA,Dt.ax]) (λ ρ=>by simp [SV.aQ,SV.aA,ag.ax]) n10 yA k
abbrev Sh.Oq (S:Sh):Tr:=⟨2,0,1,S.tr,S.ct,S.md,S.cm⟩
abbrev Sh.h3 (S:Sh):Hp:=[(2,.box 166 [.mp 0,.mp 1]),(0,.map (ah Dt.cells cv S.tr) S.ct),(1,.map (ah Dt.cells ov S.md) S.cm)]
theorem Sh.Lk (S:Sh):S.Oq.sep:=⟨by show (0:Nat)≠2;decide,by show (1:Nat)≠2;decide,by show (0:Nat)≠1;decide⟩
noncomputable def Sh.dG (S:Sh)(d:Dt):List Dt:=(m_ S.tr d).map (·.dot)
theorem Dl (S:Sh)(hu:S.tR)(d:Dt):∃ n,∃ e:Int,∀ k,aJ Tryz.prog tree_Tree_Chain.f [.ptr 2 0,.agg d.cells] S.h3 k n (.eu [dn (S.dG d),.d (.int .i64 e)]) S.h3:=by
 obtain ⟨L,hL,hlen⟩:=hu d;refine ⟨6+L.length*(1+2),if MM.has S.tr d then 0 else 7,λ k=> ?_⟩;have h:=E8 (T:=S.Oq) S.Lk d L hL (by omega) k;have e:oJ S.Oq.at_ d L= .eu [dn (S.dG d),.d (.int .i64 (if MM.has S.tr d then 0 else 7))]:=by
  unfold oJ Sh.dG;rw [ig hL];show (if MM.has S.tr d=true then _ else _)=_;unfold MM.has;cases hg:MM.get S.tr d with
  | none=>
   rw [hg] at hL;cases hL;rfl
  | some c=>
   rw [hg] at hL;cases L with
   | nil=>cases hL
   | cons x L=>simp [dn,bq]
 rw [e] at h;exact h
end
section
structure Ot (S:Sh)(ds:List Dt)(i:Nat)(G:OG)(kk:Nat):Prop where
 le:i<=ds.length
 pl:OG.pl G=(vR S (ds.take i)).kG
 ok:nj G 15 kk
 lo:15<=kk
theorem Gh {A R:Hp}{n:Nat}(h:n∉A.map (·.1)):lk (A++R) n=lk R n:=by rw [iK,gq h,Option.none_or]
theorem rO {sp:SV}{S:Sh}{X:Ix}{es:List (Nat×SV×SV)}{R H:Hp}(h:∀ y,y∈Az sp S X es []->lk H y.1=some y.2)(hR:∀ y,y∈R->lk H y.1=some y.2):∀ y,y∈Az sp S X es R->lk H y.1=some y.2:=λ y hy=>by
 rcases List.mem_append.1 (show y∈Az sp S X es []++R from hy) with hy | hy
 .exact h y hy
 .exact hR y hy
section
attribute [local irreducible] SW RW aJ SC ai an
set_option maxHeartbeats 16000000 in
theorem Ci (S:Sh)(ds:List Dt)(hu:S.tR)(hs:lZ S)(hds:ds.length<1000000)
    (hD:∀ k,aJ Tryz.prog shape_Shape_Dots.f [.ptr 10 0] S.j5 k 0 (bq ds) S.j5):SB Tryz.prog revoke_New.f [.ptr 10 0] S.j5 11 4 λ r F=>r= .ptr 14 0/\F=hX S (vR S ds):=by
  refine revoke_New.enter (by simp [SV.ay,SV.ok]) (Sh.ou _ (Nat.le_refl 11)) (by simp) ?_;dsimp only [revoke_New.s,Co.M,Co.J,Co.N,Co.F,Co.Z,Co.b8,Co.aB,Co.bW,Co.T,Co.K,Co.E,Co.L,Co.P,Co.Q,Co.x,Co.W,Co.Y,Co.V,Co.O,Co.D,Co.A,Co.I,Co.S];have hT:=bS.IV S;refine SW.seq (SW.g0 [0,2,3,5,6,10,18,19,20,21,27,55,63] Zm af ?_);refine SW.seq (SW.seq (SW.g1 [0,2,3,5,6,10,18,19,20,21,27,55,63] Zm af hT ?_));refine SW.au rfl (SW.skip (SW.seq ?_));have sp4:cG (cG (cG (cG [SV.d .kA,.d .iV,.d .iV,.d .iV] 0 [.ptr 10 0]) 1 [.mp 11]) 2 [.mp 12]) 3 [.mp 13]=[.ptr 10 0,.mp 11,.mp 12,.mp 13]:=rfl;refine SW.g0 [0,2,3,5,6,10,18,19,20,21,27,55,63] Zm sp4 ?_;refine SW.seq (SW.seq (SW.g1 [0,2,3,5,6,10,18,19,20,21,27,55,63] Zm af hD ?_));refine SW.block (SW.loop (α:={p:Nat×OG×Nat // Ot S ds p.1 p.2.1 p.2.2}) (λ p=>⟨[(20,i64 p.1.1),(19,i64 ds.length),(18,bq ds),(3,.ptr 14 0),(0,.ptr 10 0)],Az (.ptr 10 0) S (vR S (ds.take p.1.1)) (ah Dt.cells gv p.1.2.1) (OG.tl p.1.2.1),p.1.2.2⟩) (λ p=>ds.length - p.1.1) ⟨(0,[],15),Nat.zero_le _,rfl,⟨by simp,by simp,by simp⟩,Nat.le_refl _⟩ id ?_ ?_)
  . show aI 11 _ ⟨[(20,i64 (0:Nat)),(19,i64 ds.length),(18,bq ds),(3,.ptr 14 0),(0,.ptr 10 0)],Az (.ptr 10 0) S Ix.zero (ah Dt.cells gv []) [],15⟩ id
    exact aI.same (by show 11<=15;decide) (by simp [aL,List.lookup,SV.aA,SV.ok,SV.ay]) (yG S _ (Nat.le_refl _) rfl rfl rfl) (λ y hy=>by
      simp only [List.mem_cons,List.not_mem_nil,or_false] at hy;rcases hy with rfl | rfl | rfl | rfl | rfl | rfl | rfl | rfl | rfl | rfl | rfl <;> rfl)
  rintro ⟨⟨i,G,kk⟩,hi⟩;have hi:Ot S ds i G kk:=hi;obtain ⟨p1,p2,p3,p4⟩:=hi;dsimp only at*;have hI:=Gd S (ds.take i);have hwG:MM.wf G (vR S (ds.take i)).cf:=OG.Ni (by rw [p2];exact hI.wf)
  by_cases h:i<ds.length
  . have h1 :decide ((i:Int)<ds.length)=true:=by simp only [decide_eq_true_eq];omega
    obtain ⟨d,hx⟩:=aZ h;have e2:IntKind.i64.wrap ((i:Int)+1)=((i+1:Nat):Int):=wrap_i64 _ (by omega);have htk:ds.take (i+1)=ds.take i++[d]:=dB hx;have hsn:vR S (ds.take (i+1))=Ix.step S (vR S (ds.take i)) d:=by rw [htk,z_]
    have hofl:∀ a,((MM.get (vR S (ds.take i)).kG a).getD []).length<=1000000:=λ a=>by
      rw [hI.kG];have h1:=List.length_filter_le (S.rv a) (ds.take i);have h2:=List.length_take_le i ds;have h3:(ds.take i).length<=ds.length:=by rw [List.length_take];omega
      omega
    clear hI;generalize vR S (ds.take i)=X at hsn p2 hwG hofl ⊢;have fk:=Dk p4;have fj:=Dk (show 15<=kk+1 by omega);have fl:=b_ (show kk+1≠kk by omega);have t0:List.lookup kk (OG.tl G)=none:=p3.out (.inr (Nat.le_refl _));have t1:List.lookup (kk+1) (OG.tl G)=none:=p3.out (.inr (by omega));refine SW.seq (SW.g0 [0,2,3,5,6,10,18,19,20,21,27,55,63] Zm h1 ?_);refine SW.seq (SW.aj rfl (SW.skip (SW.seq (SW.block (SW.seq (SW.g0 [0,2,3,5,6,10,18,19,20,21,27,55,63] Zm (Zq (iq hx) (Zq fk t0)) ?_))))));refine SW.seq (SW.seq ?_);have hs1:HSub S.j5 ((kk,.box 37 d.cells)::Az (.ptr 10 0) S X (ah Dt.cells gv G) (OG.tl G)):=s8 (Ch _ _ _ _ _) (yH S p4);have hG:=Gg S hu hs d
    (refine SW.dL [0,2,3,5,6,10,18,19,20,21,27,55,63] Zm ?_;(repeat (first | refine RW.ro (Zq fk t0) (h:= ?_) | refine RW.skip (h:= ?_) | refine RW.op (Zq fk t0) (h:= ?_) | refine RW.dQ (Zq fk t0) (h:= ?_) | refine RW.bF (h:= ?_) | (refine RW.bC (h:= ?_);(first | refine ai.mk (Zq fk t0) (hs:=hs1) (hc:=hG _) (h:= ?_)))));refine RW.nil ⟨dI (by kernel_rfl),an.mk (h:= ?_)⟩)
    have goOn:∀ (G':OG) (k':Nat) (env:List (Nat×SV)) (hp:Hp) (kz:Nat),OG.pl G'=(Ix.step S X d).kG->nj G' 15 k'->k'<=kz->kk<=k'->(∀ y,y∈Az (.ptr 10 0) S (Ix.step S X d) (ah Dt.cells gv G') (OG.tl G')->lk hp y.1=some y.2)->aL id k' env [(20,i64 ((i+1:Nat):Int)),(19,i64 ds.length),(18,bq ds),(3,.ptr 14 0),(0,.ptr 10 0)]->
        ∃ (j:{p:Nat×OG×Nat // Ot S ds p.1 p.2.1 p.2.2}) (ρ:Nat->Nat),ds.length - j.1.1<ds.length - i/\aI 11 ⟨env,hp,kz⟩ ⟨[(20,i64 j.1.1),(19,i64 ds.length),(18,bq ds),(3,.ptr 14 0),(0,.ptr 10 0)],Az (.ptr 10 0) S (vR S (ds.take j.1.1)) (ah Dt.cells gv j.1.2.1) (OG.tl j.1.2.1),j.1.2.2⟩ ρ:=by
      intro G' k' env hp kz g1 g2 g3 g4 g5 g6;refine ⟨⟨(i+1,G',k'),by show i+1<=_;omega,by show OG.pl G'=(vR S (ds.take (i+1))).kG;rw [hsn];exact g1,g2,by show 15<=k';omega⟩,id,by show ds.length - (i+1)<_;omega,?_⟩;dsimp only;rw [hsn];exact aI.same (by show 11<=k';omega) g6 (yG S _ (by show 15<=k';omega) (by simp [SV.ok];omega) (yF g2 (Nat.le_refl _)) (g2.tB (Nat.le_refl _))) g5
    rcases hgd:S.good d with _ | _
    . have hst:Ix.step S X d=X:=by unfold Ix.step;rw [hgd];rfl
      refine SW.aj rfl (SW.exit ?_);refine (?_:Sl.SW _ _ _ _ _ _);refine SW.g0 [0,2,3,5,6,10,18,19,20,21,27,55,63] Zm e2 ?_;refine goOn G kk _ _ _ (by rw [hst];exact p2) p3 (by omega) (Nat.le_refl _) (rO (λ y hy=> ?_) λ y hy=> ?_) (by simp [aL,List.lookup,SV.aA,SV.ok,SV.ay];omega)
      . rw [hst] at hy
        simp only [List.mem_cons,List.not_mem_nil,or_false] at hy;rcases hy with rfl | rfl | rfl | rfl | rfl | rfl | rfl | rfl | rfl | rfl | rfl <;> simp [aa,fk]
      . obtain ⟨z,hz,rfl⟩:=List.mem_map.1 hy
        have hb:=p3.bd z hz;refine (Gh (A:=(kk,.box 37 d.cells)::Az (.ptr 10 0) S X (ah Dt.cells gv G) []) (R:=OG.tl G) ?_).trans (p3.Cg hz);simp;omega
    . have hst:Ix.step S X d=X.put S d:=by unfold Ix.step;rw [hgd];rfl
      rw [hst] at hsn goOn;refine SW.au rfl (SW.skip ?_);obtain ⟨o,ho⟩:∃ o,S.op d=o:=⟨_,rfl⟩;have hOp:=Lj S hs d;rw [ho] at hOp;have kd:o.cells[14]? =some (.d (.int .u8 o.kind)):=rfl;have cd:List.take 2 (List.drop 15 o.cells)=o.aM.cells:=rfl;have ad:List.take 2 (List.drop 21 o.cells)=o.at_.cells:=rfl;refine SW.seq ?_
      (have fx:=(Zq fk (Zq fj (Zq fl (Zq t0 t1))));refine SW.dL [0,2,3,5,6,10,18,19,20,21,27,55,63] Zm ?_;(repeat (first | refine RW.ro fx (h:= ?_) | refine RW.skip (h:= ?_) | refine RW.op fx (h:= ?_) | refine RW.dQ fx (h:= ?_) | refine RW.bF (h:= ?_) | (refine RW.bC (h:= ?_);(first | refine ai.mk fx (hs:=hs1) (hc:=hOp _) (h:= ?_)))));refine RW.nil ⟨dI (by kernel_rfl),an.mk (h:= ?_)⟩)
      refine SW.seq (SW.gK [0,2,3,5,6,10,18,19,20,21,27,55,63] Zm (Zq fk (Zq fj (Zq fl (Zq t0 (Zq t1 (B5 X.ops X.co d o)))))) (Zq fk (Zq fj fl)) True.intro ?_);refine SW.seq ?_;obtain ⟨nc,ec,hch⟩:=Dl S hu o.aM;have hs2:HSub S.j5 ((kk+1,.box 43 o.cells)::(kk,.box 37 d.cells)::Az (.ptr 10 0) S { X with ops:=MM.put X.ops X.co d o,co:=MM.jh X.ops X.co d} (ah Dt.cells gv G) (OG.tl G)):=s8 (s8 (Ch _ _ _ _ _) (yH S p4)) (yH S (show 15<=kk+1 by omega));have hs3:HSub S.h3 ((kk+1,.box 43 o.cells)::(kk,.box 37 d.cells)::Az (.ptr 10 0) S { X with ops:=MM.put X.ops X.co d o,co:=MM.jh X.ops X.co d} (ah Dt.cells gv G) (OG.tl G)):=λ n ob hn=>hs2 n ob (HSub.cons (h:=S.j5) rfl (HSub.cons rfl (HSub.cons rfl (HSub.nil _))) n ob hn)
      (have fx:=(Zq fk (Zq fj (Zq fl (Zq t0 (Zq t1 (Zq cd (IW X.ch X.cc d (S.dG o.aM))))))));refine SW.dL [0,2,3,5,6,10,18,19,20,21,27,55,63] Zm ?_;(repeat (first | refine RW.ro fx (h:= ?_) | refine RW.skip (h:= ?_) | refine RW.op fx (h:= ?_) | refine RW.dQ fx (h:= ?_) | refine RW.bF (h:= ?_) | (refine RW.bC (h:= ?_);(first | refine ai.mk fx (hs:=hs2) (hc:=hT _) (h:= ?_) | refine ai.mk fx (hs:=hs3) (hc:=hch _) (h:= ?_)))));refine RW.nil ⟨dI (by simp [rz,zb,gI,dx,List.range,List.range.loop,fk,fj,fl] <;> (first | decide | (repeat (first | assumption | refine ⟨?_,?_⟩ | exact .inl (by decide) | exact .inl (.inr (by decide)) | exact .inl (.inl (by decide)) | refine .inr ?_)))),an.mk (h:= ?_)⟩)
      have hput:X.put S d=⟨MM.put X.ops X.co d o,MM.jh X.ops X.co d,if o.kind=0 then MM.put (MM.put X.ch X.cc d (S.dG o.aM)) (MM.jh X.ch X.cc d) d [] else MM.put X.ch X.cc d (S.dG o.aM),if o.kind=0 then MM.jh (MM.put X.ch X.cc d (S.dG o.aM)) (MM.jh X.ch X.cc d) d else MM.jh X.ch X.cc d,
          if o.kind=2 then MM.put X.kG X.cf o.at_ ((MM.get X.kG o.at_).getD []++[d]) else X.kG,if o.kind=2 then MM.jh X.kG X.cf o.at_ else X.cf⟩:=by unfold Ix.put Sh.dG;rw [ho]
      rw [hput] at goOn;clear hsn hput;have htl:∀ z,z∈G->(∀ (c0 c1 c2 c3 c4 c5 c6 c7 c8 c9 ca cb cc:Ob),lk ((kk+1,c0)::(kk,c1)::(14,c2)::(13,c3)::(12,c4)::(11,c5)::(10,c6)::(7,c7)::(8,c8)::(9,c9)::(2,ca)::(0,cb)::(1,cc)::OG.tl G) z.2.2.1=some (fK z.2.2.2)):=λ z hz=>by
        have hb:=p3.bd z hz;have hl:=p3.Cg hz;have fn:=Dk hb.1;have f8:=b_ (show z.2.2.1≠kk by omega);have f9:=b_ (show z.2.2.1≠kk+1 by omega)
        intros
        simp only [aa,fn,f8,f9,if_false];exact hl
      have htail:∀ y,y∈OG.tl G->∀ (c0 c1 c2 c3 c4 c5 c6 c7 c8 c9 ca cb cc:Ob),lk ((kk+1,c0)::(kk,c1)::(14,c2)::(13,c3)::(12,c4)::(11,c5)::(10,c6)::(7,c7)::(8,c8)::(9,c9)::(2,ca)::(0,cb)::(1,cc)::OG.tl G) y.1=some y.2:=λ y hy=>by
        obtain ⟨z,hz,rfl⟩:=List.mem_map.1 hy;exact htl z hz
      by_cases h0:o.kind=0
      . have z0:(((o.kind:Nat):Int) == 0)=true:=by rw [h0];rfl
        have z2:(((o.kind:Nat):Int) == 2)=false:=by rw [h0];rfl
        simp only [h0,if_true,if_false,show ¬ (0:Nat)=2 by decide] at goOn;refine SW.seq (SW.seq (SW.g0 [0,2,3,5,6,10,18,19,20,21,27,55,63] Zm (Zq fk (Zq fj (Zq fl (Zq kd z0)))) ?_));refine SW.aj rfl (SW.gK [0,2,3,5,6,10,18,19,20,21,27,55,63] Zm (Zq fk (Zq fj (Zq fl (Zq t0 (Zq t1 (Gc (MM.put X.ch X.cc d (S.dG o.aM)) (MM.jh X.ch X.cc d) d)))))) (Zq fk (Zq fj fl)) True.intro ?_);refine SW.seq (SW.g0 [0,2,3,5,6,10,18,19,20,21,27,55,63] Zm (Zq fk (Zq fj (Zq fl (Zq kd z2)))) ?_);refine SW.au rfl (SW.skip (SW.g0 [0,2,3,5,6,10,18,19,20,21,27,55,63] Zm e2 ?_));refine goOn G kk _ _ _ p2 p3 (by omega) (Nat.le_refl _) (rO (λ y hy=> ?_) λ y hy=> ?_) (by simp [aL,List.lookup,SV.aA,SV.ok,SV.ay];omega)
        . simp only [List.mem_cons,List.not_mem_nil,or_false] at hy
          rcases hy with rfl | rfl | rfl | rfl | rfl | rfl | rfl | rfl | rfl | rfl | rfl <;> simp [aa,fk,fj,fl]
        . exact htail y hy _ _ _ _ _ _ _ _ _ _ _ _ _
      have z0:(((o.kind:Nat):Int) == 0)=false:=by simpa using h0
      by_cases h2:o.kind=2
      . have z2:(((o.kind:Nat):Int) == 2)=true:=by rw [h2];rfl
        simp only [h0,if_true,if_false,h2,show ¬ (2:Nat)=0 by decide] at goOn;refine SW.seq (SW.seq (SW.g0 [0,2,3,5,6,10,18,19,20,21,27,55,63] Zm (Zq fk (Zq fj (Zq fl (Zq kd z0)))) ?_));refine SW.au rfl (SW.skip (SW.seq (SW.g0 [0,2,3,5,6,10,18,19,20,21,27,55,63] Zm (Zq fk (Zq fj (Zq fl (Zq kd z2)))) ?_)));refine SW.aj rfl ?_;have hlG:=hofl o.at_;rw [<- p2,OG.Bc] at hlG;rw [<- p2,OG.Bc] at goOn;have fe:=t_ (vs:=gv) (kc:=Dt.cells) hwG o.at_ (0,[]);have f1:fP (ah Dt.cells gv G) (.d .aN) (MM.idx G o.at_)=gv ((MM.get G o.at_).getD (0,[])):=iR (vs:=gv) (0,[]) G o.at_;have f2:qO (ah Dt.cells gv G) X.cf (.agg o.at_.cells) (.d .aN) (MM.idx G o.at_)= .map (ah Dt.cells gv (MM.ya G X.cf o.at_ (0,[]))) (MM.jh G X.cf o.at_):=uP (vs:=gv) (kc:=Dt.cells) G X.cf o.at_ (0,[]);have f3:y6 (ah Dt.cells gv G) X.cf (MM.idx G o.at_)=MM.MC G X.cf o.at_:=qD (vs:=gv) (kc:=Dt.cells) G X.cf o.at_;obtain ⟨kn,hkn⟩:∃ kn,kk+2+nc=kn:=⟨_,rfl⟩;rw [hkn];have gk:=Dk (show 15<=kn by omega);have gk0:=b_ (show kn≠kk by omega);have gk1:=b_ (show kn≠kk+1 by omega);have t2:List.lookup kn (OG.tl G)=none:=p3.out (.inr (by omega));rw [OG.Lg] at goOn;have h13:∀ (T:Hp) (m:Nat),15<=m->m<kk->∀ (ck c0 c1 c2 c3 c4 c5 c6 c7 c8 c9 ca cb cc:Ob),lk ((kn,ck)::(kk+1,c0)::(kk,c1)::(14,c2)::(13,c3)::(12,c4)::(11,c5)::(10,c6)::(7,c7)::(8,c8)::(9,c9)::(2,ca)::(0,cb)::(1,cc)::T) m=lk T m:=λ T m hm1 hm2=>by
          have fn:=Dk hm1;have f8:=b_ (show m≠kk by omega);have f9:=b_ (show m≠kk+1 by omega);have f7:=b_ (show m≠kn by omega)
          intros
          simp only [aa,fn,f8,f9,f7,if_false]
        cases hg:MM.get G o.at_ with
        | none=>
          rw [hg] at f1 goOn;simp only [Option.getD_none,Option.map_none,List.nil_append] at f1 goOn;change _=SV.d .aN at f1;have fp:(ah Dt.cells gv (MM.ya G X.cf o.at_ (0,[]))).modify (MM.pos G o.at_) (λ e=>(e.1,e.2.1,SV.gs kn 1))=ah Dt.cells gv (MM.put G X.cf o.at_ (kn,[d])):=kK (vs:=gv) (kc:=Dt.cells) G X.cf o.at_ (0,[]) (kn,[d]);refine SW.gK [0,2,3,5,6,10,18,19,20,21,27,55,63] Zm (Zq fk (Zq fj (Zq fl (Zq gk (Zq gk0 (Zq gk1 (Zq t0 (Zq t1 (Zq t2 (Zq ad (Zq fe (Zq f1 (Zq f2 (Zq f3 fp)))))))))))))) (Zq fk (Zq fj (Zq fl (Zq gk (Zq gk0 gk1))))) True.intro ?_;refine SW.g0 [0,2,3,5,6,10,18,19,20,21,27,55,63] Zm e2 ?_;have hok:=p3.put hwG.keys X.cf o.at_ [d] kn (kn+1) (by omega) (by omega) (by omega) (by simp);refine goOn (MM.put G X.cf o.at_ (kn,[d])) (kn+1) _ _ _ (OG.Ge _ _ _ _) hok (by omega) (by omega) (rO (λ y hy=> ?_) (p3.Mb hwG.keys ?_ λ x hx _=> ?_)) (by simp [aL,List.lookup,SV.aA,SV.ok,SV.ay];omega)
          . simp only [List.mem_cons,List.not_mem_nil,or_false] at hy
            rcases hy with rfl | rfl | rfl | rfl | rfl | rfl | rfl | rfl | rfl | rfl | rfl <;> simp [aa,fk,fj,fl,gk,gk0,gk1]
          . rw [aa,if_pos rfl];rfl
          . have hb:=p3.bd x hx
            exact h13 _ x.2.2.1 hb.1 hb.2 _ _ _ _ _ _ _ _ _ _ _ _ _ _
        | some g=>
          obtain ⟨n,L⟩:=g;obtain ⟨tt,hgm⟩:=MM.get_mem hg;have hLf:L≠[]:=p3.full _ hgm;have hnb:=p3.bd _ hgm;dsimp only at hnb;rw [hg] at f1 goOn hlG;simp only [Option.getD_some,Option.map_some] at f1 goOn hlG;rw [l8 hLf] at f1;have fp:(ah Dt.cells gv (MM.ya G X.cf o.at_ (0,[]))).modify (MM.pos G o.at_) (λ e=>(e.1,e.2.1,SV.gs kn (L.length+1)))=ah Dt.cells gv (MM.put G X.cf o.at_ (kn,L++[d])):=by
            have:=kK (vs:=gv) (kc:=Dt.cells) G X.cf o.at_ (0,[]) (kn,L++[d])
            rwa [l8 (show L++[d]≠[] by simp),show (L++[d]).length=L.length+1 by simp] at this
          have fn:=Dk hnb.1;have fn0:=b_ (show n≠kk by omega);have fn1:=b_ (show n≠kk+1 by omega);have fn2:=b_ (show n≠kn by omega);have t3:List.lookup n (OG.tl G)=some (.arr 37 2 L.length ((L.flatMap Dt.ds).map .d)):=p3.Cg hgm;have t4:List.lookup kn (cE (OG.tl G) n)=none:=by
            show lk (cE (OG.tl G) n) kn=none;rw [dg,if_neg (by omega)];exact t2
          refine SW.gK [0,2,3,5,6,10,18,19,20,21,27,55,63] Zm (Zq fk (Zq fj (Zq fl (Zq gk (Zq gk0 (Zq gk1 (Zq fn (Zq fn0 (Zq fn1 (Zq fn2 (Zq t0 (Zq t1 (Zq t2 (Zq t3 (Zq t4 (Zq ad (Zq fe (Zq f1 (Zq f2 (Zq f3 fp)))))))))))))))))))) (Zq fk (Zq fj (Zq fl (Zq gk (Zq gk0 (Zq gk1 (Zq fn (Zq fn0 (Zq fn1 fn2))))))))) True.intro ?_;refine SW.g0 [0,2,3,5,6,10,18,19,20,21,27,55,63] Zm e2 ?_;have hok:=p3.put hwG.keys X.cf o.at_ (L++[d]) kn (kn+1) (by omega) (by omega) (by omega) (by simp);refine goOn (MM.put G X.cf o.at_ (kn,L++[d])) (kn+1) _ _ _ (OG.Ge _ _ _ _) hok (by omega) (by omega) (rO (λ y hy=> ?_) (p3.Mb hwG.keys ?_ λ x hx hxa=> ?_)) (by simp [aL,List.lookup,SV.aA,SV.ok,SV.ay];omega)
          . simp only [List.mem_cons,List.not_mem_nil,or_false] at hy
            rcases hy with rfl | rfl | rfl | rfl | rfl | rfl | rfl | rfl | rfl | rfl | rfl <;> simp [aa,fk,fj,fl,gk,gk0,gk1]
          . rw [aa,if_pos rfl]
            simp [fK,Dt.oB]
          . have hb:=p3.bd x hx
            refine (h13 _ x.2.2.1 hb.1 hb.2 _ _ _ _ _ _ _ _ _ _ _ _ _ _).trans ?_;rw [dg,if_neg];intro e;have:=Gf p3 hx hgm e;rw [this] at hxa;exact hxa rfl
      have z2:(((o.kind:Nat):Int) == 2)=false:=by simp;omega
      simp only [h0,if_false,h2] at goOn;refine SW.seq (SW.seq (SW.g0 [0,2,3,5,6,10,18,19,20,21,27,55,63] Zm (Zq fk (Zq fj (Zq fl (Zq kd z0)))) ?_));refine SW.au rfl (SW.skip (SW.seq (SW.g0 [0,2,3,5,6,10,18,19,20,21,27,55,63] Zm (Zq fk (Zq fj (Zq fl (Zq kd z2)))) ?_)));refine SW.au rfl (SW.skip (SW.g0 [0,2,3,5,6,10,18,19,20,21,27,55,63] Zm e2 ?_));refine goOn G kk _ _ _ p2 p3 (by omega) (Nat.le_refl _) (rO (λ y hy=> ?_) λ y hy=> ?_) (by simp [aL,List.lookup,SV.aA,SV.ok,SV.ay];omega)
      . simp only [List.mem_cons,List.not_mem_nil,or_false] at hy
        rcases hy with rfl | rfl | rfl | rfl | rfl | rfl | rfl | rfl | rfl | rfl | rfl <;> simp [aa,fk,fj,fl]
      . exact htail y hy _ _ _ _ _ _ _ _ _ _ _ _ _
  have h1:decide ((i:Int)<ds.length)=false:=by simp only [decide_eq_false_iff_not];omega
  have hi2:i=ds.length:=by omega
  subst hi2;rw [List.take_length] at*;obtain ⟨X,hXe⟩:∃ X,vR S ds=X:=⟨_,rfl⟩;rw [hXe] at p2 hwG hI ⊢;refine SW.seq (SW.g0 [0,2,3,5,6,10,18,19,20,21,27,55,63] Zm h1 ?_);refine SW.seq (SW.au rfl (SW.exit ?_));refine (?_:Sl.SW _ _ _ _ _ _);have ny:(13::(Az .any S X [] []).tail.tail.map (·.1)).Nodup:=by simp
  refine SW.weak id (st1:=⟨[(3,.ptr 14 0)],(13,.map (ah Dt.cells dn (OG.pl [])++ah Dt.cells gv G) X.cf)::(((14,.box 110 [.ptr 10 0,.mp 11,.mp 12,.mp 13])::(12,.map (ah Dt.cells dn X.ch) X.cc)::(11,.map (ah Dt.cells ov X.ops) X.co)::S.j5)++OG.tl G),kk⟩) (aI.same (by show 11<=kk;omega) (by simp [aL,List.lookup,SV.aA,SV.ok,SV.ay];omega) ?_ ?_) (SW.Oo (lo:=15) (by show 11<=kk;omega) p4 (by decide) ?_ (by simp) (by simp [SV.ok]) (by simp) G [] p3 (by simp) ?_)
  . have h:=yG (sp:= .ptr 10 0) S X p4 (by simp [SV.ok];omega) (yF p3 (Nat.le_refl _)) (p3.tB (Nat.le_refl _))
    unfold Hp.ok at*;rw [List.all_eq_true] at h ⊢;refine λ y hy=>h y ?_
    simp only [List.cons_append,List.nil_append,List.mem_cons] at hy ⊢;rcases hy with h | h | h | h | h | h | h | h | h | h | h | h <;> simp [h,OG.pl,ah]
  . intro y hy
    rw [List.mem_cons,List.mem_append] at hy;rcases hy with rfl | hy | hy
    . rfl
    . simp only [List.mem_cons,List.not_mem_nil,or_false] at hy
      rcases hy with rfl | rfl | rfl | rfl | rfl | rfl | rfl | rfl | rfl | rfl <;> rfl
    . obtain ⟨z,hz,rfl⟩:=List.mem_map.1 hy
      have hb:=p3.bd z hz;refine (Gh (A:=Az (.ptr 10 0) S X (ah Dt.cells gv G) []) (R:=OG.tl G) ?_).trans (p3.Cg hz);simp;omega
  . exact ak (by simp) (by simp [Ob.ok,SV.ay,SV.ok]) (ak (by simp) (dw _ _) (ak (by simp) (a_ _ _) (Sh.ou S (by decide))))
  . rw [p2]
    refine SW.Li 14 (cs':=[.any,.mp 11,.mp 12,.mp 13]) rfl (λ p μ M vs h=> ?_) ?_
    . obtain ⟨u,us,e,h1,h2⟩:=aX.aG.1 h
      exact aX.aG.2 ⟨u,us,e,Rp.any,h2⟩
    . refine SW.weak id (st1:=⟨[(3,.ptr 14 0)],hX S X,15⟩) (aI.same (by show 11<=15;decide) (by simp [aL,List.lookup,SV.aA,SV.ok,SV.ay]) (JW S X (Nat.le_refl _)) (λ y hy=> ?_)) ?_
      . simp only [List.mem_cons,List.not_mem_nil,or_false] at hy
        rcases hy with rfl | rfl | rfl | rfl | rfl | rfl | rfl | rfl | rfl | rfl | rfl <;> rfl
      refine SW.seq (SW.g0 [0,2,3,5,6,10,18,19,20,21,27,55,63] Zm af ?_);refine SW.ret ?_;exact End.mk (hX S X) (h4:=⟨rfl,rfl⟩) (h6:=JW S X (by decide))
end
end
end Go.Proofs.YtaelhkkjgfobhaaGreat
namespace Go.Proofs.YtaelhkkjgfobhaaGreat
open Go.Sl Go.Proofs
section
abbrev Ix.h0 (X:Ix):Hp:=[(0,.box 110 [.any,.mp 1,.mp 2,.mp 3]),(1,.map (ah Dt.cells ov X.ops) X.co),(2,.map (ah Dt.cells dn X.ch) X.cc),(3,.map (ah Dt.cells dn X.kG) X.cf)]
abbrev Ix.JX (X:Ix):Hp:=[(14,.box 110 [.any,.mp 11,.mp 12,.mp 13]),(11,.map (ah Dt.cells ov X.ops) X.co),(12,.map (ah Dt.cells dn X.ch) X.cc),(13,.map (ah Dt.cells dn X.kG) X.cf)]
theorem Ix.tT (X:Ix){k:Nat}(h:4<=k):X.h0.ok (λ n=>decide (n<k))=true:=by
 have a:=a_ (λ n=>decide (n<k)) X.ops;have b:=dw (λ n=>decide (n<k)) X.ch;have c:=dw (λ n=>decide (n<k)) X.kG;simp only [Hp.ok,List.all_cons,List.all_nil,Ob.ok,SV.ay,SV.ok,a,b,c,Bool.and_true,Bool.true_and,Bool.and_eq_true,decide_eq_true_eq];omega
theorem Ix.Nj (X:Ix):∀ i,i< [14,11,12,13].length->lk X.h0 i≠none:=λ i hi=>by
 match i,hi with
 | 0,_ | 1,_ | 2,_ | 3,_=>simp [aa]
theorem Ix.Nk (X:Ix)(k:Nat):X.h0.aA (ff [14,11,12,13] k)=X.JX:=by
 simp [Hp.aA,Ob.aA,SV.aQ,SV.aA,ff,bA,dA]
theorem Ix.Ou {X:Ix}{f:FuncId}{args args':List SV}{nk:Nat}{r r':SV}(h:SB Tryz.prog f args X.h0 4 nk λ v F=>v=r/\F=X.h0)(ha:∀ k,SV.aQ (ff [14,11,12,13] k) args=args')(hr:∀ k,r.aA (ff [14,11,12,13] k)=r')(k:Nat):aJ Tryz.prog f args' X.JX k nk r' X.JX:=by
 have:=SB.nM [14,11,12,13] h (by decide) X.Nj k;rw [X.Nk,ha,hr] at this;exact this
def Ix.op (X:Ix)(d:Dt):ag:=(MM.get X.ops d).getD ag.zero
def Ix.mD (X:Ix)(d:Dt):List Dt:=(MM.get X.ch d).getD []
def Ix.rj (X:Ix)(c:Dt):List Dt:=(MM.get X.kG c).getD []
structure Ix.small (X:Ix):Prop where
 ch:∀ d,(X.mD d).length<=1000
 rv:∀ d,(X.rj d).length<=1000
 op:X.ops.length<=500
 wo:MM.wf X.ops X.co
def jd (X:Ix)(d:Dt):SV:=if MM.has X.ops d then .eu [.d (.int .i64 (((X.mD d).length:Int) - 1)),i64 0] else .eu [i64 0,i64 7]
section
attribute [local irreducible] SW RW aJ SC ai an
theorem Gi (X:Ix):SB Tryz.prog revoke_Index_none.f [.ptr 0 0] X.h0 4 0 λ r F=>r=bl false/\F=X.h0:=by
 refine revoke_Index_none.enter (by simp [SV.ay,SV.ok]) (X.tT (Nat.le_refl 4)) (by simp) ?_;dsimp only [revoke_Index_none.s,Co.M,Co.G,Co.J,Co.H,Co.F,Co.B,Co.S];(repeat (first | refine SW.seq ?_ | refine SW.block ?_ | refine SW.g0 [0,2] Zm af ?_ | refine SW.skip ?_ | refine SW.exit ?_ | refine SW.ret ?_ | refine SW.aj rfl ?_ | refine SW.au rfl ?_));exact End.mk X.h0 (h4:=⟨rfl,rfl⟩) (h6:=X.tT (Nat.le_refl 4))
theorem Cj (X:Ix)(k:Nat):aJ Tryz.prog revoke_Index_none.f [.ptr 0 0] X.h0 k 0 (bl false) X.h0:=by
 have:=SB.nM [0,1,2,3] (Gi X) (by decide) X.Nj k;rw [show X.h0.aA (ff [0,1,2,3] k)=X.h0 by simp [Hp.aA,Ob.aA,SV.aQ,SV.aA,ff,bA,dA]] at this;exact this
set_option maxHeartbeats 4000000 in
theorem Dm (X:Ix)(hX:X.small)(d:Dt):SB Tryz.prog revoke_Index_Level.f [.ptr 0 0,.agg d.cells] X.h0 4 2 λ r F=>r=jd X d/\F=X.h0:=by
 refine revoke_Index_Level.enter (by simp [SV.ay,SV.ok]) (X.tT (Nat.le_refl 4)) (by simp) ?_;dsimp only [revoke_Index_Level.s,Co.M,Co.J,Co.F,Co.Z,Co.bW,Co.T,Co.K,Co.E,Co.L,Co.P,Co.x,Co.W,Co.Y,Co.O,Co.D,Co.A,Co.S];have hn:=Cj X;refine SW.seq (SW.g0 [0,1,3,4,5,7,9,20] Zm af ?_);refine SW.seq (SW.seq (SW.g1 [0,1,3,4,5,7,9,20] Zm af hn ?_));refine SW.au rfl (SW.skip (SW.seq (SW.seq ?_)));obtain ⟨o,ho⟩:∃ o,(MM.get X.ops d).getD ag.zero=o:=⟨_,rfl⟩;rcases hh:MM.has X.ops d with _ | _
 .refine SW.g0 [0,1,3,4,5,7,9,20] Zm (Zq hh ho) ?_
  refine SW.seq (SW.g0 [0,1,3,4,5,7,9,20] Zm af ?_);refine SW.aj rfl (SW.seq (SW.g0 [0,1,3,4,5,7,9,20] Zm af ?_));refine SW.ret ?_;exact End.mk X.h0 (h4:=⟨by simp [jd,hh,fc],rfl⟩) (h6:=X.tT (by decide))
 .refine SW.g0 [0,1,3,4,5,7,9,20] Zm (Zq hh ho) ?_
  refine SW.seq (SW.g0 [0,1,3,4,5,7,9,20] Zm af ?_);refine SW.au rfl (SW.skip ?_);have hl:=hX.ch d;have hlk:=uo X.ch d;have hlv:jd X d= .eu [.d (.int .i64 (((X.mD d).length:Int) - 1)),i64 0]:=by unfold jd;rw [hh];rfl
  change fP _ _ _=dn (X.mD d) at hlk;rw [hlv];generalize X.mD d=L at hl hlk ⊢;have hw:IntKind.i64.wrap ((L.length:Int) - 1)=(L.length:Int) - 1:=wrap_i64 _ (by omega);refine SW.seq ?_;cases L with
  | nil=>
   change _=SV.d .aN at hlk;refine SW.g0 [0,1,3,4,5,7,9,20] Zm hlk ?_;refine SW.ret ?_;exact End.mk X.h0 (h4:=⟨by simp [fc],rfl⟩) (h6:=X.tT (by decide))
  | cons c L=>
   change _=bq (c::L) at hlk;refine SW.g0 [0,1,3,4,5,7,9,20] Zm (Zq hlk hw) ?_;refine SW.ret ?_;exact End.mk X.h0 (h4:=⟨by simp [fc],rfl⟩) (h6:=X.tT (by decide))
end
end
section
structure Ov (C:Prop):Prop where
 c:C
theorem later {C G:Prop}(h:Ov C->G)(c:C):G:=h ⟨c⟩
structure Gj {α σ:Type}(P:Program)(y:Nat)(enc:α->SV)(aP:Nat)(Fh:σ->Hp)(nx:σ->α->Nat->σ)(inv:σ->Nat->Prop):Prop where
 uT:∀ s,lk (Fh s) y≠none
 nd:∀ s j,inv s j->∀ x,x∈Fh s->lk (Fh s) x.1=some x.2
 cl:∀ s j,inv s j->(Fh s).ok (λ n=>(lk (Fh s) n).isSome)=true
 call:∀ s x k j,inv s (j+1)->(Fh s).ok (λ n=>decide (n<k))=true->Mu P y [enc x] (Fh s) k aP (bl true) (Fh (nx s x k))/\inv (nx s x k) j/\(Fh (nx s x k)).ok (λ n=>decide (n<k+aP))=true/\
  ∀ n,lk (Fh (nx s x k)) n≠none->lk (Fh s) n≠none\/(k<=n/\n<k+aP)
abbrev Nl {α σ:Type}(nx:σ->α->Nat->σ)(s:σ)(x:α)(s':σ):Prop:=∃ k,s'=nx s x k
theorem RW.AO {P:Program}{d y:Nat}{f:X}{args:List X}{g:Option (Nat×Bool)}{r:List SI}{K:St->List (Bool×List Nat)->Prop}{az:List SV}{env:List (Nat×SV)}{hp F F':Hp}{k:Nat}{v:SV}{nk:Nat}
  (hf:ev (λ t=>env.lookup t) f=some (.yl y)) (ha:qu (λ t=>env.lookup t) args=some az) (hc:Mu P y az F k nk v F') (hl:lk F y≠none) (hs:HSub F hp)
  (hg:g=none\/∃ t w,g=some (t,w)/\env.lookup t=some (.d (.bool w)))
  (h:∀ H,(∀ n,lk H n=Ay (lk hp) (lk F) (lk F') n)->Go.Sl.RW P r ⟨(d,v)::env,H,k+nk⟩ λ st' ts=>K st' ((false,F.map (·.1)++F'.map (·.1))::ts)):Go.Sl.RW P (⟨some d,.call f args,g⟩::r) ⟨env,hp,k⟩ K:=by
 refine RW.cons (e:=⟨v,F,F',nk,Mu P y az F k nk v F'/\lk F y≠none/\HSub F hp⟩) (λ dG=>⟨.call F v F' nk::dG,?_⟩) ⟨hc,hl,hs⟩ ?_
 .rcases hg with rfl | ⟨t,w,rfl,hl⟩
  .simp only [gd,fM,hf,ha]
  .simp [gd,hl,fM,hf,ha]
 .rw [jb]
  exact h _ λ n=>congrFun (h_ (ro:=false) hs (λ h=>by cases h)) n
theorem IX {σ:Type}{G:Hp}{Fh:σ->Hp}{s s':σ}{kk k':Nat}(hO:oG G Fh s kk)(hk:kk<=k')(hok:(Fh s').ok (λ n=>decide (n<k'))=true)(hnm:∀ n,lk (Fh s') n≠none->lk (Fh s) n≠none\/(kk<=n/\n<k')):oG G Fh s' k':=
 ⟨hO.nd,λ n hn=>by have:=hO.lt n hn;omega,λ n hn=>Classical.byContradiction λ hno=>(hnm n hno).elim (λ h=>h (hO.no n hn)) (λ h=>by have:=hO.lt n hn;omega),Hp.bw hk hO.ok,hok⟩
theorem Bd {σ:Type}{G:Hp}{Fh:σ->Hp}{s s':σ}{kk k':Nat}(hO:oG G Fh s kk)(NW:oG G Fh s' k'){H:Hp}(hH:∀ n,lk H n=Go.Sl.Ay (lk (G++Fh s)) (lk (Fh s)) (lk (Fh s')) n):∀ n ob,lk (G++Fh s') n=some ob->lk H n=some ob:=λ n ob hn=>by
 rw [hH]
 by_cases hm:n∈G.map (·.1)
 .rw [dz (hO.no n hm) (NW.no n hm)]
  rw [iK] at hn ⊢;cases hg:lk G n with
  | some o=>rw [hg] at hn;exact hn
  | none=>rw [hg,Option.none_or,NW.no n hm] at hn;cases hn
 .rw [iK,gq hm,Option.none_or] at hn
  rw [eM (.inr (by rw [hn];simp)),hn]
def Ix.dh (X:Ix)(o:ag):List Dt:=(X.mD o.dot).flatMap λ c=>(X.rj c).filter λ t=> !o.before (X.op t)
section
attribute [local irreducible] SW RW aJ SC ai an
theorem Be (X:Ix)(o:ag):SB Tryz.prog revoke_Index_threats.f [.ptr 0 0,.agg o.cells] X.h0 4 2 λ r F=>r= .fn (.func revoke_Index_threats_1.f) [] [.ptr 4 0,.ptr 5 0]/\F=(5,.box 43 o.cells)::(4,.box 27 [.ptr 0 0])::X.h0:=by
 refine revoke_Index_threats.enter (by simp [SV.ay,SV.ok,ag.aq]) (X.tT (Nat.le_refl 4)) (by simp) ?_;dsimp only [revoke_Index_threats.s,Co.M,Co.J,Co.F,Co.x,Co.S];refine SW.seq (SW.g0 [0,1,2,3,4] Zm af ?_);refine SW.seq (SW.g0 [0,1,2,3,4] Zm af ?_);refine SW.ret ?_;exact End.mk ((5,.box 43 o.cells)::(4,.box 27 [.ptr 0 0])::X.h0) (h4:=⟨rfl,rfl⟩) (h6:=ak (by decide) (by simp [Ob.ok,ag.aq]) (ak (by decide) (by simp [Ob.ok,SV.ay,SV.ok]) (X.tT (by decide))))
end
abbrev TG (X:Ix)(o:ag)(bx bo:Nat):Hp:=(bx,.box 27 [.ptr 0 0])::(bo,.box 43 o.cells)::X.h0
def Ix.rP (X:Ix)(o:ag)(i:Nat):List Dt:=((X.mD o.dot).drop i).flatMap λ c=>(X.rj c).filter λ t=> !o.before (X.op t)
def Ix.ot (X:Ix)(o:ag)(i:Nat)(R:List Dt)(j:Nat):List Dt:=(R.drop j).filter (λ t=> !o.before (X.op t))++X.rP o (i+1)
theorem Ix.Dn (X:Ix)(o:ag){i:Nat}(h:(X.mD o.dot).length<=i):X.rP o i=[]:=by unfold Ix.rP;rw [List.drop_eq_nil_of_le h];rfl
theorem vw {α:Type}{l:List α}{i:Nat}{x:α}(h:l[i]? =some x):l.drop i=x::l.drop (i+1):=by
 obtain ⟨h1,rfl⟩:=List.getElem?_eq_some_iff.1 h;exact List.drop_eq_getElem_cons h1
theorem Ix.Gk (X:Ix)(o:ag){i:Nat}{c:Dt}(h:(X.mD o.dot)[i]? =some c):X.rP o i=X.ot o i (X.rj c) 0:=by
 unfold Ix.rP Ix.ot;rw [vw h];rfl
theorem Ix.Dp (X:Ix)(o:ag)(i:Nat){R:List Dt}{j:Nat}(h:R.length<=j):X.ot o i R j=X.rP o (i+1):=by unfold Ix.ot;rw [List.drop_eq_nil_of_le h];rfl
theorem Ix.Dq (X:Ix)(o:ag)(i:Nat){R:List Dt}{j:Nat}{t:Dt}(h:R[j]? =some t):X.ot o i R j=if o.before (X.op t) then X.ot o i R (j+1) else t::X.ot o i R (j+1):=by
 unfold Ix.ot;rw [vw h,List.filter_cons];cases o.before (X.op t) <;> rfl
structure TI {σ:Type}(X:Ix)(o:ag)(Fh:σ->Hp)(nx:σ->Dt->Nat->σ)(inv:σ->Nat->Prop)(s0:σ)(k0 bx bo b:Nat)(rest:List Dt)(s:σ)(kk:Nat):Prop where
 h1:∃ xs,lK (Nl nx) s0 xs s/\X.dh o=xs++rest
 h2:inv s rest.length
 own:oG (TG X o bx bo) Fh s kk
 h3:kk<=b
 h4:4<=kk
 nm:∀ n,lk (Fh s) n≠none->lk (Fh s0) n≠none\/k0<=n
def iN (aP:Nat):Nat:=1000000*(1+1000000*(1+aP))
end
section
attribute [local irreducible] SW RW aJ SC ai an
section
variable {σ:Type} {Fh:σ->Hp} {nx:σ->Dt->Nat->σ} {inv:σ->Nat->Prop} {aP y bx bo k:Nat}
theorem TI.nd {X:Ix}{o:ag}{s0 s:σ}{b kk:Nat}{rest:List Dt}(h:TI X o Fh nx inv s0 k bx bo b rest s kk):bx≠bo/\(bx≠0/\bx≠1/\bx≠2/\bx≠3)/\(bo≠0/\bo≠1/\bo≠2/\bo≠3)/\bx<kk/\bo<kk:=by
 have h1:=h.own.nd;simp only [TG,List.map_cons,List.map_nil,List.nodup_cons,List.mem_cons,List.not_mem_nil,or_false,not_or] at h1;obtain ⟨⟨a1,a2,a3,a4,a5⟩,⟨b2,b3,b4,b5⟩,_⟩:=h1;exact ⟨a1,⟨a2,a3,a4,a5⟩,⟨b2,b3,b4,b5⟩,h.own.lt bx (by simp),h.own.lt bo (by simp)⟩
theorem wg {k:Nat}(h:k≠0/\k≠1/\k≠2/\k≠3):((k == 0)=false/\(0 == k)=false/\(k=0)=False/\(0=k)=False)/\((k == 1)=false/\(1 == k)=false/\(k=1)=False/\(1=k)=False)/\((k == 2)=false/\(2 == k)=false/\(k=2)=False/\(2=k)=False)/\((k == 3)=false/\(3 == k)=false/\(k=3)=False/\(3=k)=False):=⟨b_ h.1,b_ h.2.1,b_ h.2.2.1,b_ h.2.2.2⟩
theorem TI.cut {X:Ix}{o:ag}{s0 s:σ}{b kk k':Nat}{rest:List Dt}(h:TI X o Fh nx inv s0 k bx bo b rest s kk){b':Nat}{r':List Dt}(hr:r'=rest)(hk:kk<=k')(hb:k'<=b'):TI X o Fh nx inv s0 k bx bo b' r' s k':=by
 subst hr;exact ⟨h.h1,h.h2,h.own.mono hk,hb,by have:=h.h4;omega,h.nm⟩
set_option maxHeartbeats 16000000 in
theorem Ck (X:Ix)(hX:X.small)(o:ag)(s0:σ)(hy:Gj Tryz.prog y (λ d:Dt=> .agg d.cells) aP Fh nx inv)(h0:TI X o Fh nx inv s0 k bx bo k (X.dh o) s0 k):
  SB Tryz.prog revoke_Index_threats_1.f [.yl y,.ptr bx 0,.ptr bo 0] (TG X o bx bo++Fh s0) k (iN aP) λ r F=>r= .eu []/\∃ s',TI X o Fh nx inv s0 k bx bo (k+iN aP) [] s' (k+iN aP)/\F=TG X o bx bo++Fh s':=by
 have hyk:y<k:=by
  obtain ⟨ob,ho⟩:=Option.ne_none_iff_exists'.1 (hy.uT s0)
  simpa using (Hp.eF h0.own.okF ho).1
 obtain ⟨n1,n2,n3,n4,n5⟩:=h0.nd;refine revoke_Index_threats_1.enter (by simp [SV.ok,SV.ay];omega) h0.own.tB (by simp) ?_;dsimp only [revoke_Index_threats_1.s,Co.M,Co.G,Co.J,Co.H,Co.F,Co.Z,Co.b8,Co.aB,Co.bW,Co.T,Co.K,Co.L,Co.Q,Co.W,Co.Y,Co.V,Co.U,Co.O,Co.D,Co.A,Co.I,Co.S];have f1:=b_ n1;have f2:=wg n2;have f3:=wg n3;have hnk:iN aP=1000000*(1+1000000*(1+aP)):=rfl;obtain ⟨C,hC⟩:∃ C,1+1000000*(1+aP)=C:=⟨_,rfl⟩;rw [hC] at hnk;have hkk:∀ s kk (env:List (Nat×SV)) (hp:Hp) (kq:Nat),oG (TG X o bx bo) Fh s kk->(∃ j,inv s j)->k<=kk->(∀ n ob,lk (TG X o bx bo++Fh s) n=some ob->lk hp n=some ob)->∀ {q_:List (Nat×SV)},aL id kk env q_->aI k ⟨env,hp,kq⟩ ⟨q_,TG X o bx bo++Fh s,kk⟩ id:=λ s kk env hp kq hO ⟨j,hj⟩ hk hh q_ he=>aI.own hO (hy.nd s j hj) hk he hh
 have fin:∀ (s':σ),TI X o Fh nx inv s0 k bx bo (k+iN aP) [] s' (k+iN aP)->Go.Sl.Fin k (iN aP) [] (λ r F=>r= .eu []/\∃ s',TI X o Fh nx inv s0 k bx bo (k+iN aP) [] s' (k+iN aP)/\F=TG X o bx bo++Fh s') ⟨[],TG X o bx bo++Fh s',k+iN aP⟩:=λ s' h=>End.mk (TG X o bx bo++Fh s') (h3:=λ _ _ h=>h) (h4:=⟨rfl,s',h,rfl⟩) (h6:=h.own.tB) (h7:=Nat.le_refl _)
 obtain ⟨L,hL⟩:∃ L,X.mD o.dot=L:=⟨_,rfl⟩;have hlk:=uo X.ch o.dot;change fP _ _ _=dn (X.mD o.dot) at hlk;have hLl:=hX.ch o.dot;rw [hL] at hlk hLl;have o2:List.take 2 o.cells=o.dot.cells:=rfl;have hmul:∀ i,i<=L.length->i*C<=iN aP:=λ i hi=>by rw [hnk];exact Nat.mul_le_mul_right C (by omega)
 simp only [TG,Ix.h0,List.cons_append,List.nil_append];refine SW.seq ?_;apply later
 .intro late
  rcases hLc:L with _ | ⟨c,L'⟩
  .have hlk0:fP (ah Dt.cells dn X.ch) (.d .aN) (MM.idx X.ch o.dot)= .d .aN:=by rw [hlk,hLc];rfl
   refine SW.g0 [0,1,2,5,7,14,15,16,17,25,26,27,28,45] Zm (Zq hlk0 (Zq o2 (Zq f1 (Zq f2 f3)))) ?_;refine SW.aN 14 rfl ?_;refine SW.weak id (st1:=⟨[(16,i64 (0:Nat)),(15,i64 L.length),(14,bq L),(0,.yl y),(1,.ptr bx 0),(2,.ptr bo 0)],TG X o bx bo++Fh s0,k⟩) (hkk s0 k _ _ _ h0.own ⟨_,h0.h2⟩ (Nat.le_refl _) (λ _ _ h=>h) (by rw [hLc];simp [aL,List.lookup,SV.aA,SV.ok,SV.ay];omega)) late.c
  .have hlk0:fP (ah Dt.cells dn X.ch) (.d .aN) (MM.idx X.ch o.dot)=bq (c::L'):=by rw [hlk,hLc];rfl
   refine SW.g0 [0,1,2,5,7,14,15,16,17,25,26,27,28,45] Zm (Zq hlk0 (Zq o2 (Zq f1 (Zq f2 f3)))) ?_;refine SW.weak id (st1:=⟨[(16,i64 (0:Nat)),(15,i64 L.length),(14,bq L),(0,.yl y),(1,.ptr bx 0),(2,.ptr bo 0)],TG X o bx bo++Fh s0,k⟩) (hkk s0 k _ _ _ h0.own ⟨_,h0.h2⟩ (Nat.le_refl _) (λ _ _ h=>h) (by rw [hLc];simp [aL,List.lookup,SV.aA,SV.ok,SV.ay];omega)) late.c
 refine SW.block ?_
 refine SW.loop (α:={i:Nat×σ×Nat // (i.1<=L.length/\k<=i.2.2)/\TI X o Fh nx inv s0 k bx bo (k+i.1*C) (X.rP o i.1) i.2.1 i.2.2})
  (λ i=>⟨[(16,i64 i.1.1),(15,i64 L.length),(14,bq L),(0,.yl y),(1,.ptr bx 0),(2,.ptr bo 0)],TG X o bx bo++Fh i.1.2.1,i.1.2.2⟩)
  (λ i=>L.length - i.1.1) ⟨(0,s0,k),⟨Nat.zero_le _,Nat.le_refl _⟩,by show TI X o Fh nx inv s0 k bx bo (k+0*C) (X.rP o 0) s0 k;rw [Nat.zero_mul];exact h0⟩ id ?_ ?_
 .exact hkk s0 k _ _ _ h0.own ⟨_,h0.h2⟩ (Nat.le_refl _) (λ _ _ h=>h) (by simp [aL,List.lookup,SV.aA,SV.ok,SV.ay];omega)
 rintro ⟨⟨i,s,kk⟩,hi⟩;have hi:(i<=L.length/\k<=kk)/\TI X o Fh nx inv s0 k bx bo (k+i*C) (X.rP o i) s kk:=hi;obtain ⟨⟨p1,p2⟩,p3⟩:=hi;dsimp only at*;have hmi:=hmul i p1
 by_cases h:i<L.length
 .have h1:decide ((i:Int)<L.length)=true:=by simp only [decide_eq_true_eq];omega
  obtain ⟨c,hx⟩:=aZ h;have t2:IntKind.i64.wrap ((i:Int)+1)=((i+1:Nat):Int):=wrap_i64 _ (by omega);have h41:=p3.h4;have z0:=b_ (show kk≠bx by omega);have z1:=b_ (show kk≠bo by omega);have z2:=wg (k:=kk) ⟨by omega,by omega,by omega,by omega⟩;have g2:List.lookup kk (Fh s)=none:=p3.own.out (Nat.le_refl _);simp only [TG,Ix.h0,List.cons_append,List.nil_append];refine SW.seq (SW.g0 [0,1,2,5,7,14,15,16,17,25,26,27,28,45] Zm h1 ?_);refine SW.seq (SW.aj rfl (SW.skip (SW.seq (SW.block (SW.seq (SW.g0 [0,1,2,5,7,14,15,16,17,25,26,27,28,45] Zm (Zq (iq hx) (Zq f1 (Zq f2 (Zq f3 (Zq z0 (Zq z1 (Zq z2 g2))))))) ?_))))));refine SW.seq ?_;obtain ⟨R,hR⟩:∃ R,X.rj c=R:=⟨_,rfl⟩;have hlk2:=uo X.kG c;change fP _ _ _=dn (X.rj c) at hlk2;have hRl:=hX.rv c;rw [hR] at hlk2 hRl;have hrI:=X.Gk o (by rw [hL];exact hx);rw [hR] at hrI;have hO1:oG ((kk,.box 37 c.cells)::TG X o bx bo) Fh s (kk+1):=oG.new p3.own (Nat.le_refl _) (Nat.lt_succ_self _) (Dt.aq _ _);have p4:TI X o Fh nx inv s0 k bx bo (k+i*C+1+0*(1+aP)) (X.ot o i R 0) s (kk+1):=p3.cut hrI.symm (Nat.le_succ _) (by have:=p3.h3;omega);have hw1:∀ (env q_:List (Nat×SV)) (kq:Nat),aL id (kk+1) env q_->aI k ⟨env,((kk,.box 37 c.cells)::TG X o bx bo)++Fh s,kq⟩ ⟨q_,TG X o bx bo++Fh s,kk+1⟩ id:=λ env q_ kq he=>hkk s (kk+1) _ _ _ p4.own ⟨_,p4.h2⟩ (by omega) (hO1.keep (λ z hz=>List.mem_cons_of_mem _ hz)) he
  apply later
  .intro late
   rcases hRc:R with _ | ⟨t0,R'⟩
   .have hlk0:fP (ah Dt.cells dn X.kG) (.d .aN) (MM.idx X.kG c)= .d .aN:=by rw [hlk2,hRc];rfl
    refine SW.g0 [0,1,2,5,7,14,15,16,17,25,26,27,28,45] Zm (Zq hlk0 (Zq f1 (Zq f2 (Zq f3 (Zq z0 (Zq z1 (Zq z2 g2))))))) ?_;refine SW.aN 25 rfl ?_;refine SW.weak id (st1:=⟨[(27,i64 (0:Nat)),(26,i64 R.length),(25,bq R),(16,i64 i),(15,i64 L.length),(14,bq L),(0,.yl y),(1,.ptr bx 0),(2,.ptr bo 0)],TG X o bx bo++Fh s,kk+1⟩) (hw1 _ _ _ (by rw [hRc];simp [aL,List.lookup,SV.aA,SV.ok,SV.ay];omega)) late.c
   .have hlk0:fP (ah Dt.cells dn X.kG) (.d .aN) (MM.idx X.kG c)=bq (t0::R'):=by rw [hlk2,hRc];rfl
    refine SW.g0 [0,1,2,5,7,14,15,16,17,25,26,27,28,45] Zm (Zq hlk0 (Zq f1 (Zq f2 (Zq f3 (Zq z0 (Zq z1 (Zq z2 g2))))))) ?_;refine SW.weak id (st1:=⟨[(27,i64 (0:Nat)),(26,i64 R.length),(25,bq R),(16,i64 i),(15,i64 L.length),(14,bq L),(0,.yl y),(1,.ptr bx 0),(2,.ptr bo 0)],TG X o bx bo++Fh s,kk+1⟩) (hw1 _ _ _ (by rw [hRc];simp [aL,List.lookup,SV.aA,SV.ok,SV.ay];omega)) late.c
  refine SW.block ?_
  refine SW.loop (α:={q:Nat×σ×Nat // (q.1<=R.length/\k<=q.2.2)/\TI X o Fh nx inv s0 k bx bo (k+i*C+1+q.1*(1+aP)) (X.ot o i R q.1) q.2.1 q.2.2})
   (λ q=>⟨[(27,i64 q.1.1),(26,i64 R.length),(25,bq R),(16,i64 i),(15,i64 L.length),(14,bq L),(0,.yl y),(1,.ptr bx 0),(2,.ptr bo 0)],TG X o bx bo++Fh q.1.2.1,q.1.2.2⟩)
   (λ q=>R.length - q.1.1) ⟨(0,s,kk+1),⟨Nat.zero_le _,by show k<=kk+1;omega⟩,p4⟩ id ?_ ?_
  .exact hkk s (kk+1) _ _ _ p4.own ⟨_,p4.h2⟩ (by omega) (λ _ _ h=>h) (by simp [aL,List.lookup,SV.aA,SV.ok,SV.ay];omega)
  rintro ⟨⟨j,s1,kj⟩,hj'⟩;have hj':(j<=R.length/\k<=kj)/\TI X o Fh nx inv s0 k bx bo (k+i*C+1+j*(1+aP)) (X.ot o i R j) s1 kj:=hj';obtain ⟨⟨q1,q2⟩,q3⟩:=hj';dsimp only at*;clear p4 hw1 hO1 g2 z0 z1 z2 p3 h41;have hmj:j*(1+aP)<=1000000*(1+aP):=Nat.mul_le_mul_right _ (by omega)
  by_cases hj:j<R.length
  .have k1:decide ((j:Int)<R.length)=true:=by simp only [decide_eq_true_eq];omega
   obtain ⟨t,ht⟩:=aZ hj;have k2:IntKind.i64.wrap ((j:Int)+1)=((j+1:Nat):Int):=wrap_i64 _ (by omega);have hgt:=X.Dq o i ht;have h41:=q3.h4;have hmj1:(j+1)*(1+aP)=j*(1+aP)+(1+aP):=by rw [Nat.add_mul,Nat.one_mul]
   have h3':=q3.h3;have z0:=b_ (show kj≠bx by omega);have z1:=b_ (show kj≠bo by omega);have z2:=wg (k:=kj) ⟨by omega,by omega,by omega,by omega⟩;have g2:List.lookup kj (Fh s1)=none:=q3.own.out (Nat.le_refl _);have hO1:oG ((kj,.box 37 t.cells)::TG X o bx bo) Fh s1 (kj+1):=oG.new q3.own (Nat.le_refl _) (Nat.lt_succ_self _) (Dt.aq _ _);have hO0:oG (TG X o bx bo) Fh s1 (kj+1):=q3.own.mono (Nat.le_succ _);simp only [TG,Ix.h0,List.cons_append,List.nil_append];refine SW.seq (SW.g0 [0,1,2,5,7,14,15,16,17,25,26,27,28,45] Zm k1 ?_);refine SW.seq (SW.aj rfl (SW.skip (SW.seq (SW.block (SW.seq (SW.g0 [0,1,2,5,7,14,15,16,17,25,26,27,28,45] Zm (Zq (iq ht) (Zq f1 (Zq f2 (Zq f3 (Zq z0 (Zq z1 (Zq z2 g2))))))) ?_))))));refine SW.seq ?_;obtain ⟨r,hr⟩:∃ r,(MM.get X.ops t).getD ag.zero=r:=⟨_,rfl⟩;have hrt:X.op t=r:=hr;rw [hrt] at hgt;have hb:=kP o r;rcases hbr:o.before r with _ | _
   .rw [hbr] at hb hgt
    simp only [Bool.false_eq_true,if_false] at hgt;have hinv:inv s1 ((X.ot o i R (j+1)).length+1):=by
     have:=q3.h2;rw [hgt] at this;exact this
    obtain ⟨c1,c2,c3,c4⟩:=hy.call s1 t (kj+1) _ hinv (Hp.bw (Nat.le_succ _) q3.own.okF);have hsubF:HSub (Fh s1) ((kj,.box 37 t.cells)::(bx,.box 27 [.ptr 0 0])::(bo,.box 43 o.cells)::(0,.box 110 [.any,.mp 1,.mp 2,.mp 3])::(1,.map (ah Dt.cells ov X.ops) X.co)::(2,.map (ah Dt.cells dn X.ch) X.cc)::(3,.map (ah Dt.cells dn X.kG) X.cf)::Fh s1):=hO1.sub;have hin:=hy.uT s1;generalize hs2:nx s1 t (kj+1)=s2 at c1 c2 c3 c4
    (have fx:=(Zq hr (Zq f1 (Zq f2 (Zq f3 (Zq z0 (Zq z1 (Zq z2 g2)))))));refine SW.dL [0,1,2,5,7,14,15,16,17,25,26,27,28,45] Zm ?_;(repeat (first | refine RW.ro fx (h:= ?_) | refine RW.skip (h:= ?_) | refine RW.op fx (h:= ?_) | refine RW.dQ fx (h:= ?_) | refine RW.bF (h:= ?_) | (refine RW.AO rfl rfl c1 hin hsubF (.inr ⟨_,_,rfl,rfl⟩) (h:= ?_);intro H hH) | (refine RW.bC (h:= ?_);(first | refine ai.mk fx (hc:=hb _) (h:= ?_)))));refine RW.nil ⟨dI (by simp [rz,zb,gI,dx,List.range,List.range.loop,f1,f2,f3,z0,z1,z2] <;> (first | decide | (repeat (first | assumption | refine ⟨?_,?_⟩ | exact .inl (by decide) | exact .inl (.inr (by decide)) | exact .inl (.inl (by decide)) | refine .inr ?_)))),an.mk (h:= ?_)⟩)
    have hO2:oG ((kj,.box 37 t.cells)::TG X o bx bo) Fh s2 (kj+1+aP):=IX hO1 (by omega) c3 c4;have hO3:oG (TG X o bx bo) Fh s2 (kj+1+aP):=hO2.less (List.sublist_cons_self _ _);have hlkH:=Bd hO1 hO2 hH;refine SW.au rfl (SW.skip (SW.g0 [0,1,2,5,7,14,15,16,17,25,26,27,28,45] Zm k2 ?_));obtain ⟨xs,e1,e2⟩:=q3.h1;refine ⟨⟨(j+1,s2,kj+1+aP),⟨by show j+1<=_;omega,by show k<=kj+1+aP;omega⟩,⟨⟨xs++[t],.snoc e1 ⟨_,hs2.symm⟩,by rw [e2,hgt];simp⟩,c2,hO3,by show kj+1+aP<=k+i*C+1+(j+1)*(1+aP);omega,by show 4<=kj+1+aP;omega,λ n hn=>(c4 n hn).elim (q3.nm n) λ h=> .inr (by omega)⟩⟩,id,by show R.length - (j+1)<R.length - j;omega,?_⟩;exact hkk s2 _ _ _ _ hO3 ⟨_,c2⟩ (by omega) (λ n ob hn=>hlkH n ob (hO2.keep (λ z hz=>List.mem_cons_of_mem _ hz) n ob hn)) (by simp [aL,List.lookup,SV.aA,SV.ok,SV.ay];omega)
   .rw [hbr] at hb hgt
    simp only [if_true] at hgt;refine SW.g1 [0,1,2,5,7,14,15,16,17,25,26,27,28,45] Zm (Zq hr (Zq f1 (Zq f2 (Zq f3 (Zq z0 (Zq z1 (Zq z2 g2))))))) hb ?_;refine SW.au rfl (SW.skip (SW.g0 [0,1,2,5,7,14,15,16,17,25,26,27,28,45] Zm k2 ?_));refine ⟨⟨(j+1,s1,kj+1),⟨by show j+1<=_;omega,by show k<=kj+1;omega⟩,q3.cut hgt.symm (Nat.le_succ _) (by show kj+1<=k+i*C+1+(j+1)*(1+aP);omega)⟩,id,by show R.length - (j+1)<R.length - j;omega,?_⟩;exact hkk s1 _ _ _ _ hO0 ⟨_,q3.h2⟩ (by omega) (hO1.keep (λ z hz=>List.mem_cons_of_mem _ hz)) (by simp [aL,List.lookup,SV.aA,SV.ok,SV.ay];omega)
  .have k1:decide ((j:Int)<R.length)=false:=by simp only [decide_eq_false_iff_not];omega
   refine SW.seq (SW.g0 [0,1,2,5,7,14,15,16,17,25,26,27,28,45] Zm k1 ?_);have hjl:j=R.length:=by omega
   rw [hjl] at q3;refine SW.seq (SW.au rfl (SW.exit ?_));refine (?_:Sl.SW _ _ _ _ _ _);refine SW.g0 [0,1,2,5,7,14,15,16,17,25,26,27,28,45] Zm t2 ?_;have hb1:(i+1)*C=i*C+C:=by rw [Nat.add_mul,Nat.one_mul]
   have h3':=q3.h3;rw [<- hjl] at h3';refine ⟨⟨(i+1,s1,kj),⟨by show i+1<=_;omega,q2⟩,q3.cut (X.Dp o i (Nat.le_refl _)).symm (Nat.le_refl _) (by show kj<=k+(i+1)*C;omega)⟩,id,by show L.length - (i+1)<L.length - i;omega,?_⟩;exact hkk s1 kj _ _ _ q3.own ⟨_,q3.h2⟩ q2 (λ _ _ h=>h) (by simp [aL,List.lookup,SV.aA,SV.ok,SV.ay];omega)
 .have h1:decide ((i:Int)<L.length)=false:=by simp only [decide_eq_false_iff_not];omega
  refine SW.seq (SW.g0 [0,1,2,5,7,14,15,16,17,25,26,27,28,45] Zm h1 ?_);have p5:=p3.cut (k':=k+iN aP) (b':=k+iN aP) (r':=[]) (X.Dn o (by rw [hL];omega)).symm (by have:=p3.h3;omega) (Nat.le_refl _);refine SW.seq (SW.au rfl (SW.weak id (hkk s (k+iN aP) _ _ _ p5.own ⟨_,p5.h2⟩ (Nat.le_add_right _ _) (λ _ _ h=>h) (q_:=[]) trivial) (SW.exit ?_)));exact fin s p5
end
end
section
noncomputable def jZ (l:List ag)(o:ag):List Dt:=if o.kind=0 then [] else (m_ (bh l).at_ o.aM).map (·.dot)
theorem bS.mD {l:List ag}{S:Sh}(h:bS l S)(o:ag):S.mD o=jZ l o:=by unfold Sh.mD jZ;rw [h.base.tr]
noncomputable def Sh.dh (S:Sh)(ds:List Dt)(o:ag):List Dt:=(S.mD o).flatMap λ c=>(ds.filter (S.rv c)).filter λ t=> !o.before (S.op t)
theorem Sh.Cl {S:Sh}{ds:List Dt}{o:ag}{t:Dt}:t∈S.dh ds o↔t∈ds/\S.good t=true/\(S.op t).kind=2/\(S.op t).at_∈S.mD o/\o.before (S.op t)=false:=by
 unfold Sh.dh Sh.rv;simp only [List.mem_flatMap,List.mem_filter,Bool.and_eq_true,decide_eq_true_eq,Bool.not_eq_true'];constructor
 .rintro ⟨c,hc,⟨h1,h2,h3,rfl⟩,h4⟩
  exact ⟨h1,h2,h3,hc,h4⟩
 .rintro ⟨h1,h2,h3,h4,h5⟩
  exact ⟨_,h4,⟨h1,h2,h3,rfl⟩,h5⟩
theorem lP.IY {l:List ag}{T:Tr}(h:lP l T){oc:Option Cr}{L:List Cr}(hL:oI T.at_ oc L):∀ c d,oc=some c->MM.get T.at_ d=some c->∀ x,x∈L->x.aK=c.aK:=by
 induction hL with
 | none=>intro c d hc;cases hc
 | root c0 _=>
  intro c d hc _ x hx;injection hc with hc;rw [List.mem_singleton] at hx;rw [hx,hc]
 | more c0 L hl hU ih=>
  intro c d hc hg x hx;injection hc with hc;subst hc;rcases List.mem_cons.1 hx with rfl | hx
  .rfl
  .obtain ⟨o,p,q,_,_,hp,hb⟩:=h.above hg hl
   rw [ih p c0.par hp hp x hx,hb.aK,hb.is]
theorem lP.JY {l:List ag}{T:Tr}(h:lP l T){d:Dt}{c:Cr}(hc:MM.get T.at_ d=some c){L:List Cr}(hL:oI T.at_ (MM.get T.at_ d) L){x:Cr}(hx:x∈L):x.level<=c.level/\(x.level=c.level->x.dot=d)/\x.aK=c.aK/\MM.get T.at_ x.dot=some x:=by
 obtain ⟨i,hi⟩:=List.mem_iff_getElem?.1 hx;have h1:=h.zN hL i x c hc hi;refine ⟨by omega,λ e=> ?_,h.IY hL c d hc hc x hx,h.Ff hL x hx⟩;have h0:i=0:=by omega
 subst h0;have h2:L[0]? =some c:=by rw [hc] at hL;exact hL.head
 rw [hi] at h2;injection h2 with h2;rw [h2];exact h.Fe hc
theorem xC {l:List ag}{o:ag}(hk:o.kind≠0){c:Cr}(hc:MM.get (bh l).at_ o.aM=some c):((jZ l o).length:Int)=c.level+1/\∀ a,a∈jZ l o->∃ x,x∈m_ (bh l).at_ o.aM/\x.dot=a:=by
 obtain ⟨L,h1,_,h3⟩:=(gr l).tR o.aM;unfold jZ;rw [if_neg hk,List.length_map,ig h1];refine ⟨h3 c hc,λ a ha=> ?_⟩;obtain ⟨x,hx,e⟩:=List.mem_map.1 ha;exact ⟨x,hx,e⟩
theorem Cn {l:List ag}{o r:ag}(ho:kf l o=0)(hr:kf l r=0)(hk:r.kind=2)(ha:r.at_∈jZ l o):(jZ l r).length<(jZ l o).length/\2<=(jZ l o).length/\r.aK=o.aK:=by
 have tW:o.kind≠0:=λ e=>by unfold jZ at ha;rw [if_pos e] at ha;cases ha
 have hT:=gr l;obtain ⟨co,g1,g2,_,_⟩:=vq ho tW;obtain ⟨cr,g3,g4,_,_⟩:=vq hr (by omega);obtain ⟨n1,n2⟩:=xC tW g1;obtain ⟨n3,_⟩:=xC (show r.kind≠0 by omega) g3;obtain ⟨y,hy,ey⟩:=n2 _ ha;obtain ⟨L,hL,_,_⟩:=hT.tR o.aM;rw [ig hL] at hy;obtain ⟨y1,_,y3,y4⟩:=hT.JY g1 hL hy;rw [ey] at y4;have hab:=zW hr hk;obtain ⟨M,hM,_,_⟩:=hT.tR r.at_;rw [ig hM] at hab;unfold lG at hab;simp only [Bool.and_eq_true,Bool.not_eq_true',decide_eq_false_iff_not,List.any_eq_true,decide_eq_true_eq] at hab;obtain ⟨hne,x,hx,ex⟩:=hab;obtain ⟨x1,x2,x3,x4⟩:=hT.JY y4 hM hx;rw [ex,g3] at x4;injection x4 with x4;subst x4;have hlt:cr.level<y.level:=by
  rcases Int.lt_or_le cr.level y.level with h | h
  .exact h
  .exact absurd (ex.symm.trans (x2 (by omega))) hne
 have hz:=(hT.level g3).1;refine ⟨by omega,by omega,?_⟩;rw [<- g2,<- g4,x3,y3]
end
end Go.Proofs.YtaelhkkjgfobhaaGreat
