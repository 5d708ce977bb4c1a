/-
 Rows of rows that grow: names, what stands there; all are frozen (plain, and one rule).
-/
import Derived.Test.YtaelhkkjgfobhaaGreatRQ
set_option linter.unusedSectionVars false
set_option linter.unusedVariables false
set_option linter.unusedSimpArgs false
namespace Go.Proofs.YtaelhkkjgfobhaaGreat
open Go.Sl Go.Proofs
section
abbrev RG:=List (Nat×List Dt)
def RG.cells (G:RG):List SV:=G.map gv
def RG.full (G:RG):RG:=G.filter λ x=> !x.2.isEmpty
def RG.tl (G:RG):Hp:=(RG.full G).map λ x=>(x.1,fO x.2)
theorem RG.wG {G:RG}{x:Nat×List Dt}:x∈G.full↔x∈G/\x.2≠[]:=by
 unfold RG.full;rw[List.mem_filter];simp
theorem RG.mF {G:RG}{y:Nat×Ob}:y∈G.tl↔∃ x,x∈G/\x.2≠[]/\y=(x.1,fO x.2):=by
 unfold RG.tl;rw[List.mem_map];constructor
 .rintro⟨x,hx,rfl⟩
  exact⟨x,(RG.wG.1 hx).1,(RG.wG.1 hx).2,rfl⟩
 .rintro⟨x,h1,h2,rfl⟩
  exact⟨x,RG.wG.2 ⟨h1,h2⟩,rfl⟩
theorem RG.Kf (G:RG):RG.tl (G++[(0,[])])=RG.tl G:=by simp[RG.tl,RG.full,List.filter_append]
theorem RG.Cc (G:RG):RG.cells (G++[(0,[])])=RG.cells G++[.d .aL]:=by simp[RG.cells,gv]
theorem RG.Ey (G:RG)(i:Nat)(x:Nat×List Dt):RG.cells (G.set i x)=(RG.cells G).set i (gv x):=by unfold RG.cells;rw[List.map_set]
theorem RG.jH (G:RG):(RG.cells G).length=G.length:=by simp[RG.cells]
structure kI (G:RG)(kk:Nat):Prop where
 inj:∀ (i j:Nat) (x y:Nat×List Dt),G[i]? =some x->G[j]? =some y->x.2≠[]->y.2≠[]->x.1=y.1->i=j
 bd:∀ x,x∈G->x.2≠[]->x.1<kk
theorem kI.nil (kk:Nat):kI [] kk:=⟨λ i j x y h=>by simp at h,λ x h=>by simp at h⟩
theorem kI.more {G:RG}{kk k':Nat}(h:kI G kk)(hk:kk<=k'):kI G k':=⟨h.inj,λ x hx hn=>by have:=h.bd x hx hn;omega⟩
theorem kI.Dr {G:RG}{kk:Nat}(h:kI G kk){x:Nat×List Dt}(hx:x∈G)(hn:x.2≠[]):lk G.tl x.1=some (fO x.2):=by
 have hm:(x.1,fO x.2)∈G.tl:=RG.mF.2 ⟨x,hx,hn,rfl⟩;cases hl:lk G.tl x.1 with
 | none=>
  have:=List.lookup_eq_none_iff.1 (show List.lookup x.1 G.tl=none from hl) _ hm;simp at this
 | some ob=>
  obtain⟨y,hy,hyn,e⟩:=RG.mF.1 (kV hl);injection e with e1 e2;obtain⟨i,hi⟩:=List.mem_iff_getElem?.1 hx;obtain⟨j,hj⟩:=List.mem_iff_getElem?.1 hy;have:=h.inj i j x y hi hj hn hyn e1;subst this;rw[hi] at hj;injection hj with hj;subst hj;rw[e2]
theorem kI.out {G:RG}{kk n:Nat}(h:∀ x,x∈G->x.2≠[]->x.1≠n):lk G.tl n=none:=by
 cases hl:lk G.tl n with
 | none=>rfl
 | some ob=>
  obtain⟨y,hy,hyn,e⟩:=RG.mF.1 (kV hl);injection e with e1 e2;exact absurd e1.symm (h y hy hyn)
theorem kI.tY {G:RG}{kk k:Nat}(h:kI G kk)(hk:kk<=k):G.tl.ok (λ n=>decide (n<k))=true:=by
 unfold Hp.ok;rw[List.all_eq_true];intro y hy;obtain⟨x,hx,hn,rfl⟩:=RG.mF.1 hy;have:=h.bd x hx hn;simp only[fO,Ob.ok,SV.aW,Bool.and_true,decide_eq_true_eq];omega
theorem kI.ah {G:RG}{kk k:Nat}(h:kI G kk)(hk:kk<=k):SV.ax (λ n=>decide (n<k)) G.cells=true:=by
 have key:∀ (B:RG),(∀ x,x∈B->x.2≠[]->x.1<kk)->SV.ax (λ n=>decide (n<k)) B.cells=true:=λ B=>by
  induction B with
  | nil=>intro _;rfl
  | cons x B ih=>
   intro hB;have h1:=ih λ y hy=>hB y (List.mem_cons_of_mem _ hy)
   obtain⟨n,L⟩:=x;cases L with
   | nil=>simpa[RG.cells,gv,SV.ax,SV.ok] using h1
   | cons d L=>
    have:=hB (n,d::L) (List.mem_cons_self ..) (by simp);have hn:n<k:=by dsimp only at this;omega
    simpa[RG.cells,gv,SV.ax,SV.ok,hn] using h1
 exact key G h.bd
theorem kI.snoc {G:RG}{kk:Nat}(h:kI G kk):kI (G++[(0,[])]) kk:=by
 have key:∀ (i:Nat) (x:Nat×List Dt),(G++[(0,([]:List Dt))])[i]? =some x->x.2≠[]->G[i]? =some x:=λ i x hx hn=>by
  rw[List.getElem?_append] at hx
  split at hx
  .exact hx
  .rw[List.getElem?_singleton] at hx
   split at hx
   .injection hx with hx;subst hx;exact absurd rfl hn
   .cases hx
 refine⟨λ i j x y hi hj hx hy e=>h.inj i j x y (key i x hi hx) (key j y hj hy) hx hy e,λ x hx hn=> ?_⟩;obtain⟨i,hi⟩:=List.mem_iff_getElem?.1 hx;exact h.bd x (List.mem_of_getElem? (key i x hi hn)) hn
theorem kI.set {G:RG}{kk:Nat}(h:kI G kk)(i:Nat)(n k':Nat)(L:List Dt)(hn:kk<=n)(hk:n<k'):kI (G.set i (n,L)) k':=by
 have key:∀ (j:Nat) (x:Nat×List Dt),(G.set i (n,L))[j]? =some x->(j=i/\x=(n,L))\/j≠i/\G[j]? =some x:=λ j x hj=>by
  rw[List.getElem?_set] at hj
  split at hj
  .rename_i e
   split at hj
   .injection hj with hj;exact .inl ⟨e.symm,hj.symm⟩
   .cases hj
  .rename_i e
   exact .inr ⟨λ h=>e h.symm,hj⟩
 refine⟨λ a b x y ha hb hx hy e=> ?_,λ x hx hxn=> ?_⟩
 .rcases key a x ha with⟨rfl,rfl⟩|⟨a1,a2⟩<;>rcases key b y hb with⟨rfl,rfl⟩|⟨b1,b2⟩
  .rfl
  .have:=h.bd y (List.mem_of_getElem? b2) hy
   dsimp only at e;omega
  .have:=h.bd x (List.mem_of_getElem? a2) hx
   dsimp only at e;omega
  .exact h.inj a b x y a2 b2 hx hy e
 .obtain⟨j,hj⟩:=List.mem_iff_getElem?.1 hx
  rcases key j x hj with⟨_,rfl⟩|⟨_,a2⟩
  .exact hk
  .have:=h.bd x (List.mem_of_getElem? a2) hxn;omega
theorem RG.NC {G:RG}{i n:Nat}{L:List Dt}{H:Hp}(h1:lk H n=some (fO L))(h2:∀ j x,j≠i->G[j]? =some x->x.2≠[]->lk H x.1=some (fO x.2)):∀ y,y∈RG.tl (G.set i (n,L))->lk H y.1=some y.2:=λ y hy=>by
 obtain⟨x,hx,hn,rfl⟩:=RG.mF.1 hy;obtain⟨j,hj⟩:=List.mem_iff_getElem?.1 hx;rw[List.getElem?_set] at hj
 split at hj
 .split at hj
  .injection hj with hj;subst hj;exact h1
  .cases hj
 .rename_i e
  exact h2 j x (λ h=>e h.symm) hj hn
theorem Ob.HP {n len:Nat}{ds:List DV}{q:Nat->Bool}(hq:q n=false)(o:Ob)(h:o.ok q=true):o.yZ n len ds=o:=by
 cases o with
 | arr e sz l cs=>simp only[Ob.yZ];rw[SV.iK hq cs (by simpa only[Ob.ok] using h)]
 | box t cs=>exact Ob.jU hq _ h
 | map es c=>exact Ob.jU hq _ h
 | _=>rfl
theorem HQ (n len:Nat)(ds:List DV):∀ (xs:List DV),SV.j4 n len ds (xs.map .d)=xs.map .d
 | []=>rfl
 | x::xs=>by simp only[List.map_cons,SV.j4,SV.iJ,HQ n len ds xs]
theorem A2 (n len:Nat)(ds:List DV):∀ (a b:List SV),SV.j4 n len ds (a++b)=SV.j4 n len ds a++SV.j4 n len ds b
 | [],b=>rfl
 | x::a,b=>by simp only[List.cons_append,SV.j4,A2 n len ds a b]
theorem Kg (n len:Nat)(ds:List DV)(A:RG):SV.j4 n len ds (A.map λ x=>dn x.2)=A.map λ x=>dn x.2:=by
 induction A with
 | nil=>rfl
 | cons x A ih=>
  simp only[List.map_cons,SV.j4,ih];obtain⟨m,L⟩:=x;cases L<;>rfl
theorem wI {n len:Nat}{ds:List DV}:∀ {B:RG},(∀ x,x∈B->x.2≠[]->x.1≠n)->SV.j4 n len ds B.cells=B.cells
 | [],_=>rfl
 | (m,L)::B,h=>by
  have ih:=wI (n:=n) (len:=len) (ds:=ds) (B:=B) λ x hx=>h x (List.mem_cons_of_mem _ hx)
  unfold RG.cells at ih ⊢;simp only[List.map_cons,SV.j4,ih];cases L with
  | nil=>rfl
  | cons d L=>
   have:=h (m,d::L) (List.mem_cons_self ..) (by simp);simp only[gv,SV.iJ,if_neg this]
section
variable {P:Program} {N k0:Nat} {Q:Exit->St->Prop}
theorem SW.PR {s:bP}{X:Hp}{a len k:Nat}{env:List (Nat×SV)}(q:Nat->Bool)(NX:∀ n,q n=true->n<k)(nI:k0<=k)(ha:q a=true)(hX:X.ok q=true)(oM:(a::X.map (·.1)).Nodup)(he:(env.all λ x=>x.2.ok q)=true)(zV:(env.map (·.1)).Nodup):
  ∀ (B A:RG),kI B k->(∀ x,x∈B->x.2≠[]->q x.1=false)->Go.Sl.SW P N k0 s ⟨env,(a,.arr 31 1 len ((A++B).map λ x=>dn x.2))::X,k⟩ Q->Go.Sl.SW P N k0 s ⟨env,(a,.arr 31 1 len ((A.map λ x=>dn x.2)++RG.cells B))::(X++RG.tl B),k⟩ Q:=by
 intro B
 induction B with
 | nil=>
  intro A _ _ h
  simpa[RG.tl,RG.full,RG.cells] using h
 | cons x B ih=>
  intro A hB hqB h;obtain⟨n,L⟩:=x;have hB':kI B k:=⟨λ i j x y hi hj hx hy e=>by
   have:=hB.inj (i+1) (j+1) x y (by simpa using hi) (by simpa using hj) hx hy e;omega,λ y hy=>hB.bd y (List.mem_cons_of_mem _ hy)⟩
  have hqB':∀ x,x∈B->x.2≠[]->q x.1=false:=λ y hy=>hqB y (List.mem_cons_of_mem _ hy)
  have hAB:A++(n,L)::B=(A++[(n,L)])++B:=by simp
  rw[hAB] at h;cases L with
  | nil=>
   have:=ih (A++[(n,[])]) hB' hqB' h;have e1:RG.tl ((n,[])::B)=RG.tl B:=by simp[RG.tl,RG.full]
   have e2:(A.map λ x=>dn x.2)++RG.cells ((n,[])::B)=((A++[(n,([]:List Dt))]).map λ x=>dn x.2)++RG.cells B:=by simp[RG.cells,gv,dn]
   rw[e1,e2];exact this
  | cons d0 L0=>
   obtain⟨L,hLe⟩:∃ L,d0::L0=L:=⟨_,rfl⟩;have hL:L≠[]:=by rw[<- hLe];simp
   rw[hLe] at h hB hqB hAB ⊢;clear hLe;have hqn:q n=false:=hqB (n,L) (List.mem_cons_self ..) hL;have hnk:n<k:=hB.bd (n,L) (List.mem_cons_self ..) hL;have hnB:∀ y,y∈B->y.2≠[]->y.1≠n:=λ y hy hyn e=>by
    obtain⟨j,hj⟩:=List.mem_iff_getElem?.1 hy;have:=hB.inj 0 (j+1) (n,L) y rfl (by simpa using hj) hL hyn e.symm;omega
   have hne:∀ m,q m=true->m≠n:=λ m hm e=>by rw[e,hqn] at hm;cases hm
   have hXq:∀ y,y∈X->q y.1=true:=λ y hy=>by
    have:=List.all_eq_true.1 hX y hy;simp only[Bool.and_eq_true] at this;exact this.1
   have hXl:∀ m,q m=false->lk X m=none:=λ m hm=>iw λ hh=>by
    obtain⟨y,hy,e⟩:=List.mem_map.1 hh;have:=hXq y hy;rw[e,hm] at this;cases this
   have hlkn:lk ((a,Ob.arr 31 1 len ((A.map λ x=>dn x.2)++RG.cells ((n,L)::B)))::(X++RG.tl ((n,L)::B))) n=some (.arr 37 2 L.length ((L.flatMap Dt.ds).map .d)):=by
    rw[af,if_neg (λ e=>hne a ha e.symm),jj,hXl n hqn,Option.none_or];exact hB.Dr (x:=(n,L)) (List.mem_cons_self ..) hL
   refine SW.Js n (L.flatMap Dt.ds) hlkn rfl ?_;rw[AY hqn he];refine SW.weak id (st1:=⟨env,(a,.arr 31 1 len (((A++[(n,L)]).map λ x=>dn x.2)++RG.cells B))::(X++RG.tl B),k⟩) (aG.same nI (aJ.refl (λ _ _ h=>h) ?_ zV) ?_ ?_) (ih (A++[(n,L)]) hB' hqB' h)
   .rw[List.all_eq_true] at he ⊢
    exact λ y hy=>SV.fD (λ m hm=>by simpa using NX m hm) _ (he y hy)
   .refine aA (by simpa using NX a ha) ?_ ?_
    .have h1:=hB'.ah (Nat.le_refl k)
     have h2:∀ (C:RG),SV.ax (λ n=>decide (n<k)) (C.map λ x=>dn x.2)=true:=λ C=>by
      induction C with
      | nil=>rfl
      | cons x C ih=>simp only[List.map_cons,SV.ax,Hx,ih,Bool.and_true]
     show SV.ax _ (_++_)=true;have h3:∀ (u v:List SV),SV.ax (λ n=>decide (n<k)) u=true->SV.ax (λ n=>decide (n<k)) v=true->SV.ax (λ n=>decide (n<k)) (u++v)=true:=λ u v hu hv=>by
      induction u with
      | nil=>exact hv
      | cons c u ih=>
       simp only[SV.ax,Bool.and_eq_true] at hu;simp only[List.cons_append,SV.ax,hu.1,ih hu.2,Bool.and_true]
     exact h3 _ _ (h2 _) h1
    .have h1:=Hp.eA (q':=λ n=>decide (n<k)) (λ m hm=>by simpa using NX m hm) hX
     have h2:=hB'.tY (Nat.le_refl k);unfold Hp.ok at*;rw[List.all_append,h1,h2];rfl
   .intro y hy
    have xb:∀ m,m≠n->lk (vM (Ob.yZ n L.length (L.flatMap Dt.ds)) (c_ ((a,Ob.arr 31 1 len ((A.map λ x=>dn x.2)++RG.cells ((n,L)::B)))::(X++RG.tl ((n,L)::B))) n)) m=(lk ((a,Ob.arr 31 1 len ((A.map λ x=>dn x.2)++RG.cells ((n,L)::B)))::(X++RG.tl ((n,L)::B))) m).map (Ob.yZ n L.length (L.flatMap Dt.ds)):=λ m hm=>by
     rw[mU,dx,if_neg hm]
    rcases List.mem_cons.1 hy with rfl|hy
    .show lk _ a=_
     rw[xb a (hne a ha),af,if_pos rfl];have e3:(gv (n,L)).iJ n L.length (L.flatMap Dt.ds)=dn L:=by
      rw[mg hL];simp only[SV.iJ,if_true];cases L with
      | nil=>exact absurd rfl hL
      | cons d L=>rfl
     have e4:RG.cells ((n,L)::B)=gv (n,L)::RG.cells B:=rfl;simp only[Option.map_some,Ob.yZ];rw[A2,Kg,e4];show some (Ob.arr 31 1 len ((A.map λ x=>dn x.2)++(gv (n,L)).iJ n L.length (L.flatMap Dt.ds)::SV.j4 n L.length (L.flatMap Dt.ds) (RG.cells B)))=_;rw[e3,wI hnB];simp
    .rcases List.mem_append.1 hy with hy|hy
     .have hyq:=hXq y hy
      have hya:y.1≠a:=λ e=>(List.nodup_cons.1 oM).1 (by rw[<- e];exact List.mem_map.2 ⟨y,hy,rfl⟩)
      rw[xb y.1 (hne _ hyq),af,if_neg hya,jj,aI (List.nodup_cons.1 oM).2 y hy];have hok:=List.all_eq_true.1 hX y hy;simp only[Bool.and_eq_true] at hok;simp only[Option.some_or,Option.map_some];rw[Ob.HP hqn _ hok.2]
     .obtain⟨z,hz,hzn,rfl⟩:=RG.mF.1 hy
      have hz1:=hnB z hz hzn;have hz2:=hqB' z hz hzn;have hza:z.1≠a:=λ e=>by rw[e,ha] at hz2;cases hz2
      rw[xb _ hz1,af,if_neg hza,jj,hXl _ hz2,Option.none_or];rw[show lk (RG.tl ((n,L)::B)) z.1=some (fO z.2) from hB.Dr (List.mem_cons_of_mem _ hz) hzn];simp only[Option.map_some,fO,Ob.yZ,HQ]
end
end
section
attribute [local irreducible] SW RW aH SC aj ak
def yo (c:Dt->Nat)(seen:List Dt):Nat:=seen.foldl (λ m v=>max m (c v+1)) 0
theorem HR (c:Dt->Nat)(seen:List Dt)(v:Dt):yo c (seen++[v])=max (yo c seen) (c v+1):=by unfold yo;rw[List.foldl_append];rfl
theorem qh {c:Dt->Nat}{seen:List Dt}{v:Dt}(h:v∈seen):c v<yo c seen:=by
 have key:∀ (s:List Dt) (m:Nat),m<=s.foldl (λ m v=>max m (c v+1)) m/\∀ v,v∈s->c v<s.foldl (λ m v=>max m (c v+1)) m:=λ s=>by
  induction s with
  | nil=>exact λ m=>⟨Nat.le_refl _,λ v h=>by cases h⟩
  | cons x s ih=>
   intro m;obtain⟨h1,h2⟩:=ih (max m (c x+1));rw[List.foldl_cons];refine⟨by omega,λ v hv=> ?_⟩;rcases List.mem_cons.1 hv with rfl|hv
   .omega
   .exact h2 v hv
 exact(key seen 0).2 v h
theorem tG {c:Dt->Nat}{seen:List Dt}{b:Nat}(h:∀ v,v∈seen->c v+1<=b):yo c seen<=b:=by
 have key:∀ (s:List Dt) (m:Nat),m<=b->(∀ v,v∈s->c v+1<=b)->s.foldl (λ m v=>max m (c v+1)) m<=b:=λ s=>by
  induction s with
  | nil=>exact λ m hm _=>hm
  | cons x s ih=>
   intro m hm hs;rw[List.foldl_cons];have:=hs x (List.mem_cons_self ..);exact ih _ (by omega) λ v hv=>hs v (List.mem_cons_of_mem _ hv)
 exact key seen 0 (Nat.zero_le _) h
theorem Kh {c:Dt->Nat}{s t:List Dt}(h:∀ v,v∈s↔v∈t):yo c s=yo c t:=
 Nat.le_antisymm (tG λ v hv=>qh ((h v).1 hv)) (tG λ v hv=>qh ((h v).2 hv))
structure RI (c:Dt->Nat)(seen:List Dt)(t:Nat)(G:RG):Prop where
 len:G.length=max (yo c seen) t
 row:∀ j x,G[j]? =some x->x.2=seen.filter λ v=>decide (c v=j)
theorem RI.nil (c:Dt->Nat):RI c [] 0 []:=⟨rfl,λ j x h=>by simp at h⟩
theorem RI.grow {c:Dt->Nat}{seen:List Dt}{t:Nat}{G:RG}(h:RI c seen t G){m:Nat}(hm:G.length<m):RI c seen (G.length+1) (G++[(0,[])]):=by
 have hl:=h.len;refine⟨by rw[List.length_append,List.length_singleton];omega,λ j x hx=> ?_⟩;rw[List.getElem?_append] at hx
 split at hx
 .exact h.row j x hx
 .rename_i hj
  rw[List.getElem?_singleton] at hx
  split at hx
  .rename_i e
   injection hx with hx;subst hx
   symm
   rw[List.filter_eq_nil_iff];intro v hv;have:=qh (c:=c) hv;simp only[decide_eq_true_eq];omega
  .cases hx
theorem RI.set {c:Dt->Nat}{seen:List Dt}{t:Nat}{G:RG}(h:RI c seen t G){v:Dt}(ht:t<=max (yo c seen) (c v+1))(hv:c v<G.length){n k:Nat}{L:List Dt}(hg:G[c v]? =some (n,L)):RI c (seen++[v]) 0 (G.set (c v) (k,L++[v])):=by
 have hl:=h.len;refine⟨by rw[List.length_set,HR];omega,λ j x hx=> ?_⟩;rw[List.getElem?_set] at hx
 split at hx
 .rename_i e
  injection hx with hx;subst hx;have:=h.row _ _ hg;dsimp only at this ⊢;rw[this,List.filter_append,e];simp[e]
 .rename_i e
  rw[h.row j x hx,List.filter_append];simp[e]
theorem RI.rows {c:Dt->Nat}{seen:List Dt}{G:RG}(h:RI c seen 0 G):G.map (·.2)=(List.range (yo c seen)).map λ j=>seen.filter λ v=>decide (c v=j):=by
 have hl:=h.len;apply List.ext_getElem?;intro j;rw[List.getElem?_map,List.getElem?_map];cases hg:G[j]? with
 | none=>
  have:G.length<=j:=List.getElem?_eq_none_iff.1 hg;rw[List.getElem?_eq_none (by rw[List.length_range];omega)];rfl
 | some x=>
  have:j<G.length:=by
   obtain⟨h1,_⟩:=List.getElem?_eq_some_iff.1 hg;exact h1
  rw[List.getElem?_range (by omega)];simp[h.row j x hg]
noncomputable def ia (l:List ag)(v:Dt):Nat:=(jt l (uy l v)).length
noncomputable def mG (l:List ag):List (List Dt):=(List.range (yo (ia l) (kC l))).map λ j=>(kC l).filter λ v=>decide (ia l v=j)
structure RQ (c:Dt->Nat)(seen:List Dt)(t:Nat)(G:RG)(a kk:Nat):Prop where
 ri:RI c seen t G
 ok:kI G kk
 la:a<kk
 na:∀ x,x∈G->x.2≠[]->x.1≠a
abbrev Fe (G:RG)(a:Nat):Hp:=(a,.arr 31 1 G.length (RG.cells G))::RG.tl G
theorem RQ.tY {c:Dt->Nat}{seen:List Dt}{t:Nat}{G:RG}{a kk k:Nat}(h:RQ c seen t G a kk)(hk:kk<=k):(Fe G a).ok (λ n=>decide (n<k))=true:=
 aA (by have:=h.la;simp;omega) (h.ok.ah hk) (h.ok.tY hk)
theorem RQ.out {c:Dt->Nat}{seen:List Dt}{t:Nat}{G:RG}{a kk n:Nat}(h:RQ c seen t G a kk)(hn:kk<=n):lk (RG.tl G) n=none:=kI.out (kk:=kk) λ x hx hxn e=>by have:=h.ok.bd x hx hxn;omega
theorem RQ.PS {c:Dt->Nat}{seen:List Dt}{t:Nat}{G:RG}{a kk:Nat}(h:RQ c seen t G a kk):lk (RG.tl G) a=none:=kI.out (kk:=kk) h.na
theorem RQ.grow {c:Dt->Nat}{seen:List Dt}{t:Nat}{G:RG}{a kk m:Nat}(h:RQ c seen t G a kk)(hm:G.length<m):RQ c seen (G.length+1) (G++[(0,[])]) kk (kk+1):=by
 refine⟨h.ri.grow hm,(h.ok.snoc).more (Nat.le_succ _),Nat.lt_succ_self _,λ x hx hxn=> ?_⟩;have:=(h.ok.snoc).bd x hx hxn;omega
theorem RQ.set {c:Dt->Nat}{seen:List Dt}{t:Nat}{G:RG}{a kk:Nat}(h:RQ c seen t G a kk){v:Dt}(ht:t<=max (yo c seen) (c v+1))(hv:c v<G.length){n k:Nat}{L:List Dt}(hg:G[c v]? =some (n,L))(hk:kk<=k):RQ c (seen++[v]) 0 (G.set (c v) (k,L++[v])) a (k+1):=by
 refine⟨h.ri.set ht hv hg,h.ok.set _ _ _ _ hk (Nat.lt_succ_self _),by have:=h.la;omega,λ x hx hxn=> ?_⟩;rcases List.mem_or_eq_of_mem_set hx with hx|rfl
 .exact h.na x hx hxn
 .have:=h.la;dsimp only;omega
theorem MR {G:RG}{m n:Nat}{L:List Dt}(h:G[m]? =some (n,L)):(RG.cells G)[m]? =some (gv (n,L)):=by unfold RG.cells;rw[List.getElem?_map,h];rfl
theorem MS (G:RG)(m:Nat)(x:Nat×List Dt):b_ (RG.cells G) m [gv x]=RG.cells (G.set m x):=(RG.Ey G m x).symm
theorem A3:∀ {h:Hp} {n:Nat},lk h n=none->c_ h n=h
 | [],n,_=>rfl
 | (m,o)::h,n,hn=>by
  rw[af] at hn
  split at hn
  .cases hn
  .rename_i e
   unfold c_;rw[if_neg (λ hh=>e hh.symm),A3 hn]
theorem RQ.NC {c:Dt->Nat}{seen:List Dt}{t:Nat}{G:RG}{a kk:Nat}(h:RQ c seen t G a kk):∀ y,y∈Fe G a->lk (Fe G a) y.1=some y.2:=λ y hy=>by
 rcases List.mem_cons.1 hy with rfl|hy
 .rw[af,if_pos rfl]
 .obtain⟨x,hx,hxn,rfl⟩:=RG.mF.1 hy
  rw[af,if_neg (h.na x hx hxn)];exact h.ok.Dr hx hxn
theorem RQ.OV {c:Dt->Nat}{seen:List Dt}{t:Nat}{G:RG}{a kk m n k:Nat}{L L':List Dt}(h:RQ c seen t G a kk)(hg:G[m]? =some (n,L)){H:Hp}(ha:lk H a=some (.arr 31 1 (G.set m (k,L')).length (RG.cells (G.set m (k,L')))))(hk:lk H k=some (fO L'))
  (ho:∀ x:Nat×List Dt,x∈G->x.2≠[]->x.1<kk->x.1≠a->(L≠[]->x.1≠n)->lk (RG.tl G) x.1=some (fO x.2)->lk H x.1=some (fO x.2)):∀ y,y∈Fe (G.set m (k,L')) a->lk H y.1=some y.2:=λ y hy=>by
 rcases List.mem_cons.1 hy with rfl|hy
 .exact ha
 .refine RG.NC hk (λ j x hj hx hxn=> ?_) y hy
  have hm:=List.mem_of_getElem? hx;exact ho x hm hxn (h.ok.bd x hm hxn) (h.na x hm hxn) (λ hL e=>hj (h.ok.inj j m x (n,L) hx hg hxn hL e)) (h.ok.Dr hm hxn)
section
variable {l:List ag} (hl:l.length<=80) (hd:∀ x,x∈l->x.bn<256/\x.mC/\x.dot.wf)
include hl hd
end
end
section
attribute [local irreducible] SW RW aH SC aj ak
def IT (L:List Dt):DV:= .sl L.length (L.flatMap Dt.ds)
def ic (R:List (List Dt)):SV:= .d (.sl R.length (R.map λ L=>IT (Dt.set L)))
theorem Ki (n:Nat)(ds:List DV):Go.Sl.Pure Tryz.prog slices_Clip_LLapi_Dot_Lapi_Dot.f [.d (.sl n ds)] (.d (.sl n ds)):=by
 refine slices_Clip_LLapi_Dot_Lapi_Dot.enter (by first|rfl|simp[SV.ok,SV.ax]) (by first|rfl|simp[Hp.ok,Ob.ok,SV.ok,SV.ax,ay.ah]) (by simp) ?_;dsimp only[slices_Clip_LLapi_Dot_Lapi_Dot.s,Co.M,Co.J,Co.F,Co.L,Co.S];(repeat (first|refine SW.seq ?_|refine SW.block ?_|refine SW.g0 fv Zm aa ?_|refine SW.skip ?_|refine SW.exit ?_|refine SW.ret ?_|refine SW.ai rfl ?_|refine SW.an rfl ?_));exact End.mk [] (h4:=⟨rfl,rfl⟩)
theorem Kj (n:Nat)(ds:List DV)(k:Nat):aH Tryz.prog slices_Clip_LLapi_Dot_Lapi_Dot.f [.d (.sl n ds)] [] k 0 (.d (.sl n ds)) []:=(Ki n ds).sc rfl k
def Ix.oP (X:Ix)(d:Dt):Nat:=(X.qg d).length
def Ix.mG (X:Ix):List (List Dt):=(List.range (yo X.oP (MM.keys X.ops))).map λ j=>(MM.keys X.ops).filter λ v=>decide (X.oP v=j)
theorem yp {c:Dt->Nat}{s t:List Dt}(h:∀ v,v∈s↔v∈t):ic ((List.range (yo c s)).map λ j=>s.filter λ v=>decide (c v=j))=ic ((List.range (yo c t)).map λ j=>t.filter λ v=>decide (c v=j)):=by
 unfold ic;rw[Kh h,List.map_map,List.map_map];simp only[List.length_map,List.length_range]
 congr 2
 refine List.map_congr_left λ j _=> ?_
 show IT (Dt.set _)=IT (Dt.set _);exact congrArg IT (Dt.zw λ v=>by rw[List.mem_filter,List.mem_filter,h v])
def RG.hi (G:RG):Prop:=∀ x,x∈G->x.2≠[]->6<=x.1
structure LI (X:Ix)(xs:MM Dt ag)(G:RG)(a kk:Nat):Prop where
 sub:∀ x,x∈xs->x∈X.ops
 nd:(xs.map (·.1)).Nodup
 len:xs.length<=X.ops.length
 rq:RQ X.oP (xs.map (·.2.1)) 0 G a kk
 lo:a=4\/6<=a
 hi:G.hi
 k6:6<=kk
 le:kk<=6+2*xs.length+G.length
def yq:Nat:=3000
theorem RG.MT:RG.hi []:=λ x h=>by cases h
theorem LI.sep {X:Ix}{xs:MM Dt ag}{G:RG}{a kk:Nat}(h:LI X xs G a kk):(a≠0/\a≠1/\a≠2/\a≠3)/\a≠5:=by have:=h.lo;omega
abbrev LZ (X:Ix)(seen:List Nat)(G:RG)(a:Nat):Hp:=(5,.iter (some 1) X.co seen X.co)::(0,.box 110 [.any,.mp 1,.mp 2,.mp 3])::(1,.map (au Dt.cells ov X.ops) X.co)::(2,.map (au Dt.cells dn X.ch) X.cc)::(3,.map (au Dt.cells dn X.me) X.cf)::Fe G a
theorem HS {X:Ix}{seen:List Nat}{G:RG}{a k:Nat}(hk:6<=k)(h:(Fe G a).ok (λ n=>decide (n<k))=true):(LZ X seen G a).ok (λ n=>decide (n<k))=true:=
 aA (by simp;omega) (Dv _ _ _ _ _ (by simp;omega)) (aA (by simp;omega) (by simp[Ob.ok,SV.ax,SV.ok];omega) (aA (by simp;omega) (bG _ _) (aA (by simp;omega) (fE _ _) (aA (by simp;omega) (fE _ _) h))))
theorem Lv {X:Ix}{seen:List Nat}{G:RG}{a:Nat}{H:Hp}(hl:a=4\/6<=a)(hi:G.hi)(h0:∀ n,n∈[5,0,1,2,3]->lk H n=lk (LZ X seen [] a) n)(h:∀ y,y∈Fe G a->lk H y.1=some y.2):∀ y,y∈LZ X seen G a->lk H y.1=some y.2:=λ y hy=>by
 simp only[List.mem_cons] at hy;rcases hy with rfl|rfl|rfl|rfl|rfl|hy
 .exact(h0 5 (by decide)).trans rfl
 .exact(h0 0 (by decide)).trans rfl
 .exact(h0 1 (by decide)).trans rfl
 .exact(h0 2 (by decide)).trans rfl
 .exact(h0 3 (by decide)).trans rfl
 .exact h y (List.mem_cons.2 hy)
theorem RQ.Qf {X:Ix}{sn:List Nat}{c:Dt->Nat}{seen:List Dt}{t:Nat}{G:RG}{a kk:Nat}(h:RQ c seen t G a kk)(hl:a=4\/6<=a)(hi:G.hi):∀ y,y∈Fe G a->lk (LZ X sn G a) y.1=some y.2:=λ y hy=>by
 have hy1:y.1=a\/6<=y.1:=by
  rcases List.mem_cons.1 hy with rfl|hy
  .exact .inl rfl
  .obtain⟨x,hx,hxn,rfl⟩:=RG.mF.1 hy
   exact .inr (hi x hx hxn)
 have hz:y.1≠5/\y.1≠0/\y.1≠1/\y.1≠2/\y.1≠3:=by omega
 rw[af,if_neg hz.1,af,if_neg hz.2.1,af,if_neg hz.2.2.1,af,if_neg hz.2.2.2.1,af,if_neg hz.2.2.2.2];exact h.NC y hy
structure LJ (X:Ix)(seen:List Dt)(G0:RG)(kk m:Nat)(G:RG)(a k:Nat):Prop where
 rq:∃ t,t<=m+1/\RQ X.oP seen t G a k
 lo:a=4\/6<=a
 hi:G.hi
 na:a≠kk
 nr:∀ x,x∈G->x.2≠[]->x.1<kk
 kl:kk+1<=k
 ku:k+G0.length<=kk+1+G.length
theorem LJ.grow {X:Ix}{seen:List Dt}{G0:RG}{kk m:Nat}{G:RG}{a k:Nat}(h:LJ X seen G0 kk m G a k)(hm:G.length<m+1)(h6:6<=kk):LJ X seen G0 kk m (G++[(0,[])]) k (k+1):=by
 obtain⟨t,ht,hr⟩:=h.rq;have h1:=h.kl;have h2:=h.ku;have hmem:∀ x:Nat×List Dt,x∈G++[(0,([]:List Dt))]->x.2≠[]->x∈G:=λ x hx hxn=>by
  rcases List.mem_append.1 hx with hx|hx
  .exact hx
  .rw[List.mem_singleton] at hx;subst hx;exact absurd rfl hxn
 exact⟨⟨_,by omega,hr.grow hm⟩,.inr (by omega),λ x hx hxn=>h.hi x (hmem x hx hxn) hxn,by omega,λ x hx hxn=>h.nr x (hmem x hx hxn) hxn,by omega,by rw[List.length_append,List.length_singleton];omega⟩
abbrev LB (X:Ix)(seen:List Nat)(d:Dt)(kk:Nat)(G:RG)(a:Nat):Hp:=(kk,.box 37 d.cells)::LZ X seen G a
theorem LJ.Qg {X:Ix}{seen:List Dt}{sn:List Nat}{G0:RG}{kk m:Nat}{G:RG}{a k:Nat}{d:Dt}(h:LJ X seen G0 kk m G a k)(h6:6<=kk):∀ y,y∈LB X sn d kk G a->lk (LB X sn d kk G a) y.1=some y.2:=λ y hy=>by
 obtain⟨t,ht,hr⟩:=h.rq;rcases List.mem_cons.1 hy with rfl|hy
 .rw[af,if_pos rfl]
 .have hy1:y.1≠kk:=by
   simp only[LZ,Fe,List.mem_cons] at hy;rcases hy with rfl|rfl|rfl|rfl|rfl|rfl|hy
   .show 5≠kk;omega
   .show 0≠kk;omega
   .show 1≠kk;omega
   .show 2≠kk;omega
   .show 3≠kk;omega
   .exact h.na
   .obtain⟨x,hx,hxn,rfl⟩:=RG.mF.1 hy
    have:=h.nr x hx hxn;show x.1≠kk;omega
  rw[af,if_neg hy1];exact Lv h.lo h.hi (λ n hn=>by
   simp only[List.mem_cons,List.not_mem_nil,or_false] at hn;rcases hn with rfl|rfl|rfl|rfl|rfl<;>rfl) (hr.Qf h.lo h.hi) y hy
theorem LJ.okB {X:Ix}{seen:List Dt}{sn:List Nat}{G0:RG}{kk m:Nat}{G:RG}{a k:Nat}{d:Dt}(h:LJ X seen G0 kk m G a k)(h6:6<=kk):(LB X sn d kk G a).ok (λ n=>decide (n<k))=true:=by
 obtain⟨t,ht,hr⟩:=h.rq;have:=h.kl;exact aA (by simp;omega) (by simp[Ob.ok,Dt.ah]) (HS (by omega) (hr.tY (Nat.le_refl _)))
theorem Lw {X:Ix}{sn:List Nat}{G:RG}{a:Nat}{H:Hp}(h5:lk H 5=some (.iter (some 1) X.co sn X.co))(h0:lk H 0=some (.box 110 [.any,.mp 1,.mp 2,.mp 3]))(h1:lk H 1=some (.map (au Dt.cells ov X.ops) X.co))(h2:lk H 2=some (.map (au Dt.cells dn X.ch) X.cc))(h3:lk H 3=some (.map (au Dt.cells dn X.me) X.cf))
  (h:∀ y,y∈Fe G a->lk H y.1=some y.2):∀ y,y∈LZ X sn G a->lk H y.1=some y.2:=λ y hy=>by
 simp only[List.mem_cons] at hy;rcases hy with rfl|rfl|rfl|rfl|rfl|hy
 .exact h5
 .exact h0
 .exact h1
 .exact h2
 .exact h3
 .exact h y (List.mem_cons.2 hy)
set_option maxHeartbeats 16000000 in
theorem HT (X:Ix)(hX:X.small)(h9:∀ d,X.oP d<=9):SB Tryz.prog revoke_Index_Levels.f [.ptr 0 0] X.h0 4 yq λ r F=>r=ic X.mG/\F=X.h0:=by
  refine revoke_Index_Levels.enter (by simp[SV.ax,SV.ok]) (X.zq (Nat.le_refl 4)) (by simp) ?_;dsimp only[revoke_Index_Levels.s,Co.M,Co.J,Co.F,Co.Z,Co.b8,Co.aB,Co.T,Co.K,Co.E,Co.L,Co.P,Co.W,Co.Y,Co.V,Co.D,Co.A,Co.I,Co.S];have hn:=Du X;refine SW.seq (SW.g0 bv Zm aa ?_);refine SW.seq (SW.seq (SW.g1 bv Zm aa hn ?_));refine SW.an rfl (SW.skip (SW.seq (SW.g0 bv Zm aa ?_)));refine SW.qK 3 31 1 rfl ?_;refine SW.seq (SW.seq (SW.g0 bv Zm aa ?_));refine SW.block ?_;have hmx:∀ s,yo X.oP s<=10:=λ s=>tG λ v _=>by have:=h9 v;omega
  refine SW.pX (es:=λ _=>au Dt.cells ov X.ops) (c:=λ _=>X.co) (uJ:=λ _=>5) (nm:=λ _=>1) (since:=λ _=>X.co) (BL:=λ _=>X.co)
    (α:={p:MM Dt ag×RG×Nat×Nat // LI X p.1 p.2.1 p.2.2.1 p.2.2.2})
    (λ p=>⟨[(13,.it 5),(3,.gs p.1.2.2.1 p.1.2.1.length),(0,.ptr 0 0)],LZ X (p.1.1.map (·.1)) p.1.2.1 p.1.2.2.1,p.1.2.2.2⟩)
    (λ p=>gy (au Dt.cells ov X.ops) (p.1.1.map (·.1))) ⟨([],[],4,6),⟨by simp,by simp,Nat.zero_le _,⟨RI.nil _,kI.nil 6,by decide,λ x h=>by cases h⟩,.inl rfl,RG.MT,by decide,by decide⟩⟩ id (seen:=λ p=>p.1.1.map (·.1)) ?_ (λ p=>by simp[List.lookup]) (λ p=>by simp[af]) (λ p=>by simp[af]) (λ p=>by decide) (λ p e' he=> ?_) (λ p=>Nat.le_refl _) (λ p hall=> ?_) (λ p e' he hs=> ?_)
  . refine aG.same (by show 4<=6;decide) (by simp[aJ,List.lookup,SV.aC,SV.ok,SV.ax]) (HS (by show 6<=6;decide) rfl) (λ y hy=> ?_)
    simp only[RG.tl,RG.full,List.filter_nil,List.map_nil,List.mem_cons,List.not_mem_nil,or_false] at hy;rcases hy with rfl|rfl|rfl|rfl|rfl|rfl<;>rfl
  . obtain⟨x,hx,rfl⟩:=eM he
    exact hX.wo.old x hx
  . obtain⟨⟨xs,G,a,kk⟩,p⟩:=p
    have p:LI X xs G a kk:=p;dsimp only at*;have hxs:=vY hX.wo p.sub hall;obtain⟨sa,s5⟩:=p.sep;have hla:=p.rq.la;have fa:=xw sa;have hnk:yq=3000:=rfl;have hk1:kk<=4+yq:=by
      have h1:=p.le;have h2:=p.len;have h3:=hX.op;have h4:=p.rq.ri.len;have h5:=hmx (xs.map (·.2.1));rw[hnk];omega
    have hord:∀ y,y∈(a,Ob.arr 31 1 G.length (RG.cells G))::(X.h0++RG.tl G)->lk (LZ X (xs.map (·.1)) G a) y.1=some y.2:=λ y hy=>by
      refine Lv p.lo p.hi (λ n hn=>by
        simp only[List.mem_cons,List.not_mem_nil,or_false] at hn;rcases hn with rfl|rfl|rfl|rfl|rfl<;>rfl) (p.rq.Qf p.lo p.hi) y ?_
      simp only[List.mem_cons,List.mem_append,List.not_mem_nil,or_false] at hy ⊢;rcases hy with hy|(hy|hy|hy|hy)|hy<;>simp[hy]
    have hok1:Hp.ok (λ n=>decide (n<4+yq)) ((a,Ob.arr 31 1 G.length (RG.cells G))::(X.h0++RG.tl G))=true:=aA (by simp;omega) (p.rq.ok.ah hk1) (HK (X.zq (by omega)) (p.rq.ok.tY hk1));refine⟨⟨[(3,.gs a G.length)],(a,.arr 31 1 G.length (RG.cells G))::(X.h0++RG.tl G),4+yq⟩,id,aG.same (by show 4<=4+yq;omega) (by simp[aJ,List.lookup,SV.aC,SV.ok,SV.ax];omega) hok1 hord,?_⟩;rw[if_pos rfl];refine SW.PR (X:=X.h0) (λ n=>decide (n<4) || decide (n=a)) (λ n hn=>by simp only[Bool.or_eq_true,decide_eq_true_eq] at hn;omega) (by omega) (by simp) (Hp.eA (λ n hn=>by simp only[Bool.or_eq_true];exact .inl hn) (X.zq (Nat.le_refl 4))) (by simp;omega) (by simp[SV.ok]) (by simp) G [] (p.rq.ok.more hk1) (λ x hx hxn=> ?_) ?_
    . have h1:=p.hi x hx hxn
      have h2:=p.rq.na x hx hxn;simp only[Bool.or_eq_false_iff,decide_eq_false_iff_not];omega
    have hR:=p.rq.ri.rows;have hRl:G.length<=10:=by have h4:=p.rq.ri.len;have h5:=hmx (xs.map (·.2.1));omega
    have hrl:∀ L,L∈G.map (·.2)->L.length<1000000000:=λ L hL=>by
      rw[hR] at hL;obtain⟨j,_,rfl⟩:=List.mem_map.1 hL;have h2:=List.length_filter_le (λ v=>decide (X.oP v=j)) (xs.map (·.2.1));have h3:=p.len;have h4:=hX.op;rw[List.length_map] at h2;omega
    have hkeys:∀ v,v∈xs.map (·.2.1)↔v∈MM.keys X.ops:=λ v=>by
      unfold MM.keys;simp only[List.mem_map,hxs]
    have hres:ic (G.map (·.2))=ic X.mG:=by rw[hR];exact yp hkeys
    rw[<- hres];have eG:(G.map λ x=>dn x.2)=(G.map (·.2)).map dn:=by rw[List.map_map];rfl
    show Sl.SW _ _ _ _ ⟨[(3,.gs a G.length)],(a,.arr 31 1 G.length (G.map λ x=>dn x.2))::X.h0,4+yq⟩ _;rw[eG,show G.length=(G.map (·.2)).length by simp];rw[show G.length=(G.map (·.2)).length by simp] at hRl;clear hord hok1 hR hres hkeys eG hxs;generalize G.map (·.2)=R at*;have hl0:Go.Sl.lk ((a,Ob.arr 31 1 R.length (R.map dn))::X.h0) a=some (.arr 31 1 R.length (R.map dn)):=by rw[af,if_pos rfl]
    have hokC:∀ (C:List SV),SV.ax (λ n=>decide (n<4+yq)) C=true->Hp.ok (λ n=>decide (n<4+yq)) ((a,Ob.arr 31 1 R.length C)::X.h0)=true:=λ C hC=>aA (by simp;omega) hC (X.zq (by omega))
    have hlkC:∀ (C:List SV),∀ y,y∈(a,Ob.arr 31 1 R.length C)::X.h0->lk ((a,Ob.arr 31 1 R.length C)::X.h0) y.1=some y.2:=λ C y hy=>by
      simp only[List.mem_cons,List.not_mem_nil,or_false] at hy;rcases hy with rfl|rfl|rfl|rfl|rfl<;>simp[af,fa]
    have hokD:∀ i,SV.ax (λ n=>decide (n<4+yq)) ((R.take i).map (λ L=>bN (Dt.set L))++(R.drop i).map dn)=true:=λ i=>by
      rw[SV.lg];have k1:∀ (T:List (List Dt)),SV.ax (λ n=>decide (n<4+yq)) (T.map (λ L=>bN (Dt.set L)))=true:=λ T=>by
        induction T with
        | nil=>rfl
        | cons x T ih=>simp only[List.map_cons,SV.ax,ih,Bool.and_true];rfl
      have k2:∀ (T:List (List Dt)),SV.ax (λ n=>decide (n<4+yq)) (T.map dn)=true:=λ T=>by
        induction T with
        | nil=>rfl
        | cons x T ih=>simp only[List.map_cons,SV.ax,ih,Hx,Bool.and_true]
      rw[k1,k2];rfl
    refine SW.seq (SW.seq (SW.g0 bv Zm aa ?_));refine SW.block (SW.loop (α:={i:Nat // i<=R.length}) (λ i=>⟨[(44,i64 i.1),(43,i64 R.length),(3,.gs a R.length)],(a,.arr 31 1 R.length ((R.take i.1).map (λ L=>bN (Dt.set L))++(R.drop i.1).map dn))::X.h0,4+yq⟩) (λ i=>R.length - i.1) ⟨0,Nat.zero_le _⟩ id (aG.same (by show 4<=4+yq;omega) (by simp[aJ,List.lookup,SV.aC,SV.ok,SV.ax];omega) (hokC _ (hokD 0)) (hlkC _)) ?_);rintro⟨i,hi⟩;have hokC2:=hokC _ (hokD (i+1));have hlkC2:=hlkC ((R.take (i+1)).map (λ L=>bN (Dt.set L))++(R.drop (i+1)).map dn);dsimp only
    by_cases h:i<R.length
    . obtain⟨L,hx⟩:=aX h
      have h1:decide ((i:Int)<R.length)=true:=by simp only[decide_eq_true_eq];omega
      have e2:IntKind.i64.wrap ((i:Int)+1)=((i+1:Nat):Int):=wrap_i64 _ (by omega);have cS:=HJ L (hrl L (List.mem_of_getElem? hx));have hdr:R.drop i=L::R.drop (i+1):=wD hx;have htl:((R.take i).map λ L=>bN (Dt.set L)).length=i:=by rw[List.length_map,List.length_take];omega
      have gc:((R.take i).map (λ L=>bN (Dt.set L))++(R.drop i).map dn)[i]? =some (dn L):=by rw[List.getElem?_append_right (by omega),htl,hdr,Nat.sub_self];rfl
      have hC':(R.take (i+1)).map (λ L=>bN (Dt.set L))++(R.drop (i+1)).map dn=(R.take i).map (λ L=>bN (Dt.set L))++(bN (Dt.set L)::(R.drop (i+1)).map dn):=by rw[dY hx,List.map_append];simp
      have gs:b_ ((R.take i).map (λ L=>bN (Dt.set L))++(R.drop i).map dn) i [bN (Dt.set L)]=(R.take (i+1)).map (λ L=>bN (Dt.set L))++(R.drop (i+1)).map dn:=by
        rw[hC',CU,hdr,List.map_cons,List.set_append_right _ _ (by omega),htl,Nat.sub_self];rfl
      have mz:i+1<=((R.take i).map (λ L=>bN (Dt.set L))++(R.drop i).map dn).length:=by rw[List.length_append,htl,hdr];simp
      clear hC' hdr htl;generalize (R.take i).map (λ L=>bN (Dt.set L))++(R.drop i).map dn=C at*;generalize hCC:(R.take (i+1)).map (λ L=>bN (Dt.set L))++(R.drop (i+1)).map dn=C' at*;refine SW.seq (SW.g0 bv Zm h1 ?_);refine SW.seq (SW.ai rfl (SW.skip (SW.seq (SW.block (SW.seq (SW.g0 bv Zm aa ?_))))));refine SW.g1 bv Zm (Zq fa (Zq gc (Zq gs (Zq Int.toNat_natCast Nat.mul_one)))) cS ?_;refine SW.g0 bv Zm e2 ?_;refine⟨⟨i+1,by omega⟩,id,by show R.length - (i+1)<R.length - i;omega,?_⟩;dsimp only;rw[hCC];exact aG.same (by show 4<=4+yq;omega) (by simp[aJ,List.lookup,SV.aC,SV.ok,SV.ax];omega) hokC2 hlkC2
    . have h1:decide ((i:Int)<R.length)=false:=by simp only[decide_eq_false_iff_not];omega
      have hi2:i=R.length:=by omega
      subst hi2;rw[List.take_length,List.drop_length,List.map_nil,List.append_nil];refine SW.seq (SW.g0 bv Zm h1 ?_);refine SW.seq (SW.an rfl (SW.exit ?_));refine(?_:Sl.SW _ _ _ _ _ _);have eD:(R.map λ L=>bN (Dt.set L))=(R.map λ L=>IT (Dt.set L)).map SV.d:=by rw[List.map_map];rfl
      refine SW.freeze a (R.map λ L=>IT (Dt.set L)) (show lk _ a=some (.arr 31 1 R.length (R.map λ L=>bN (Dt.set L))) by rw[af,if_pos rfl]) eD ?_;have hh:c_ ((a,Ob.arr 31 1 R.length (R.map λ L=>bN (Dt.set L)))::X.h0) a=X.h0:=by
        simp[c_,fa]
      rw[hh];refine SW.weak id (st1:=⟨[(3,ic R)],X.h0,4+yq⟩) (aG.same (by show 4<=4+yq;omega) (by simp[aJ,k9,SV.iJ,ic,List.lookup,SV.aC,SV.ok,SV.ax]) (X.zq (by show 4<=4+yq;omega)) (λ y hy=> ?_)) ?_
      . simp only[List.mem_cons,List.not_mem_nil,or_false] at hy
        rcases hy with rfl|rfl|rfl|rfl<;>rfl
      refine SW.seq ?_;have cC:=Kj R.length (R.map λ L=>IT (Dt.set L));change ∀ k,aH Tryz.prog slices_Clip_LLapi_Dot_Lapi_Dot.f [ic R] [] k 0 (ic R) [] at cC;refine SW.g1 bv Zm aa cC ?_;refine SW.ret ?_;exact End.mk X.h0 (h3:=λ _ _ h=>h) (h4:=⟨rfl,rfl⟩) (h6:=X.zq (by omega)) (h7:=Nat.le_refl _)
  . obtain⟨⟨xs,G,a,kk⟩,p⟩:=p
    have p:LI X xs G a kk:=p;dsimp only at*;obtain⟨x,hx,rfl⟩:=eM he;dsimp only at hs;have g5:(xs.map (·.1)++[x.1]).getLast? =some x.1:=by simp
    have g6:=kM (kc:=Dt.cells) (vs:=ov) hX.wo.times hx;have eov:∀ o,ov o= .agg o.cells:=λ _=>rfl
    obtain⟨q1,q2,_⟩:=tA p.sub p.nd hx hs;have em:(xs++[x]).map (·.1)=xs.map (·.1)++[x.1]:=by simp
    have hm:=kN he hs;obtain⟨d,hd⟩:∃ d,x.2.1=d:=⟨_,rfl⟩;have hkq:=p.k6;obtain⟨sa,s5⟩:=p.sep;have fa:=xw sa;have fa5:=bX s5;have z0:=xw (k:=kk) ⟨by omega,by omega,by omega,by omega⟩;have z5:=bX (show kk≠5 by omega);have za:=bX (show kk≠a by have:=p.rq.la;omega);have g2:List.lookup kk (RG.tl G)=none:=p.rq.out (Nat.le_refl _);rw[je];dsimp only[Fe];refine SW.block (SW.seq (SW.g0 bv Zm (Zq g5 (Zq g6 (Zq eov (Zq hd (Zq fa (Zq fa5 (Zq z0 (Zq z5 (Zq za g2))))))))) ?_));obtain⟨m,FI⟩:∃ m,X.oP d=m:=⟨_,rfl⟩;have hm9:=h9 d;rw[FI] at hm9;refine SW.seq ?_;have hlk:=uT X.ch d;change fG _ _ _=dn (X.qg d) at hlk;have hJ0:LJ X (xs.map (·.2.1)) G kk m G a (kk+1):=⟨⟨0,Nat.zero_le _,⟨p.rq.ri,p.rq.ok.more (Nat.le_succ _),by have:=p.rq.la;omega,p.rq.na⟩⟩,p.lo,p.hi,by have:=p.rq.la;omega,p.rq.ok.bd,Nat.le_refl _,by omega⟩;apply later
    . intro late
      have hcm':(X.qg d).length=m:=FI;have hw:=λ (env:List (Nat×SV)) (kz:Nat) (he:aJ id (kk+1) env [(5,i64 m),(4,.ptr kk 0),(13,.it 5),(3,.gs a G.length),(0,.ptr 0 0)])=>aG.same (k0:=4) (st:=⟨env,LB X (xs.map (·.1)++[x.1]) d kk G a,kz⟩) (st1:=⟨[(5,i64 m),(4,.ptr kk 0),(13,.it 5),(3,.gs a G.length),(0,.ptr 0 0)],LB X (xs.map (·.1)++[x.1]) d kk G a,kk+1⟩) (by show 4<=kk+1;omega) he (hJ0.okB hkq) (hJ0.Qg hkq)
      rcases hLc:X.qg d with _|⟨c,L'⟩
      . have hlk0:fG (au Dt.cells dn X.ch) (.d .aL) (MM.idx X.ch d)= .d .aL:=by rw[hlk,hLc];rfl
        refine SW.gK bv Zm (Zq hlk0 (Zq fa (Zq fa5 (Zq z0 (Zq z5 (Zq za g2)))))) (Zq z0 (Zq z5 (Zq za (Zq fa fa5)))) True.intro ?_;rw[hLc] at hcm';exact SW.weak id (hw _ _ (by rw[<- hcm'];simp[aJ,List.lookup,SV.aC,SV.ok,SV.ax];have:=p.rq.la;omega)) late.c
      . have hlk0:fG (au Dt.cells dn X.ch) (.d .aL) (MM.idx X.ch d)=bN (c::L'):=by rw[hlk,hLc];rfl
        refine SW.gK bv Zm (Zq hlk0 (Zq fa (Zq fa5 (Zq z0 (Zq z5 (Zq za g2)))))) (Zq z0 (Zq z5 (Zq za (Zq fa fa5)))) True.intro ?_;rw[hLc] at hcm';exact SW.weak id (hw _ _ (by rw[<- hcm'];simp[aJ,List.lookup,SV.aC,SV.ok,SV.ax];have:=p.rq.la;omega)) late.c
    refine SW.seq (SW.block (SW.loop (α:={q:RG×Nat×Nat // LJ X (xs.map (·.2.1)) G kk m q.1 q.2.1 q.2.2}) (λ q=>⟨[(5,i64 m),(4,.ptr kk 0),(13,.it 5),(3,.gs q.1.2.1 q.1.1.length),(0,.ptr 0 0)],LB X (xs.map (·.1)++[x.1]) d kk q.1.1 q.1.2.1,q.1.2.2⟩) (λ q=>m+1 - q.1.1.length) ⟨(G,a,kk+1),hJ0⟩ id (aG.same (by show 4<=kk+1;omega) (by simp[aJ,List.lookup,SV.aC,SV.ok,SV.ax];have:=p.rq.la;omega) (hJ0.okB hkq) (hJ0.Qg hkq)) ?_));rintro⟨⟨G1,a1,k1⟩,hj⟩;have hj:LJ X (xs.map (·.2.1)) G kk m G1 a1 k1:=hj;obtain⟨t,ht,p3⟩:=hj.rq;dsimp only at*;have la:=p3.la;have kl:=hj.kl;have lo1:=hj.lo;have y0:=xw (k:=a1) ⟨by omega,by omega,by omega,by omega⟩;have y5:=bX (show a1≠5 by omega);have yk:=bX hj.na;have w0:=xw (k:=k1) ⟨by omega,by omega,by omega,by omega⟩;have w5:=bX (show k1≠5 by omega);have wk:=bX (show k1≠kk by omega);have wa:=bX (show k1≠a1 by omega);have sp1:b_ [SV.d .aL] 0 [SV.d .aL]=[SV.d .aL]:=rfl;have t0:List.lookup k1 (RG.tl G1)=none:=p3.out (Nat.le_refl _);have ta:List.lookup a1 (RG.tl G1)=none:=p3.PS;have hd0:c_ (RG.tl G1) a1=RG.tl G1:=A3 ta;dsimp only[LB,LZ,Fe]
    by_cases hjm:G1.length<m+1
    . have j1:decide ((G1.length:Int)<=(m:Int))=true:=by simp only[decide_eq_true_eq];omega
      refine SW.seq (SW.seq (SW.g0 bv Zm j1 ?_));refine SW.ai rfl (SW.skip (SW.block (SW.g0 bv Zm (Zq w0 (Zq w5 (Zq wk (Zq wa (Zq y0 (Zq y5 (Zq yk (Zq z0 (Zq z5 (Zq t0 (Zq hd0 sp1))))))))))) ?_)));have hg:=hj.grow hjm hkq;refine⟨⟨(G1++[(0,[])],k1,k1+1),hg⟩,id,by show m+1 - (G1++[(0,([]:List Dt))]).length<m+1 - G1.length;rw[List.length_append,List.length_singleton];omega,?_⟩;dsimp only;refine aG.same (by show 4<=k1+1;omega) (by simp[aJ,List.lookup,SV.aC,SV.ok,SV.ax];omega) (hg.okB hkq) (λ y hy=> ?_);rcases List.mem_cons.1 hy with rfl|hy
      . simp[af,wk]
      . refine Lw ?_ ?_ ?_ ?_ ?_ (λ y hy=> ?_) y hy
        . simp[af,w5,z5]
        . simp[af,w0,z0]
        . simp[af,w0,z0]
        . simp[af,w0,z0]
        . simp[af,w0,z0]
        . rcases List.mem_cons.1 hy with rfl|hy
          . rw[RG.Cc];simp[af]
          . rw[RG.Kf] at hy
            obtain⟨z,hz,hzn,rfl⟩:=RG.mF.1 hy;have b1:=hj.nr z hz hzn;have b2:=hj.hi z hz hzn;dsimp only;rw[af,if_neg (show z.1≠k1 by omega),af,if_neg (show z.1≠kk by omega),af,if_neg (show z.1≠5 by omega),af,if_neg (show z.1≠0 by omega),af,if_neg (show z.1≠1 by omega),af,if_neg (show z.1≠2 by omega),af,if_neg (show z.1≠3 by omega)];exact p3.ok.Dr hz hzn
    . have j1:decide ((G1.length:Int)<=(m:Int))=false:=by simp only[decide_eq_false_iff_not];omega
      refine SW.seq (SW.seq (SW.g0 bv Zm j1 ?_));refine SW.an rfl (SW.exit ?_);refine(?_:Sl.SW _ _ _ _ _ _);have hml:m<G1.length:=by omega
      obtain⟨⟨n,L⟩,hg⟩:=aX hml;have gc:=MR hg;have gs:=MS G1 m (k1,L++[d]);have mz:m+1<=(RG.cells G1).length:=by rw[RG.jH];exact hml
      have hlen:(G1.set m (k1,L++[d])).length=G1.length:=List.length_set;have hxl:(xs++[x]).length<=X.ops.length:=by
        have:=q2.length_le_of_subset (l₂:=X.ops.map (·.1)) λ n hn=>by
          obtain⟨z,hz,rfl⟩:=List.mem_map.1 hn;exact List.mem_map.2 ⟨z,q1 z hz,rfl⟩
        simpa using this
      have hrq:=p3.set (v:=d) (by rw[FI];omega) (by rw[FI];exact hml) (by rw[FI];exact hg) (Nat.le_refl k1);have ek:(xs++[x]).map (·.2.1)=xs.map (·.2.1)++[d]:=by rw[List.map_append,List.map_singleton,hd]
      rw[FI,<- ek] at hrq;have hLI:LI X (xs++[x]) (G1.set m (k1,L++[d])) a1 (k1+1):=by
        refine⟨q1,q2,hxl,hrq,hj.lo,λ z hz hzn=> ?_,by omega,?_⟩
        . rcases List.mem_or_eq_of_mem_set hz with hz|rfl
          . exact hj.hi z hz hzn
          . show 6<=k1;omega
        . have h1:=p.le
          have h2:=hj.ku;rw[List.length_set,List.length_append,List.length_singleton];omega
      have fin:∀ (env:List (Nat×SV)) (hp:Hp) (kz:Nat),(∀ y,y∈LZ X (xs.map (·.1)++[x.1]) (G1.set m (k1,L++[d])) a1->lk hp y.1=some y.2)->aJ id (k1+1) env [(13,.it 5),(3,.gs a1 (G1.set m (k1,L++[d])).length),(0,.ptr 0 0)]->
          ∃ (j:{p:MM Dt ag×RG×Nat×Nat // LI X p.1 p.2.1 p.2.2.1 p.2.2.2}) (ρ:Nat->Nat),gy (au Dt.cells ov X.ops) (j.1.1.map (·.1))<gy (au Dt.cells ov X.ops) (xs.map (·.1))/\aG 4 ⟨env,hp,kz⟩ ⟨[(13,.it 5),(3,.gs j.1.2.2.1 j.1.2.1.length),(0,.ptr 0 0)],LZ X (j.1.1.map (·.1)) j.1.2.1 j.1.2.2.1,j.1.2.2.2⟩ ρ:=λ env hp kz g1 g2=>by
        refine⟨⟨(xs++[x],G1.set m (k1,L++[d]),a1,k1+1),hLI⟩,id,by show gy _ ((xs++[x]).map (·.1))<_;rw[em];exact hm,?_⟩;dsimp only;rw[em];exact aG.same (by show 4<=k1+1;omega) g2 (HS (by show 6<=k1+1;omega) (hLI.rq.tY (Nat.le_refl _))) g1
      have hLl:L.length<=1000:=by
        have e:=p3.ri.row m _ hg;dsimp only at e;rw[e];have h2:=List.length_filter_le (λ v=>decide (X.oP v=m)) (xs.map (·.2.1));have h3:=p.len;have h4:=hX.op;rw[List.length_map] at h2;omega
      have rest:∀ (hp:Hp),lk hp 5=some (.iter (some 1) X.co (xs.map (·.1)++[x.1]) X.co)->lk hp 0=some (.box 110 [.any,.mp 1,.mp 2,.mp 3])->lk hp 1=some (.map (au Dt.cells ov X.ops) X.co)->lk hp 2=some (.map (au Dt.cells dn X.ch) X.cc)->lk hp 3=some (.map (au Dt.cells dn X.me) X.cf)->lk hp a1=some (.arr 31 1 (G1.set m (k1,L++[d])).length (RG.cells (G1.set m (k1,L++[d]))))->lk hp k1=some (fO (L++[d]))->
          (∀ z:Nat×List Dt,z.1<kk->6<=z.1->z.1≠a1->(L≠[]->z.1≠n)->lk (RG.tl G1) z.1=some (fO z.2)->lk hp z.1=some (fO z.2))->∀ y,y∈LZ X (xs.map (·.1)++[x.1]) (G1.set m (k1,L++[d])) a1->lk hp y.1=some y.2:=λ hp r5 r0 r1 r2 r3 ra rk ro=>
        Lw r5 r0 r1 r2 r3 (p3.OV hg ra rk λ z hz hzn _ h2 h3 h4=>ro z (hj.nr z hz hzn) (hj.hi z hz hzn) h2 h3 h4)
      cases L with
      | nil=>
        have gc:(RG.cells G1)[m]? =some (.d .aL):=gc;have gs:b_ (RG.cells G1) m [SV.gs k1 1]=RG.cells (G1.set m (k1,[d])):=gs;refine SW.gK bv Zm (Zq w0 (Zq w5 (Zq wk (Zq wa (Zq y0 (Zq y5 (Zq yk (Zq z0 (Zq z5 (Zq t0 (Zq ta (Zq gc (Zq gs (Zq Int.toNat_natCast Nat.mul_one)))))))))))))) (Zq w0 (Zq w5 (Zq wk (Zq wa (Zq y0 (Zq y5 (Zq yk (Zq z0 z5)))))))) True.intro ?_;refine fin _ _ _ (rest _ ?_ ?_ ?_ ?_ ?_ ?_ ?_ λ z h1 h2 h3 h4 h5=> ?_) (by simp[aJ,List.lookup,SV.aC,SV.ok,SV.ax,hlen];omega)
        . simp[af,w5,z5]
        . simp[af,w0,z0]
        . simp[af,w0,z0]
        . simp[af,w0,z0]
        . simp[af,w0,z0]
        . simp[af,y0,y5,yk,wa]
        . simp[af,fO]
        . rw[af,if_neg (show z.1≠k1 by omega),af,if_neg (show z.1≠kk by omega),af,if_neg (show z.1≠5 by omega),af,if_neg (show z.1≠0 by omega),af,if_neg (show z.1≠1 by omega),af,if_neg (show z.1≠2 by omega),af,if_neg (show z.1≠3 by omega),af,if_neg h3]
          exact h5
      | cons d0 L0=>
        obtain⟨L,hLe⟩:∃ L,d0::L0=L:=⟨_,rfl⟩;have hLn:L≠[]:=by rw[<- hLe];simp
        rw[hLe] at gc gs hLI fin hlen hLl hg rest;rw[mg hLn] at gc;rw[mg (show L++[d]≠[] by simp),show(L++[d]).length=L.length+1 by simp] at gs;have hgm:=List.mem_of_getElem? hg;have hnb:=hj.nr _ hgm hLn;have hnh:=hj.hi _ hgm hLn;have hna:=p3.na _ hgm hLn;dsimp only at hnb hna hnh;have n1:=bX hna;have n2:=bX (show n≠k1 by omega);have n3:=bX (show n≠kk by omega);have n5:=bX (show n≠5 by omega);have n0:=xw (k:=n) ⟨by omega,by omega,by omega,by omega⟩;have t3:List.lookup n (RG.tl G1)=some (.arr 37 2 L.length ((L.flatMap Dt.ds).map .d)):=p3.ok.Dr hgm hLn;have t4:List.lookup k1 (c_ (RG.tl G1) n)=none:=by
          show lk (c_ (RG.tl G1) n) k1=none;rw[dx,if_neg (by omega)];exact t0
        refine SW.gK bv Zm (Zq w0 (Zq w5 (Zq wk (Zq wa (Zq y0 (Zq y5 (Zq yk (Zq z0 (Zq z5 (Zq n0 (Zq n1 (Zq n2 (Zq n3 (Zq n5 (Zq t0 (Zq ta (Zq t3 (Zq t4 (Zq gc (Zq gs (Zq Int.toNat_natCast Nat.mul_one))))))))))))))))))))) (Zq w0 (Zq w5 (Zq wk (Zq wa (Zq y0 (Zq y5 (Zq yk (Zq z0 (Zq z5 (Zq n0 (Zq n1 (Zq n2 (Zq n3 n5))))))))))))) True.intro ?_;refine fin _ _ _ (rest _ ?_ ?_ ?_ ?_ ?_ ?_ ?_ λ z h1 h2 h3 h4 h5=> ?_) (by simp[aJ,List.lookup,SV.aC,SV.ok,SV.ax,hlen];omega)
        . simp[af,w5,z5]
        . simp[af,w0,z0]
        . simp[af,w0,z0]
        . simp[af,w0,z0]
        . simp[af,w0,z0]
        . simp[af,y0,y5,yk,wa]
        . simp[af,fO,Dt.sX]
        . rw[af,if_neg (show z.1≠k1 by omega),af,if_neg (show z.1≠kk by omega),af,if_neg (show z.1≠5 by omega),af,if_neg (show z.1≠0 by omega),af,if_neg (show z.1≠1 by omega),af,if_neg (show z.1≠2 by omega),af,if_neg (show z.1≠3 by omega),af,if_neg h3,dx,if_neg (h4 hLn)]
          exact h5
end
end Go.Proofs.YtaelhkkjgfobhaaGreat
namespace Go.Proofs.YtaelhkkjgfobhaaGreat
open Go.Sl Go.Proofs
section
theorem Cd {l:List ag}{s:List Dt}{p:Dt->Bool}(h:∀ v,v∈s↔dD l v=true/\p v=true):Dt.set s=(kC l).filter p:=
 Dt.iz (Dt.iA _) ((Dt.iA _).filter _) λ v=>by rw[Dt.mem_set,h,List.mem_filter,jR]
section
variable {l:List ag} {S:Sh} (h:dw l S)
include h
theorem dw.ue (d:Dt):S.good d=dD l d:=h.good d
theorem dw.PT {d:Dt}(hg:S.good d=true):Dt.set (h.X.jm (h.X.op d))=(kC l).filter (wF l d):=by
 refine Cd λ v=> ?_
 rw[h.Qd hg,h.PN hg,Sh.J8,h.qg,h.base.op,h.base.op,<- h.ue];unfold wF zx;simp only[Bool.and_eq_true,decide_eq_true_eq,Bool.not_eq_true'];constructor
 .rintro⟨_,h1,h2,h3,h4⟩
  exact⟨h1,h2,h3,h4⟩
 .rintro⟨h1,h2,h3,h4⟩
  exact⟨(h.HN.2 h1).1,h1,h2,h3,h4⟩
theorem dw.Lx {d:Dt}(hg:S.good d=true):h.X.oP d=ia l d:=by
 unfold Ix.oP ia;rw[h.Kb hg,h.qg,h.base.op]
theorem dw.PU:ic h.X.mG=ic (mG l):=by
 have hk:∀ v,v∈MM.keys h.X.ops↔v∈kC l:=λ v=>by rw[<- MM.iu,h.HO,h.ue,jR]
 have hc:∀ v,v∈MM.keys h.X.ops->h.X.oP v=ia l v:=λ v hv=>h.Lx (by rw[h.ue];exact jR.1 ((hk v).1 hv))
 have e1:yo h.X.oP (MM.keys h.X.ops)=yo (ia l) (MM.keys h.X.ops):=Nat.le_antisymm (tG λ v hv=>by rw[hc v hv];exact qh hv) (tG λ v hv=>by rw[<- hc v hv];exact qh hv);have e2:h.X.mG=(List.range (yo (ia l) (MM.keys h.X.ops))).map λ j=>(MM.keys h.X.ops).filter λ v=>decide (ia l v=j):=by
  unfold Ix.mG;rw[e1];refine List.map_congr_left λ j _=>List.filter_congr λ v hv=> ?_
  rw[hc v hv]
 rw[e2];exact yp hk
end
theorem HU {l:List ag}{L:List Dt}(h:L∈mG l):Dt.set L=L:=by
 obtain⟨j,_,rfl⟩:=List.mem_map.1 h;exact Dt.iz (Dt.iA _) ((Dt.iA _).filter _) λ v=>Dt.mem_set
end
section
attribute [local irreducible] SW RW aH SC aj ak js sG yq
end
end Go.Proofs.YtaelhkkjgfobhaaGreat
