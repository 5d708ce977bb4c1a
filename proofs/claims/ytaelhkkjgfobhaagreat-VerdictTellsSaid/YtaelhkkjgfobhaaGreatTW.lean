/-
 Rows of rows that grow: names, what stands there; all are frozen (plain, and one rule).
-/
import Derived.Test.YtaelhkkjgfobhaaGreatTQ
set_option linter.unusedSectionVars false
set_option linter.unusedVariables false
set_option linter.unusedSimpArgs false
namespace Go.Proofs.YtaelhkkjgfobhaaGreat
open Go.Sl Go.Proofs
section
abbrev RG:=List (Nat×List Dt)
def RG.cells (G:RG):List SV:=G.map gv
def RG.full (G:RG):RG:=G.filter λ x=> !x.2.isEmpty
def RG.tl (G:RG):Hp:=(RG.full G).map λ x=>(x.1,fh x.2)
theorem RG.vF {G:RG}{x:Nat×List Dt}:x∈G.full↔x∈G/\x.2≠[]:=by
 unfold RG.full;rw[List.mem_filter];simp
theorem RG.lR {G:RG}{y:Nat×Ob}:y∈G.tl↔∃ x,x∈G/\x.2≠[]/\y=(x.1,fh x.2):=by
 unfold RG.tl;rw[List.mem_map];constructor
 .rintro⟨x,hx,rfl⟩
  exact⟨x,(RG.vF.1 hx).1,(RG.vF.1 hx).2,rfl⟩
 .rintro⟨x,h1,h2,rfl⟩
  exact⟨x,RG.vF.2 ⟨h1,h2⟩,rfl⟩
theorem RG.Cn (G:RG):RG.tl (G++[(0,[])])=RG.tl G:=by simp[RG.tl,RG.full,List.filter_append]
theorem RG.vG (G:RG):RG.cells (G++[(0,[])])=RG.cells G++[.d .aG]:=by simp[RG.cells,gv]
theorem RG.DG (G:RG)(i:Nat)(x:Nat×List Dt):RG.cells (G.set i x)=(RG.cells G).set i (gv x):=by unfold RG.cells;rw[List.map_set]
theorem RG.jc (G:RG):(RG.cells G).length=G.length:=by simp[RG.cells]
structure j8 (G:RG)(kk:Nat):Prop where
 inj:∀ (i j:Nat) (x y:Nat×List Dt),G[i]? =some x->G[j]? =some y->x.2≠[]->y.2≠[]->x.1=y.1->i=j
 bd:∀ x,x∈G->x.2≠[]->x.1<kk
theorem j8.nil (kk:Nat):j8 [] kk:=⟨λ i j x y h=>by simp at h,λ x h=>by simp at h⟩
theorem j8.more {G:RG}{kk k':Nat}(h:j8 G kk)(hk:kk<=k'):j8 G k':=⟨h.inj,λ x hx hn=>by have:=h.bd x hx hn;omega⟩
theorem j8.AF {G:RG}{kk:Nat}(h:j8 G kk){x:Nat×List Dt}(hx:x∈G)(hn:x.2≠[]):lk G.tl x.1=some (fh x.2):=by
 have hm:(x.1,fh x.2)∈G.tl:=RG.lR.2 ⟨x,hx,hn,rfl⟩;cases hl:lk G.tl x.1 with
 | none=>
  have:=List.lookup_eq_none_iff.1 (show List.lookup x.1 G.tl=none from hl) _ hm;simp at this
 | some ob=>
  obtain⟨y,hy,hyn,e⟩:=RG.lR.1 (kQ hl);injection e with e1 e2;obtain⟨i,hi⟩:=List.mem_iff_getElem?.1 hx;obtain⟨j,hj⟩:=List.mem_iff_getElem?.1 hy;have:=h.inj i j x y hi hj hn hyn e1;subst this;rw[hi] at hj;injection hj with hj;subst hj;rw[e2]
theorem j8.out {G:RG}{kk n:Nat}(h:∀ x,x∈G->x.2≠[]->x.1≠n):lk G.tl n=none:=by
 cases hl:lk G.tl n with
 | none=>rfl
 | some ob=>
  obtain⟨y,hy,hyn,e⟩:=RG.lR.1 (kQ hl);injection e with e1 e2;exact absurd e1.symm (h y hy hyn)
theorem j8.qK {G:RG}{kk k:Nat}(h:j8 G kk)(hk:kk<=k):G.tl.ok (λ n=>decide (n<k))=true:=by
 unfold Hp.ok;rw[List.all_eq_true];intro y hy;obtain⟨x,hx,hn,rfl⟩:=RG.lR.1 hy;have:=h.bd x hx hn;simp only[fh,Ob.ok,SV.aZ,Bool.and_true,decide_eq_true_eq];omega
theorem j8.aj {G:RG}{kk k:Nat}(h:j8 G kk)(hk:kk<=k):SV.au (λ n=>decide (n<k)) G.cells=true:=by
 have key:∀ (B:RG),(∀ x,x∈B->x.2≠[]->x.1<kk)->SV.au (λ n=>decide (n<k)) B.cells=true:=λ B=>by
  induction B with
  | nil=>intro _;rfl
  | cons x B ih=>
   intro hB;have h1:=ih λ y hy=>hB y (List.mem_cons_of_mem _ hy)
   obtain⟨n,L⟩:=x;cases L with
   | nil=>simpa[RG.cells,gv,SV.au,SV.ok] using h1
   | cons d L=>
    have:=hB (n,d::L) (List.mem_cons_self ..) (by simp);have hn:n<k:=by dsimp only at this;omega
    simpa[RG.cells,gv,SV.au,SV.ok,hn] using h1
 exact key G h.bd
theorem j8.snoc {G:RG}{kk:Nat}(h:j8 G kk):j8 (G++[(0,[])]) kk:=by
 have key:∀ (i:Nat) (x:Nat×List Dt),(G++[(0,([]:List Dt))])[i]? =some x->x.2≠[]->G[i]? =some x:=λ i x hx hn=>by
  rw[List.getElem?_append] at hx
  split at hx
  .exact hx
  .rw[List.getElem?_singleton] at hx
   split at hx
   .injection hx with hx;subst hx;exact absurd rfl hn
   .cases hx
 refine⟨λ i j x y hi hj hx hy e=>h.inj i j x y (key i x hi hx) (key j y hj hy) hx hy e,λ x hx hn=> ?_⟩;obtain⟨i,hi⟩:=List.mem_iff_getElem?.1 hx;exact h.bd x (List.mem_of_getElem? (key i x hi hn)) hn
theorem j8.set {G:RG}{kk:Nat}(h:j8 G kk)(i:Nat)(n k':Nat)(L:List Dt)(hn:kk<=n)(hk:n<k'):j8 (G.set i (n,L)) k':=by
 have key:∀ (j:Nat) (x:Nat×List Dt),(G.set i (n,L))[j]? =some x->(j=i/\x=(n,L))\/j≠i/\G[j]? =some x:=λ j x hj=>by
  rw[List.getElem?_set] at hj
  split at hj
  .rename_i e
   split at hj
   .injection hj with hj;exact .inl ⟨e.symm,hj.symm⟩
   .cases hj
  .rename_i e
   exact .inr ⟨λ h=>e h.symm,hj⟩
 refine⟨λ a b x y ha hb hx hy e=> ?_,λ x hx hxn=> ?_⟩
 .rcases key a x ha with⟨rfl,rfl⟩|⟨a1,a2⟩<;>rcases key b y hb with⟨rfl,rfl⟩|⟨b1,b2⟩
  .rfl
  .have:=h.bd y (List.mem_of_getElem? b2) hy
   dsimp only at e;omega
  .have:=h.bd x (List.mem_of_getElem? a2) hx
   dsimp only at e;omega
  .exact h.inj a b x y a2 b2 hx hy e
 .obtain⟨j,hj⟩:=List.mem_iff_getElem?.1 hx
  rcases key j x hj with⟨_,rfl⟩|⟨_,a2⟩
  .exact hk
  .have:=h.bd x (List.mem_of_getElem? a2) hxn;omega
theorem RG.KP {G:RG}{i n:Nat}{L:List Dt}{H:Hp}(h1:lk H n=some (fh L))(h2:∀ j x,j≠i->G[j]? =some x->x.2≠[]->lk H x.1=some (fh x.2)):∀ y,y∈RG.tl (G.set i (n,L))->lk H y.1=some y.2:=λ y hy=>by
 obtain⟨x,hx,hn,rfl⟩:=RG.lR.1 hy;obtain⟨j,hj⟩:=List.mem_iff_getElem?.1 hx;rw[List.getElem?_set] at hj
 split at hj
 .split at hj
  .injection hj with hj;subst hj;exact h1
  .cases hj
 .rename_i e
  exact h2 j x (λ h=>e h.symm) hj hn
theorem Ob.GX {n len:Nat}{ds:List DV}{q:Nat->Bool}(hq:q n=false)(o:Ob)(h:o.ok q=true):o.yf n len ds=o:=by
 cases o with
 | arr e sz l cs=>simp only[Ob.yf];rw[SV.iG hq cs (by simpa only[Ob.ok] using h)]
 | box t cs=>exact Ob.jQ hq _ h
 | map es c=>exact Ob.jQ hq _ h
 | _=>rfl
theorem GY (n len:Nat)(ds:List DV):∀ (xs:List DV),SV.jX n len ds (xs.map .d)=xs.map .d
 | []=>rfl
 | x::xs=>by simp only[List.map_cons,SV.jX,SV.gz,GY n len ds xs]
theorem An (n len:Nat)(ds:List DV):∀ (a b:List SV),SV.jX n len ds (a++b)=SV.jX n len ds a++SV.jX n len ds b
 | [],b=>rfl
 | x::a,b=>by simp only[List.cons_append,SV.jX,An n len ds a b]
theorem JM (n len:Nat)(ds:List DV)(A:RG):SV.jX n len ds (A.map λ x=>dn x.2)=A.map λ x=>dn x.2:=by
 induction A with
 | nil=>rfl
 | cons x A ih=>
  simp only[List.map_cons,SV.jX,ih];obtain⟨m,L⟩:=x;cases L<;>rfl
theorem vI {n len:Nat}{ds:List DV}:∀ {B:RG},(∀ x,x∈B->x.2≠[]->x.1≠n)->SV.jX n len ds B.cells=B.cells
 | [],_=>rfl
 | (m,L)::B,h=>by
  have ih:=vI (n:=n) (len:=len) (ds:=ds) (B:=B) λ x hx=>h x (List.mem_cons_of_mem _ hx)
  unfold RG.cells at ih ⊢;simp only[List.map_cons,SV.jX,ih];cases L with
  | nil=>rfl
  | cons d L=>
   have:=h (m,d::L) (List.mem_cons_self ..) (by simp);simp only[gv,SV.gz,if_neg this]
section
variable {P:Program} {N k0:Nat} {Q:Exit->St->Prop}
theorem SW.Oi {s:bK}{X:Hp}{a len k:Nat}{env:List (Nat×SV)}(q:Nat->Bool)(Nq:∀ n,q n=true->n<k)(lW:k0<=k)(ha:q a=true)(hX:X.ok q=true)(oH:(a::X.map (·.1)).Nodup)(he:(env.all λ x=>x.2.ok q)=true)(y8:(env.map (·.1)).Nodup):
  ∀ (B A:RG),j8 B k->(∀ x,x∈B->x.2≠[]->q x.1=false)->Go.Sl.SW P N k0 s ⟨env,(a,.arr 31 1 len ((A++B).map λ x=>dn x.2))::X,k⟩ Q->Go.Sl.SW P N k0 s ⟨env,(a,.arr 31 1 len ((A.map λ x=>dn x.2)++RG.cells B))::(X++RG.tl B),k⟩ Q:=by
 intro B
 induction B with
 | nil=>
  intro A _ _ h
  simpa[RG.tl,RG.full,RG.cells] using h
 | cons x B ih=>
  intro A hB hqB h;obtain⟨n,L⟩:=x;have hB':j8 B k:=⟨λ i j x y hi hj hx hy e=>by
   have:=hB.inj (i+1) (j+1) x y (by simpa using hi) (by simpa using hj) hx hy e;omega,λ y hy=>hB.bd y (List.mem_cons_of_mem _ hy)⟩
  have hqB':∀ x,x∈B->x.2≠[]->q x.1=false:=λ y hy=>hqB y (List.mem_cons_of_mem _ hy)
  have hAB:A++(n,L)::B=(A++[(n,L)])++B:=by simp
  rw[hAB] at h;cases L with
  | nil=>
   have:=ih (A++[(n,[])]) hB' hqB' h;have e1:RG.tl ((n,[])::B)=RG.tl B:=by simp[RG.tl,RG.full]
   have e2:(A.map λ x=>dn x.2)++RG.cells ((n,[])::B)=((A++[(n,([]:List Dt))]).map λ x=>dn x.2)++RG.cells B:=by simp[RG.cells,gv,dn]
   rw[e1,e2];exact this
  | cons d0 L0=>
   obtain⟨L,hLe⟩:∃ L,d0::L0=L:=⟨_,rfl⟩;have hL:L≠[]:=by rw[<- hLe];simp
   rw[hLe] at h hB hqB hAB ⊢;clear hLe;have hqn:q n=false:=hqB (n,L) (List.mem_cons_self ..) hL;have hnk:n<k:=hB.bd (n,L) (List.mem_cons_self ..) hL;have hnB:∀ y,y∈B->y.2≠[]->y.1≠n:=λ y hy hyn e=>by
    obtain⟨j,hj⟩:=List.mem_iff_getElem?.1 hy;have:=hB.inj 0 (j+1) (n,L) y rfl (by simpa using hj) hL hyn e.symm;omega
   have hne:∀ m,q m=true->m≠n:=λ m hm e=>by rw[e,hqn] at hm;cases hm
   have hXq:∀ y,y∈X->q y.1=true:=λ y hy=>by
    have:=List.all_eq_true.1 hX y hy;simp only[Bool.and_eq_true] at this;exact this.1
   have hXl:∀ m,q m=false->lk X m=none:=λ m hm=>iu λ hh=>by
    obtain⟨y,hy,e⟩:=List.mem_map.1 hh;have:=hXq y hy;rw[e,hm] at this;cases this
   have hlkn:lk ((a,Ob.arr 31 1 len ((A.map λ x=>dn x.2)++RG.cells ((n,L)::B)))::(X++RG.tl ((n,L)::B))) n=some (.arr 37 2 L.length ((L.flatMap Dt.ds).map .d)):=by
    rw[aa,if_neg (λ e=>hne a ha e.symm),jl,hXl n hqn,Option.none_or];exact hB.AF (x:=(n,L)) (List.mem_cons_self ..) hL
   refine SW.IE n (L.flatMap Dt.ds) hlkn rfl ?_;rw[Ak hqn he];refine SW.weak id (st1:=⟨env,(a,.arr 31 1 len (((A++[(n,L)]).map λ x=>dn x.2)++RG.cells B))::(X++RG.tl B),k⟩) (aH.same lW (aL.refl (λ _ _ h=>h) ?_ y8) ?_ ?_) (ih (A++[(n,L)]) hB' hqB' h)
   .rw[List.all_eq_true] at he ⊢
    exact λ y hy=>SV.fG (λ m hm=>by simpa using Nq m hm) _ (he y hy)
   .refine ax (by simpa using Nq a ha) ?_ ?_
    .have h1:=hB'.aj (Nat.le_refl k)
     have h2:∀ (C:RG),SV.au (λ n=>decide (n<k)) (C.map λ x=>dn x.2)=true:=λ C=>by
      induction C with
      | nil=>rfl
      | cons x C ih=>simp only[List.map_cons,SV.au,Ai,ih,Bool.and_true]
     show SV.au _ (_++_)=true;have h3:∀ (u v:List SV),SV.au (λ n=>decide (n<k)) u=true->SV.au (λ n=>decide (n<k)) v=true->SV.au (λ n=>decide (n<k)) (u++v)=true:=λ u v hu hv=>by
      induction u with
      | nil=>exact hv
      | cons c u ih=>
       simp only[SV.au,Bool.and_eq_true] at hu;simp only[List.cons_append,SV.au,hu.1,ih hu.2,Bool.and_true]
     exact h3 _ _ (h2 _) h1
    .have h1:=Hp.eu (q':=λ n=>decide (n<k)) (λ m hm=>by simpa using Nq m hm) hX
     have h2:=hB'.qK (Nat.le_refl k);unfold Hp.ok at*;rw[List.all_append,h1,h2];rfl
   .intro y hy
    have sx:∀ m,m≠n->lk (u_ (Ob.yf n L.length (L.flatMap Dt.ds)) (bY ((a,Ob.arr 31 1 len ((A.map λ x=>dn x.2)++RG.cells ((n,L)::B)))::(X++RG.tl ((n,L)::B))) n)) m=(lk ((a,Ob.arr 31 1 len ((A.map λ x=>dn x.2)++RG.cells ((n,L)::B)))::(X++RG.tl ((n,L)::B))) m).map (Ob.yf n L.length (L.flatMap Dt.ds)):=λ m hm=>by
     rw[mQ,cZ,if_neg hm]
    rcases List.mem_cons.1 hy with rfl|hy
    .show lk _ a=_
     rw[sx a (hne a ha),aa,if_pos rfl];have e3:(gv (n,L)).gz n L.length (L.flatMap Dt.ds)=dn L:=by
      rw[jS hL];simp only[SV.gz,if_true];cases L with
      | nil=>exact absurd rfl hL
      | cons d L=>rfl
     have e4:RG.cells ((n,L)::B)=gv (n,L)::RG.cells B:=rfl;simp only[Option.map_some,Ob.yf];rw[An,JM,e4];show some (Ob.arr 31 1 len ((A.map λ x=>dn x.2)++(gv (n,L)).gz n L.length (L.flatMap Dt.ds)::SV.jX n L.length (L.flatMap Dt.ds) (RG.cells B)))=_;rw[e3,vI hnB];simp
    .rcases List.mem_append.1 hy with hy|hy
     .have hyq:=hXq y hy
      have hya:y.1≠a:=λ e=>(List.nodup_cons.1 oH).1 (by rw[<- e];exact List.mem_map.2 ⟨y,hy,rfl⟩)
      rw[sx y.1 (hne _ hyq),aa,if_neg hya,jl,aK (List.nodup_cons.1 oH).2 y hy];have hok:=List.all_eq_true.1 hX y hy;simp only[Bool.and_eq_true] at hok;simp only[Option.some_or,Option.map_some];rw[Ob.GX hqn _ hok.2]
     .obtain⟨z,hz,hzn,rfl⟩:=RG.lR.1 hy
      have hz1:=hnB z hz hzn;have hz2:=hqB' z hz hzn;have hza:z.1≠a:=λ e=>by rw[e,ha] at hz2;cases hz2
      rw[sx _ hz1,aa,if_neg hza,jl,hXl _ hz2,Option.none_or];rw[show lk (RG.tl ((n,L)::B)) z.1=some (fh z.2) from hB.AF (List.mem_cons_of_mem _ hz) hzn];simp only[Option.map_some,fh,Ob.yf,GY]
end
end
section
attribute [local irreducible] SW RW aF SC ai ak
def v7 (c:Dt->Nat)(seen:List Dt):Nat:=seen.foldl (λ m v=>max m (c v+1)) 0
theorem GZ (c:Dt->Nat)(seen:List Dt)(v:Dt):v7 c (seen++[v])=max (v7 c seen) (c v+1):=by unfold v7;rw[List.foldl_append];rfl
theorem pW {c:Dt->Nat}{seen:List Dt}{v:Dt}(h:v∈seen):c v<v7 c seen:=by
 have key:∀ (s:List Dt) (m:Nat),m<=s.foldl (λ m v=>max m (c v+1)) m/\∀ v,v∈s->c v<s.foldl (λ m v=>max m (c v+1)) m:=λ s=>by
  induction s with
  | nil=>exact λ m=>⟨Nat.le_refl _,λ v h=>by cases h⟩
  | cons x s ih=>
   intro m;obtain⟨h1,h2⟩:=ih (max m (c x+1));rw[List.foldl_cons];refine⟨by omega,λ v hv=> ?_⟩;rcases List.mem_cons.1 hv with rfl|hv
   .omega
   .exact h2 v hv
 exact(key seen 0).2 v h
theorem o7 {c:Dt->Nat}{seen:List Dt}{b:Nat}(h:∀ v,v∈seen->c v+1<=b):v7 c seen<=b:=by
 have key:∀ (s:List Dt) (m:Nat),m<=b->(∀ v,v∈s->c v+1<=b)->s.foldl (λ m v=>max m (c v+1)) m<=b:=λ s=>by
  induction s with
  | nil=>exact λ m hm _=>hm
  | cons x s ih=>
   intro m hm hs;rw[List.foldl_cons];have:=hs x (List.mem_cons_self ..);exact ih _ (by omega) λ v hv=>hs v (List.mem_cons_of_mem _ hv)
 exact key seen 0 (Nat.zero_le _) h
theorem JN {c:Dt->Nat}{s t:List Dt}(h:∀ v,v∈s↔v∈t):v7 c s=v7 c t:=
 Nat.le_antisymm (o7 λ v hv=>pW ((h v).1 hv)) (o7 λ v hv=>pW ((h v).2 hv))
structure RI (c:Dt->Nat)(seen:List Dt)(t:Nat)(G:RG):Prop where
 len:G.length=max (v7 c seen) t
 row:∀ j x,G[j]? =some x->x.2=seen.filter λ v=>decide (c v=j)
theorem RI.nil (c:Dt->Nat):RI c [] 0 []:=⟨rfl,λ j x h=>by simp at h⟩
theorem RI.grow {c:Dt->Nat}{seen:List Dt}{t:Nat}{G:RG}(h:RI c seen t G){m:Nat}(hm:G.length<m):RI c seen (G.length+1) (G++[(0,[])]):=by
 have hl:=h.len;refine⟨by rw[List.length_append,List.length_singleton];omega,λ j x hx=> ?_⟩;rw[List.getElem?_append] at hx
 split at hx
 .exact h.row j x hx
 .rename_i hj
  rw[List.getElem?_singleton] at hx
  split at hx
  .rename_i e
   injection hx with hx;subst hx
   symm
   rw[List.filter_eq_nil_iff];intro v hv;have:=pW (c:=c) hv;simp only[decide_eq_true_eq];omega
  .cases hx
theorem RI.set {c:Dt->Nat}{seen:List Dt}{t:Nat}{G:RG}(h:RI c seen t G){v:Dt}(ht:t<=max (v7 c seen) (c v+1))(hv:c v<G.length){n k:Nat}{L:List Dt}(hg:G[c v]? =some (n,L)):RI c (seen++[v]) 0 (G.set (c v) (k,L++[v])):=by
 have hl:=h.len;refine⟨by rw[List.length_set,GZ];omega,λ j x hx=> ?_⟩;rw[List.getElem?_set] at hx
 split at hx
 .rename_i e
  injection hx with hx;subst hx;have:=h.row _ _ hg;dsimp only at this ⊢;rw[this,List.filter_append,e];simp[e]
 .rename_i e
  rw[h.row j x hx,List.filter_append];simp[e]
theorem RI.rows {c:Dt->Nat}{seen:List Dt}{G:RG}(h:RI c seen 0 G):G.map (·.2)=(List.range (v7 c seen)).map λ j=>seen.filter λ v=>decide (c v=j):=by
 have hl:=h.len;apply List.ext_getElem?;intro j;rw[List.getElem?_map,List.getElem?_map];cases hg:G[j]? with
 | none=>
  have:G.length<=j:=List.getElem?_eq_none_iff.1 hg;rw[List.getElem?_eq_none (by rw[List.length_range];omega)];rfl
 | some x=>
  have:j<G.length:=by
   obtain⟨h1,_⟩:=List.getElem?_eq_some_iff.1 hg;exact h1
  rw[List.getElem?_range (by omega)];simp[h.row j x hg]
def Cp:List Dt->DV
 | []=> .aG
 | d::L=> .sl (d::L).length ((d::L).flatMap Dt.ds)
theorem Pm (L:List Dt):dn L= .d (Cp L):=by cases L<;>rfl
def qj (R:List (List Dt)):SV:= .d (.sl R.length (R.map Cp))
noncomputable def eP (l:List ag)(v:Dt):Nat:=(gZ l (j4 l v)).length
noncomputable def jr (l:List ag):List (List Dt):=(List.range (v7 (eP l) (bn l))).map λ j=>(bn l).filter λ v=>decide (eP l v=j)
structure RQ (c:Dt->Nat)(seen:List Dt)(t:Nat)(G:RG)(a kk:Nat):Prop where
 ri:RI c seen t G
 ok:j8 G kk
 la:a<kk
 na:∀ x,x∈G->x.2≠[]->x.1≠a
abbrev yN (G:RG)(a:Nat):Hp:=(a,.arr 31 1 G.length (RG.cells G))::RG.tl G
theorem RQ.qK {c:Dt->Nat}{seen:List Dt}{t:Nat}{G:RG}{a kk k:Nat}(h:RQ c seen t G a kk)(hk:kk<=k):(yN G a).ok (λ n=>decide (n<k))=true:=
 ax (by have:=h.la;simp;omega) (h.ok.aj hk) (h.ok.qK hk)
theorem RQ.out {c:Dt->Nat}{seen:List Dt}{t:Nat}{G:RG}{a kk n:Nat}(h:RQ c seen t G a kk)(hn:kk<=n):lk (RG.tl G) n=none:=j8.out (kk:=kk) λ x hx hxn e=>by have:=h.ok.bd x hx hxn;omega
theorem RQ.Oj {c:Dt->Nat}{seen:List Dt}{t:Nat}{G:RG}{a kk:Nat}(h:RQ c seen t G a kk):lk (RG.tl G) a=none:=j8.out (kk:=kk) h.na
theorem RQ.grow {c:Dt->Nat}{seen:List Dt}{t:Nat}{G:RG}{a kk m:Nat}(h:RQ c seen t G a kk)(hm:G.length<m):RQ c seen (G.length+1) (G++[(0,[])]) kk (kk+1):=by
 refine⟨h.ri.grow hm,(h.ok.snoc).more (Nat.le_succ _),Nat.lt_succ_self _,λ x hx hxn=> ?_⟩;have:=(h.ok.snoc).bd x hx hxn;omega
theorem RQ.set {c:Dt->Nat}{seen:List Dt}{t:Nat}{G:RG}{a kk:Nat}(h:RQ c seen t G a kk){v:Dt}(ht:t<=max (v7 c seen) (c v+1))(hv:c v<G.length){n k:Nat}{L:List Dt}(hg:G[c v]? =some (n,L))(hk:kk<=k):RQ c (seen++[v]) 0 (G.set (c v) (k,L++[v])) a (k+1):=by
 refine⟨h.ri.set ht hv hg,h.ok.set _ _ _ _ hk (Nat.lt_succ_self _),by have:=h.la;omega,λ x hx hxn=> ?_⟩;rcases List.mem_or_eq_of_mem_set hx with hx|rfl
 .exact h.na x hx hxn
 .have:=h.la;dsimp only;omega
theorem G2 {G:RG}{m n:Nat}{L:List Dt}(h:G[m]? =some (n,L)):(RG.cells G)[m]? =some (gv (n,L)):=by unfold RG.cells;rw[List.getElem?_map,h];rfl
theorem G3 (G:RG)(m:Nat)(x:Nat×List Dt):cq (RG.cells G) m [gv x]=RG.cells (G.set m x):=(RG.DG G m x).symm
theorem vJ:∀ {h:Hp} {n:Nat},lk h n=none->bY h n=h
 | [],n,_=>rfl
 | (m,o)::h,n,hn=>by
  rw[aa] at hn
  split at hn
  .cases hn
  .rename_i e
   unfold bY;rw[if_neg (λ hh=>e hh.symm),vJ hn]
theorem RQ.KP {c:Dt->Nat}{seen:List Dt}{t:Nat}{G:RG}{a kk:Nat}(h:RQ c seen t G a kk):∀ y,y∈yN G a->lk (yN G a) y.1=some y.2:=λ y hy=>by
 rcases List.mem_cons.1 hy with rfl|hy
 .rw[aa,if_pos rfl]
 .obtain⟨x,hx,hxn,rfl⟩:=RG.lR.1 hy
  rw[aa,if_neg (h.na x hx hxn)];exact h.ok.AF hx hxn
theorem RQ.Mz {c:Dt->Nat}{seen:List Dt}{t:Nat}{G:RG}{a kk:Nat}(h:RQ c seen t G a kk):∀ y,y∈yN (G++[(0,[])]) kk->lk ((kk,.arr 31 1 (G.length+1) (RG.cells G++[.d .aG]))::RG.tl G:Hp) y.1=some y.2:=λ y hy=>by
 rcases List.mem_cons.1 hy with rfl|hy
 .rw[aa,if_pos rfl,RG.vG];simp
 .rw[RG.Cn] at hy
  obtain⟨x,hx,hxn,rfl⟩:=RG.lR.1 hy;have:=h.ok.bd x hx hxn;rw[aa,if_neg (by dsimp only;omega)];exact h.ok.AF hx hxn
theorem RQ.G4 {c:Dt->Nat}{seen:List Dt}{t:Nat}{G:RG}{a kk m n k:Nat}{L L':List Dt}(h:RQ c seen t G a kk)(hg:G[m]? =some (n,L)){H:Hp}(ha:lk H a=some (.arr 31 1 (G.set m (k,L')).length (RG.cells (G.set m (k,L')))))(hk:lk H k=some (fh L'))
  (ho:∀ x:Nat×List Dt,x∈G->x.2≠[]->x.1<kk->x.1≠a->(L≠[]->x.1≠n)->lk (RG.tl G) x.1=some (fh x.2)->lk H x.1=some (fh x.2)):∀ y,y∈yN (G.set m (k,L')) a->lk H y.1=some y.2:=λ y hy=>by
 rcases List.mem_cons.1 hy with rfl|hy
 .exact ha
 .refine RG.KP hk (λ j x hj hx hxn=> ?_) y hy
  have hm:=List.mem_of_getElem? hx;exact ho x hm hxn (h.ok.bd x hm hxn) (h.na x hm hxn) (λ hL e=>hj (h.ok.inj j m x (n,L) hx hg hxn hL e)) (h.ok.AF hm hxn)
theorem MA (G:RG):(G.map λ x=>dn x.2)=((G.map (·.2)).map Cp).map SV.d:=by
 rw[List.map_map,List.map_map];exact List.map_congr_left λ x _=>Pm x.2
section
variable {l:List ag} (hl:l.length<=80) (hd:∀ x,x∈l->x.aT<256/\x.mZ/\x.dot.wf)
include hl hd
set_option maxHeartbeats 4000000 in
theorem Bp:Go.Sl.Pure Tryz.prog ref18_Levels.f [ops l] (qj (jr l)):=by
 have sx:=s8 hl hd;have hgl:=s7 hl hd;refine ref18_Levels.enter (by first|rfl|simp[SV.ok,SV.au]) (by first|rfl|simp[Hp.ok,Ob.ok,SV.ok,SV.au,aB.aj]) (by simp) ?_;dsimp only[ref18_Levels.s,Co.M,Co.J,Co.F,Co.Z,Co.b8,Co.ay,Co.T,Co.K,Co.E,Co.L,Co.P,Co.Q,Co.W,Co.Y,Co.V,Co.I,Co.S];refine SW.seq (SW.g0 dt Zm af ?_);refine SW.seq (SW.g1 dt Zm af sx ?_);refine SW.seq (SW.g0 dt Zm af ?_);refine SW.iN 4 31 1 rfl ?_;refine SW.seq (SW.seq (SW.g0 dt Zm af ?_));refine SW.block ?_;have hmem:∀ v,v∈bn l->bJ l v=true:=λ v h=>jh.1 h
 have hlevR:jr l=(List.range (v7 (eP l) (bn l))).map λ j=>(bn l).filter λ v=>decide (eP l v=j):=rfl
 rw[hlevR];have hc9:∀ v,eP l v<=9:=λ v=>rS hl hd _
 have hlev:∀ v,v∈bn l->∀ k,aF Tryz.prog ref18_Level.f [ops l,.agg v.cells] [] k 0 (.de [.d (.int .i64 ((eP l v:Int) - 1)),bl true]) []:=λ v hv k=>by
  have:=DD hl hd v k;unfold mq at this;rw[hmem v hv] at this;exact this
 generalize bn l=ds at*;generalize eP l=c at*;have hmx:∀ s,v7 c s<=10:=λ s=>o7 λ v _=>by have:=hc9 v;omega
 refine SW.loop (α:={q:Nat×RG×Nat×Nat // q.1<=ds.length/\RQ c (ds.take q.1) 0 q.2.1 q.2.2.1 q.2.2.2}) (λ q=>⟨[(5,i64 q.1.1),(4,.gs q.1.2.2.1 q.1.2.1.length),(3,bg ds),(0,ops l)],yN q.1.2.1 q.1.2.2.1,q.1.2.2.2⟩) (λ q=>ds.length - q.1.1) ⟨(0,[],0,1),Nat.zero_le _,RI.nil c,j8.nil 1,Nat.zero_lt_one,λ x h=>by cases h⟩ id ?_ ?_
 .exact aH.same (Nat.zero_le _) (by simp[aL,List.lookup,SV.aC,SV.ok,SV.au]) rfl (λ y hy=>by
   simp only[RG.tl,RG.full,List.filter_nil,List.map_nil,List.mem_cons,List.not_mem_nil,or_false] at hy;subst hy;rfl)
 rintro⟨⟨i,G,a,kk⟩,hq⟩;have hq:i<=ds.length/\RQ c (ds.take i) 0 G a kk:=hq;obtain⟨p1,p2⟩:=hq;dsimp only at*
 by_cases h:i<ds.length
 .obtain⟨v,hx⟩:=aP h
  have h1:decide ((i:Int)<ds.length)=true:=by simp only[decide_eq_true_eq];omega
  have e2:IntKind.i64.wrap ((i:Int)+1)=((i+1:Nat):Int):=wrap_i64 _ (by omega);have hL:=hlev v (List.mem_of_getElem? hx);have hm9:=hc9 v;have htk:ds.take (i+1)=ds.take i++[v]:=bt hx;obtain⟨m,hm⟩:∃ m,c v=m:=⟨_,rfl⟩;rw[hm] at hL hm9;refine SW.seq (SW.seq (SW.g0 dt Zm h1 ?_));refine SW.an rfl (SW.skip (SW.seq (SW.block (SW.seq (SW.g1 dt Zm (b_ hx) hL ?_)))));refine SW.seq (SW.block (SW.loop (α:={q:RG×Nat×Nat // ∃ t,t<=m+1/\RQ c (ds.take i) t q.1 q.2.1 q.2.2}) (λ q=>⟨[(6,.d (.int .i64 ((m:Int) - 1))),(5,i64 i),(4,.gs q.1.2.1 q.1.1.length),(3,bg ds),(0,ops l)],yN q.1.1 q.1.2.1,q.1.2.2⟩) (λ q=>m+1 - q.1.1.length) ⟨(G,a,kk),0,Nat.zero_le _,p2⟩ id ?_ ?_))
  .exact aH.same (Nat.zero_le _) (by simp[aL,List.lookup,SV.aC,SV.ok,SV.au];exact p2.la) (p2.qK (Nat.le_refl _)) p2.KP
  rintro⟨⟨G1,a1,k1⟩,hj⟩;have hj:∃ t,t<=m+1/\RQ c (ds.take i) t G1 a1 k1:=hj;obtain⟨t,ht,p3⟩:=hj;dsimp only at*;have w1:IntKind.i64.wrap (((m:Int) - 1)+2)=((m+1:Nat):Int):=by rw[wrap_i64 _ (by omega)];omega
  have w2:IntKind.i64.wrap (((m:Int) - 1)+1)=(m:Int):=by rw[wrap_i64 _ (by omega)];omega
  have la:=p3.la;have sp1:cq [SV.d .aG] 0 [SV.d .aG]=[SV.d .aG]:=rfl;have n1:=bX (show k1≠a1 by omega);have t0:List.lookup k1 (RG.tl G1)=none:=p3.out (Nat.le_refl _);have ta:List.lookup a1 (RG.tl G1)=none:=p3.Oj;have hd0:bY (RG.tl G1) a1=RG.tl G1:=vJ ta;dsimp only[yN]
  by_cases hj:G1.length<m+1
  .have j1:decide ((G1.length:Int)<((m+1:Nat):Int))=true:=by simp only[decide_eq_true_eq];omega
   refine SW.seq (SW.seq (SW.g0 dt Zm (Zq w1 j1) ?_));refine SW.an rfl (SW.skip (SW.block (SW.g0 dt Zm (Zq n1 (Zq t0 (Zq hd0 sp1))) ?_)));refine⟨⟨(G1++[(0,[])],k1,k1+1),G1.length+1,by omega,p3.grow hj⟩,id,by show m+1 - (G1++[(0,([]:List Dt))]).length<m+1 - G1.length;rw[List.length_append,List.length_singleton];omega,?_⟩;dsimp only;refine aH.same (Nat.zero_le _) (by simp[aL,List.lookup,SV.aC,SV.ok,SV.au]) ((p3.grow hj).qK (Nat.le_refl _)) p3.Mz
  .have j1:decide ((G1.length:Int)<((m+1:Nat):Int))=false:=by simp only[decide_eq_false_iff_not];omega
   refine SW.seq (SW.seq (SW.g0 dt Zm (Zq w1 j1) ?_));refine SW.ah rfl (SW.exit ?_);refine(?_:Sl.SW _ _ _ _ _ _);have hml:m<G1.length:=by omega
   obtain⟨⟨n,L⟩,hg⟩:=aP hml;have gc:=G2 hg;have hrq:=p3.set (v:=v) (by rw[hm];omega) (by rw[hm];exact hml) (by rw[hm];exact hg) (Nat.le_refl k1);rw[hm,<- htk] at hrq
   have fin:∀ (env:List (Nat×SV)) (hp:Hp) (kz:Nat),(∀ y,y∈yN (G1.set m (k1,L++[v])) a1->lk hp y.1=some y.2)->aL id (k1+1) env [(5,i64 ((i+1:Nat):Int)),(4,.gs a1 (G1.set m (k1,L++[v])).length),(3,bg ds),(0,ops l)]->
     ∃ (j:{q:Nat×RG×Nat×Nat // q.1<=ds.length/\RQ c (ds.take q.1) 0 q.2.1 q.2.2.1 q.2.2.2}) (ρ:Nat->Nat),ds.length - j.1.1<ds.length - i/\aH 0 ⟨env,hp,kz⟩ ⟨[(5,i64 j.1.1),(4,.gs j.1.2.2.1 j.1.2.1.length),(3,bg ds),(0,ops l)],yN j.1.2.1 j.1.2.2.1,j.1.2.2.2⟩ ρ:=λ env hp kz g1 g2=>
    ⟨⟨(i+1,G1.set m (k1,L++[v]),a1,k1+1),by show i+1<=_;omega,hrq⟩,id,by show ds.length - (i+1)<_;omega,aH.same (Nat.zero_le _) g2 (hrq.qK (Nat.le_refl _)) g1⟩
   have gs:=G3 G1 m (k1,L++[v]);have hlen:(G1.set m (k1,L++[v])).length=G1.length:=List.length_set;have lV:m+1<=(RG.cells G1).length:=by rw[RG.jc];exact hml
   have hLl:L.length<=80:=by
    have e:=p3.ri.row m _ hg;dsimp only at e;rw[e];have h2:=List.length_filter_le (λ v=>decide (c v=m)) (ds.take i);have h3:(ds.take i).length<=ds.length:=by rw[List.length_take];omega
    omega
   cases L with
   | nil=>
    have gc:(RG.cells G1)[m]? =some (.d .aG):=gc;have gs:cq (RG.cells G1) m [SV.gs k1 1]=RG.cells (G1.set m (k1,[v])):=gs;refine SW.gK dt Zm (Zq (b_ hx) (Zq n1 (Zq t0 (Zq ta (Zq w2 (Zq gc (Zq gs (Zq Int.toNat_natCast Nat.mul_one)))))))) n1 True.intro ?_;refine SW.g0 dt Zm e2 ?_;refine fin _ _ _ (p3.G4 hg ?_ ?_ λ x hx hxn h1 h2 h3 h4=> ?_) (by simp[aL,List.lookup,SV.aC,SV.ok,SV.au,hlen];omega)
    .simp[aa,n1]
    .simp[aa,n1,fh]
    .rw[aa,if_neg (by omega),aa,if_neg h2];exact h4
   | cons d0 L0=>
    obtain⟨L,hLe⟩:∃ L,d0::L0=L:=⟨_,rfl⟩;have hLn:L≠[]:=by rw[<- hLe];simp
    rw[hLe] at gc gs hrq fin hlen hLl hg;rw[jS hLn] at gc;rw[jS (show L++[v]≠[] by simp),show(L++[v]).length=L.length+1 by simp] at gs;have hmx:=List.mem_of_getElem? hg;have hnb:=p3.ok.bd _ hmx hLn;have hna:=p3.na _ hmx hLn;dsimp only at hnb hna;have n2:=bX hna;have n3:=bX (show n≠k1 by omega);have t3:List.lookup n (RG.tl G1)=some (.arr 37 2 L.length ((L.flatMap Dt.ds).map .d)):=p3.ok.AF hmx hLn;have t4:List.lookup k1 (bY (RG.tl G1) n)=none:=by
     show lk (bY (RG.tl G1) n) k1=none;rw[cZ,if_neg (by omega)];exact t0
    refine SW.gK dt Zm (Zq (b_ hx) (Zq n1 (Zq n2 (Zq n3 (Zq t0 (Zq ta (Zq t3 (Zq t4 (Zq w2 (Zq gc (Zq gs (Zq Int.toNat_natCast Nat.mul_one)))))))))))) (Zq n1 (Zq n2 n3)) True.intro ?_;refine SW.g0 dt Zm e2 ?_;refine fin _ _ _ (p3.G4 hg ?_ ?_ λ x hx hxn h1 h2 h3 h4=> ?_) (by simp[aL,List.lookup,SV.aC,SV.ok,SV.au,hlen];omega)
    .simp[aa,n1]
    .simp[aa,n1,fh,Dt.kS]
    .rw[aa,if_neg (by omega),aa,if_neg h2,cZ,if_neg (h3 hLn)];exact h4
 .have h1:decide ((i:Int)<ds.length)=false:=by simp only[decide_eq_false_iff_not];omega
  have hi2:i=ds.length:=by omega
  subst hi2;rw[List.take_length] at p2;refine SW.seq (SW.seq (SW.g0 dt Zm h1 ?_));refine SW.ah rfl (SW.exit ?_);refine(?_:Sl.SW _ _ _ _ _ _);have la:=p2.la;refine SW.weak id (st1:=⟨[(4,.gs a G.length)],yN G a,kk⟩) (aH.same (Nat.zero_le _) (by simp[aL,List.lookup,SV.aC,SV.ok,SV.au];omega) (p2.qK (Nat.le_refl _)) p2.KP) ?_;refine SW.Oi (X:=[]) (λ n=>decide (n=a)) (λ n hn=>by have:=of_decide_eq_true hn;omega) (Nat.zero_le _) (by simp) rfl (by simp) (by simp[SV.ok]) (by simp) G [] p2.ok (λ x hx hxn=>decide_eq_false (p2.na x hx hxn)) ?_;have hR:=p2.ri.rows;refine SW.freeze a ((G.map (·.2)).map Cp) (show lk _ a=some (.arr 31 1 G.length (G.map λ x=>dn x.2)) by rw[aa,if_pos rfl];rfl) (MA G) ?_;simp only[iM,SV.gz,List.map_cons,List.map_nil,if_true,if_false,reduceIte,bY,Nat.reduceEqDiff];refine SW.seq (SW.g0 dt Zm af ?_);refine SW.ret ?_;exact End.mk [] (h4:=⟨by rw[<- hR];simp[qj,ez],rfl⟩)
end
end
section
attribute [local irreducible] SW RW aF SC ai ak
def HU (L:List Dt):DV:= .sl L.length (L.flatMap Dt.ds)
def g_ (R:List (List Dt)):SV:= .d (.sl R.length (R.map λ L=>HU (Dt.set L)))
theorem JO (n:Nat)(ds:List DV):Go.Sl.Pure Tryz.prog slices_Clip_LLapi_Dot_Lapi_Dot.f [.d (.sl n ds)] (.d (.sl n ds)):=by
 refine slices_Clip_LLapi_Dot_Lapi_Dot.enter (by first|rfl|simp[SV.ok,SV.au]) (by first|rfl|simp[Hp.ok,Ob.ok,SV.ok,SV.au,aB.aj]) (by simp) ?_;dsimp only[slices_Clip_LLapi_Dot_Lapi_Dot.s,Co.M,Co.J,Co.F,Co.L,Co.S];(repeat (first|refine SW.seq ?_|refine SW.block ?_|refine SW.g0 im Zm af ?_|refine SW.skip ?_|refine SW.exit ?_|refine SW.ret ?_|refine SW.an rfl ?_|refine SW.ah rfl ?_));exact End.mk [] (h4:=⟨rfl,rfl⟩)
theorem JP (n:Nat)(ds:List DV)(k:Nat):aF Tryz.prog slices_Clip_LLapi_Dot_Lapi_Dot.f [.d (.sl n ds)] [] k 0 (.d (.sl n ds)) []:=(JO n ds).sc rfl k
def Ix.oA (X:Ix)(d:Dt):Nat:=(X.pV d).length
def Ix.jr (X:Ix):List (List Dt):=(List.range (v7 X.oA (MM.keys X.ops))).map λ j=>(MM.keys X.ops).filter λ v=>decide (X.oA v=j)
theorem xJ {c:Dt->Nat}{s t:List Dt}(h:∀ v,v∈s↔v∈t):g_ ((List.range (v7 c s)).map λ j=>s.filter λ v=>decide (c v=j))=g_ ((List.range (v7 c t)).map λ j=>t.filter λ v=>decide (c v=j)):=by
 unfold g_;rw[JN h,List.map_map,List.map_map];simp only[List.length_map,List.length_range]
 congr 2
 refine List.map_congr_left λ j _=> ?_
 show HU (Dt.set _)=HU (Dt.set _);exact congrArg HU (Dt.yM λ v=>by rw[List.mem_filter,List.mem_filter,h v])
def RG.hi (G:RG):Prop:=∀ x,x∈G->x.2≠[]->6<=x.1
structure LI (X:Ix)(xs:MM Dt ag)(G:RG)(a kk:Nat):Prop where
 sub:∀ x,x∈xs->x∈X.ops
 nd:(xs.map (·.1)).Nodup
 len:xs.length<=X.ops.length
 rq:RQ X.oA (xs.map (·.2.1)) 0 G a kk
 lo:a=4\/6<=a
 hi:G.hi
 k6:6<=kk
 le:kk<=6+2*xs.length+G.length
def xK:Nat:=3000
theorem RG.MB:RG.hi []:=λ x h=>by cases h
theorem LI.sep {X:Ix}{xs:MM Dt ag}{G:RG}{a kk:Nat}(h:LI X xs G a kk):(a≠0/\a≠1/\a≠2/\a≠3)/\a≠5:=by have:=h.lo;omega
abbrev LZ (X:Ix)(seen:List Nat)(G:RG)(a:Nat):Hp:=(5,.iter (some 1) X.co seen X.co)::(0,.box 110 [.any,.mp 1,.mp 2,.mp 3])::(1,.map (aq Dt.cells ov X.ops) X.co)::(2,.map (aq Dt.cells dn X.ch) X.cc)::(3,.map (aq Dt.cells dn X.mg) X.cf)::yN G a
theorem G5 {X:Ix}{seen:List Nat}{G:RG}{a k:Nat}(hk:6<=k)(h:(yN G a).ok (λ n=>decide (n<k))=true):(LZ X seen G a).ok (λ n=>decide (n<k))=true:=
 ax (by simp;omega) (Cj _ _ _ _ _ (by simp;omega)) (ax (by simp;omega) (by simp[Ob.ok,SV.au,SV.ok];omega) (ax (by simp;omega) (bF _ _) (ax (by simp;omega) (fJ _ _) (ax (by simp;omega) (fJ _ _) h))))
theorem K6 {X:Ix}{seen:List Nat}{G:RG}{a:Nat}{H:Hp}(hl:a=4\/6<=a)(hi:G.hi)(h0:∀ n,n∈[5,0,1,2,3]->lk H n=lk (LZ X seen [] a) n)(h:∀ y,y∈yN G a->lk H y.1=some y.2):∀ y,y∈LZ X seen G a->lk H y.1=some y.2:=λ y hy=>by
 simp only[List.mem_cons] at hy;rcases hy with rfl|rfl|rfl|rfl|rfl|hy
 .exact(h0 5 (by decide)).trans rfl
 .exact(h0 0 (by decide)).trans rfl
 .exact(h0 1 (by decide)).trans rfl
 .exact(h0 2 (by decide)).trans rfl
 .exact(h0 3 (by decide)).trans rfl
 .exact h y (List.mem_cons.2 hy)
theorem RQ.PK {X:Ix}{sn:List Nat}{c:Dt->Nat}{seen:List Dt}{t:Nat}{G:RG}{a kk:Nat}(h:RQ c seen t G a kk)(hl:a=4\/6<=a)(hi:G.hi):∀ y,y∈yN G a->lk (LZ X sn G a) y.1=some y.2:=λ y hy=>by
 have hy1:y.1=a\/6<=y.1:=by
  rcases List.mem_cons.1 hy with rfl|hy
  .exact .inl rfl
  .obtain⟨x,hx,hxn,rfl⟩:=RG.lR.1 hy
   exact .inr (hi x hx hxn)
 have hz:y.1≠5/\y.1≠0/\y.1≠1/\y.1≠2/\y.1≠3:=by omega
 rw[aa,if_neg hz.1,aa,if_neg hz.2.1,aa,if_neg hz.2.2.1,aa,if_neg hz.2.2.2.1,aa,if_neg hz.2.2.2.2];exact h.KP y hy
structure LJ (X:Ix)(seen:List Dt)(G0:RG)(kk m:Nat)(G:RG)(a k:Nat):Prop where
 rq:∃ t,t<=m+1/\RQ X.oA seen t G a k
 lo:a=4\/6<=a
 hi:G.hi
 na:a≠kk
 nr:∀ x,x∈G->x.2≠[]->x.1<kk
 kl:kk+1<=k
 ku:k+G0.length<=kk+1+G.length
theorem LJ.grow {X:Ix}{seen:List Dt}{G0:RG}{kk m:Nat}{G:RG}{a k:Nat}(h:LJ X seen G0 kk m G a k)(hm:G.length<m+1)(h6:6<=kk):LJ X seen G0 kk m (G++[(0,[])]) k (k+1):=by
 obtain⟨t,ht,hr⟩:=h.rq;have h1:=h.kl;have h2:=h.ku;have hmem:∀ x:Nat×List Dt,x∈G++[(0,([]:List Dt))]->x.2≠[]->x∈G:=λ x hx hxn=>by
  rcases List.mem_append.1 hx with hx|hx
  .exact hx
  .rw[List.mem_singleton] at hx;subst hx;exact absurd rfl hxn
 exact⟨⟨_,by omega,hr.grow hm⟩,.inr (by omega),λ x hx hxn=>h.hi x (hmem x hx hxn) hxn,by omega,λ x hx hxn=>h.nr x (hmem x hx hxn) hxn,by omega,by rw[List.length_append,List.length_singleton];omega⟩
abbrev LB (X:Ix)(seen:List Nat)(d:Dt)(kk:Nat)(G:RG)(a:Nat):Hp:=(kk,.box 37 d.cells)::LZ X seen G a
theorem LJ.PL {X:Ix}{seen:List Dt}{sn:List Nat}{G0:RG}{kk m:Nat}{G:RG}{a k:Nat}{d:Dt}(h:LJ X seen G0 kk m G a k)(h6:6<=kk):∀ y,y∈LB X sn d kk G a->lk (LB X sn d kk G a) y.1=some y.2:=λ y hy=>by
 obtain⟨t,ht,hr⟩:=h.rq;rcases List.mem_cons.1 hy with rfl|hy
 .rw[aa,if_pos rfl]
 .have hy1:y.1≠kk:=by
   simp only[LZ,yN,List.mem_cons] at hy;rcases hy with rfl|rfl|rfl|rfl|rfl|rfl|hy
   .show 5≠kk;omega
   .show 0≠kk;omega
   .show 1≠kk;omega
   .show 2≠kk;omega
   .show 3≠kk;omega
   .exact h.na
   .obtain⟨x,hx,hxn,rfl⟩:=RG.lR.1 hy
    have:=h.nr x hx hxn;show x.1≠kk;omega
  rw[aa,if_neg hy1];exact K6 h.lo h.hi (λ n hn=>by
   simp only[List.mem_cons,List.not_mem_nil,or_false] at hn;rcases hn with rfl|rfl|rfl|rfl|rfl<;>rfl) (hr.PK h.lo h.hi) y hy
theorem LJ.okB {X:Ix}{seen:List Dt}{sn:List Nat}{G0:RG}{kk m:Nat}{G:RG}{a k:Nat}{d:Dt}(h:LJ X seen G0 kk m G a k)(h6:6<=kk):(LB X sn d kk G a).ok (λ n=>decide (n<k))=true:=by
 obtain⟨t,ht,hr⟩:=h.rq;have:=h.kl;exact ax (by simp;omega) (by simp[Ob.ok,Dt.aj]) (G5 (by omega) (hr.qK (Nat.le_refl _)))
theorem K7 {X:Ix}{sn:List Nat}{G:RG}{a:Nat}{H:Hp}(h5:lk H 5=some (.iter (some 1) X.co sn X.co))(h0:lk H 0=some (.box 110 [.any,.mp 1,.mp 2,.mp 3]))(h1:lk H 1=some (.map (aq Dt.cells ov X.ops) X.co))(h2:lk H 2=some (.map (aq Dt.cells dn X.ch) X.cc))(h3:lk H 3=some (.map (aq Dt.cells dn X.mg) X.cf))
  (h:∀ y,y∈yN G a->lk H y.1=some y.2):∀ y,y∈LZ X sn G a->lk H y.1=some y.2:=λ y hy=>by
 simp only[List.mem_cons] at hy;rcases hy with rfl|rfl|rfl|rfl|rfl|hy
 .exact h5
 .exact h0
 .exact h1
 .exact h2
 .exact h3
 .exact h y (List.mem_cons.2 hy)
set_option maxHeartbeats 16000000 in
theorem G6 (X:Ix)(hX:X.small)(h9:∀ d,X.oA d<=9):SB Tryz.prog revoke_Index_Levels.f [.ptr 0 0] X.h0 4 xK λ r F=>r=g_ X.jr/\F=X.h0:=by
  refine revoke_Index_Levels.enter (by simp[SV.au,SV.ok]) (X.yK (Nat.le_refl 4)) (by simp) ?_;dsimp only[revoke_Index_Levels.s,Co.M,Co.J,Co.F,Co.Z,Co.b8,Co.ay,Co.T,Co.K,Co.E,Co.L,Co.P,Co.W,Co.Y,Co.V,Co.D,Co.A,Co.I,Co.S];have hn:=Ci X;refine SW.seq (SW.g0 bj Zm af ?_);refine SW.seq (SW.seq (SW.g1 bj Zm af hn ?_));refine SW.ah rfl (SW.skip (SW.seq (SW.g0 bj Zm af ?_)));refine SW.iN 3 31 1 rfl ?_;refine SW.seq (SW.seq (SW.g0 bj Zm af ?_));refine SW.block ?_;have hmx:∀ s,v7 X.oA s<=10:=λ s=>o7 λ v _=>by have:=h9 v;omega
  refine SW.pK (es:=λ _=>aq Dt.cells ov X.ops) (c:=λ _=>X.co) (uc:=λ _=>5) (nm:=λ _=>1) (since:=λ _=>X.co) (A1:=λ _=>X.co)
    (α:={p:MM Dt ag×RG×Nat×Nat // LI X p.1 p.2.1 p.2.2.1 p.2.2.2})
    (λ p=>⟨[(13,.it 5),(3,.gs p.1.2.2.1 p.1.2.1.length),(0,.ptr 0 0)],LZ X (p.1.1.map (·.1)) p.1.2.1 p.1.2.2.1,p.1.2.2.2⟩)
    (λ p=>gC (aq Dt.cells ov X.ops) (p.1.1.map (·.1))) ⟨([],[],4,6),⟨by simp,by simp,Nat.zero_le _,⟨RI.nil _,j8.nil 6,by decide,λ x h=>by cases h⟩,.inl rfl,RG.MB,by decide,by decide⟩⟩ id (seen:=λ p=>p.1.1.map (·.1)) ?_ (λ p=>by simp[List.lookup]) (λ p=>by simp[aa]) (λ p=>by simp[aa]) (λ p=>by decide) (λ p e' he=> ?_) (λ p=>Nat.le_refl _) (λ p hall=> ?_) (λ p e' he hs=> ?_)
  . refine aH.same (by show 4<=6;decide) (by simp[aL,List.lookup,SV.aC,SV.ok,SV.au]) (G5 (by show 6<=6;decide) rfl) (λ y hy=> ?_)
    simp only[RG.tl,RG.full,List.filter_nil,List.map_nil,List.mem_cons,List.not_mem_nil,or_false] at hy;rcases hy with rfl|rfl|rfl|rfl|rfl|rfl<;>rfl
  . obtain⟨x,hx,rfl⟩:=eF he
    exact hX.wo.old x hx
  . obtain⟨⟨xs,G,a,kk⟩,p⟩:=p
    have p:LI X xs G a kk:=p;dsimp only at*;have hxs:=vm hX.wo p.sub hall;obtain⟨sa,s5⟩:=p.sep;have hla:=p.rq.la;have fa:=wG sa;have hnk:xK=3000:=rfl;have hk1:kk<=4+xK:=by
      have h1:=p.le;have h2:=p.len;have h3:=hX.op;have h4:=p.rq.ri.len;have h5:=hmx (xs.map (·.2.1));rw[hnk];omega
    have hord:∀ y,y∈(a,Ob.arr 31 1 G.length (RG.cells G))::(X.h0++RG.tl G)->lk (LZ X (xs.map (·.1)) G a) y.1=some y.2:=λ y hy=>by
      refine K6 p.lo p.hi (λ n hn=>by
        simp only[List.mem_cons,List.not_mem_nil,or_false] at hn;rcases hn with rfl|rfl|rfl|rfl|rfl<;>rfl) (p.rq.PK p.lo p.hi) y ?_
      simp only[List.mem_cons,List.mem_append,List.not_mem_nil,or_false] at hy ⊢;rcases hy with hy|(hy|hy|hy|hy)|hy<;>simp[hy]
    have hok1:Hp.ok (λ n=>decide (n<4+xK)) ((a,Ob.arr 31 1 G.length (RG.cells G))::(X.h0++RG.tl G))=true:=ax (by simp;omega) (p.rq.ok.aj hk1) (GP (X.yK (by omega)) (p.rq.ok.qK hk1));refine⟨⟨[(3,.gs a G.length)],(a,.arr 31 1 G.length (RG.cells G))::(X.h0++RG.tl G),4+xK⟩,id,aH.same (by show 4<=4+xK;omega) (by simp[aL,List.lookup,SV.aC,SV.ok,SV.au];omega) hok1 hord,?_⟩;rw[if_pos rfl];refine SW.Oi (X:=X.h0) (λ n=>decide (n<4) || decide (n=a)) (λ n hn=>by simp only[Bool.or_eq_true,decide_eq_true_eq] at hn;omega) (by omega) (by simp) (Hp.eu (λ n hn=>by simp only[Bool.or_eq_true];exact .inl hn) (X.yK (Nat.le_refl 4))) (by simp;omega) (by simp[SV.ok]) (by simp) G [] (p.rq.ok.more hk1) (λ x hx hxn=> ?_) ?_
    . have h1:=p.hi x hx hxn
      have h2:=p.rq.na x hx hxn;simp only[Bool.or_eq_false_iff,decide_eq_false_iff_not];omega
    have hR:=p.rq.ri.rows;have hRl:G.length<=10:=by have h4:=p.rq.ri.len;have h5:=hmx (xs.map (·.2.1));omega
    have hrl:∀ L,L∈G.map (·.2)->L.length<1000000000:=λ L hL=>by
      rw[hR] at hL;obtain⟨j,_,rfl⟩:=List.mem_map.1 hL;have h2:=List.length_filter_le (λ v=>decide (X.oA v=j)) (xs.map (·.2.1));have h3:=p.len;have h4:=hX.op;rw[List.length_map] at h2;omega
    have hkeys:∀ v,v∈xs.map (·.2.1)↔v∈MM.keys X.ops:=λ v=>by
      unfold MM.keys;simp only[List.mem_map,hxs]
    have hres:g_ (G.map (·.2))=g_ X.jr:=by rw[hR];exact xJ hkeys
    rw[<- hres];have eG:(G.map λ x=>dn x.2)=(G.map (·.2)).map dn:=by rw[List.map_map];rfl
    show Sl.SW _ _ _ _ ⟨[(3,.gs a G.length)],(a,.arr 31 1 G.length (G.map λ x=>dn x.2))::X.h0,4+xK⟩ _;rw[eG,show G.length=(G.map (·.2)).length by simp];rw[show G.length=(G.map (·.2)).length by simp] at hRl;clear hord hok1 hR hres hkeys eG hxs;generalize G.map (·.2)=R at*;have hl0:Go.Sl.lk ((a,Ob.arr 31 1 R.length (R.map dn))::X.h0) a=some (.arr 31 1 R.length (R.map dn)):=by rw[aa,if_pos rfl]
    have hokC:∀ (C:List SV),SV.au (λ n=>decide (n<4+xK)) C=true->Hp.ok (λ n=>decide (n<4+xK)) ((a,Ob.arr 31 1 R.length C)::X.h0)=true:=λ C hC=>ax (by simp;omega) hC (X.yK (by omega))
    have hlkC:∀ (C:List SV),∀ y,y∈(a,Ob.arr 31 1 R.length C)::X.h0->lk ((a,Ob.arr 31 1 R.length C)::X.h0) y.1=some y.2:=λ C y hy=>by
      simp only[List.mem_cons,List.not_mem_nil,or_false] at hy;rcases hy with rfl|rfl|rfl|rfl|rfl<;>simp[aa,fa]
    have hokD:∀ i,SV.au (λ n=>decide (n<4+xK)) ((R.take i).map (λ L=>bg (Dt.set L))++(R.drop i).map dn)=true:=λ i=>by
      rw[SV.kZ];have k1:∀ (T:List (List Dt)),SV.au (λ n=>decide (n<4+xK)) (T.map (λ L=>bg (Dt.set L)))=true:=λ T=>by
        induction T with
        | nil=>rfl
        | cons x T ih=>simp only[List.map_cons,SV.au,ih,Bool.and_true];rfl
      have k2:∀ (T:List (List Dt)),SV.au (λ n=>decide (n<4+xK)) (T.map dn)=true:=λ T=>by
        induction T with
        | nil=>rfl
        | cons x T ih=>simp only[List.map_cons,SV.au,ih,Ai,Bool.and_true]
      rw[k1,k2];rfl
    refine SW.seq (SW.seq (SW.g0 bj Zm af ?_));refine SW.block (SW.loop (α:={i:Nat // i<=R.length}) (λ i=>⟨[(44,i64 i.1),(43,i64 R.length),(3,.gs a R.length)],(a,.arr 31 1 R.length ((R.take i.1).map (λ L=>bg (Dt.set L))++(R.drop i.1).map dn))::X.h0,4+xK⟩) (λ i=>R.length - i.1) ⟨0,Nat.zero_le _⟩ id (aH.same (by show 4<=4+xK;omega) (by simp[aL,List.lookup,SV.aC,SV.ok,SV.au];omega) (hokC _ (hokD 0)) (hlkC _)) ?_);rintro⟨i,hi⟩;have hokC2:=hokC _ (hokD (i+1));have hlkC2:=hlkC ((R.take (i+1)).map (λ L=>bg (Dt.set L))++(R.drop (i+1)).map dn);dsimp only
    by_cases h:i<R.length
    . obtain⟨L,hx⟩:=aP h
      have h1:decide ((i:Int)<R.length)=true:=by simp only[decide_eq_true_eq];omega
      have e2:IntKind.i64.wrap ((i:Int)+1)=((i+1:Nat):Int):=wrap_i64 _ (by omega);have cS:=GO L (hrl L (List.mem_of_getElem? hx));have hdr:R.drop i=L::R.drop (i+1):=vC hx;have htl:((R.take i).map λ L=>bg (Dt.set L)).length=i:=by rw[List.length_map,List.length_take];omega
      have gc:((R.take i).map (λ L=>bg (Dt.set L))++(R.drop i).map dn)[i]? =some (dn L):=by rw[List.getElem?_append_right (by omega),htl,hdr,Nat.sub_self];rfl
      have hC':(R.take (i+1)).map (λ L=>bg (Dt.set L))++(R.drop (i+1)).map dn=(R.take i).map (λ L=>bg (Dt.set L))++(bg (Dt.set L)::(R.drop (i+1)).map dn):=by rw[bt hx,List.map_append];simp
      have gs:cq ((R.take i).map (λ L=>bg (Dt.set L))++(R.drop i).map dn) i [bg (Dt.set L)]=(R.take (i+1)).map (λ L=>bg (Dt.set L))++(R.drop (i+1)).map dn:=by
        rw[hC',Iu,hdr,List.map_cons,List.set_append_right _ _ (by omega),htl,Nat.sub_self];rfl
      have lV:i+1<=((R.take i).map (λ L=>bg (Dt.set L))++(R.drop i).map dn).length:=by rw[List.length_append,htl,hdr];simp
      clear hC' hdr htl;generalize (R.take i).map (λ L=>bg (Dt.set L))++(R.drop i).map dn=C at*;generalize hCC:(R.take (i+1)).map (λ L=>bg (Dt.set L))++(R.drop (i+1)).map dn=C' at*;refine SW.seq (SW.g0 bj Zm h1 ?_);refine SW.seq (SW.an rfl (SW.skip (SW.seq (SW.block (SW.seq (SW.g0 bj Zm af ?_))))));refine SW.g1 bj Zm (Zq fa (Zq gc (Zq gs (Zq Int.toNat_natCast Nat.mul_one)))) cS ?_;refine SW.g0 bj Zm e2 ?_;refine⟨⟨i+1,by omega⟩,id,by show R.length - (i+1)<R.length - i;omega,?_⟩;dsimp only;rw[hCC];exact aH.same (by show 4<=4+xK;omega) (by simp[aL,List.lookup,SV.aC,SV.ok,SV.au];omega) hokC2 hlkC2
    . have h1:decide ((i:Int)<R.length)=false:=by simp only[decide_eq_false_iff_not];omega
      have hi2:i=R.length:=by omega
      subst hi2;rw[List.take_length,List.drop_length,List.map_nil,List.append_nil];refine SW.seq (SW.g0 bj Zm h1 ?_);refine SW.seq (SW.ah rfl (SW.exit ?_));refine(?_:Sl.SW _ _ _ _ _ _);have eD:(R.map λ L=>bg (Dt.set L))=(R.map λ L=>HU (Dt.set L)).map SV.d:=by rw[List.map_map];rfl
      refine SW.freeze a (R.map λ L=>HU (Dt.set L)) (show lk _ a=some (.arr 31 1 R.length (R.map λ L=>bg (Dt.set L))) by rw[aa,if_pos rfl]) eD ?_;have hh:bY ((a,Ob.arr 31 1 R.length (R.map λ L=>bg (Dt.set L)))::X.h0) a=X.h0:=by
        simp[bY,fa]
      rw[hh];refine SW.weak id (st1:=⟨[(3,g_ R)],X.h0,4+xK⟩) (aH.same (by show 4<=4+xK;omega) (by simp[aL,iM,SV.gz,g_,List.lookup,SV.aC,SV.ok,SV.au]) (X.yK (by show 4<=4+xK;omega)) (λ y hy=> ?_)) ?_
      . simp only[List.mem_cons,List.not_mem_nil,or_false] at hy
        rcases hy with rfl|rfl|rfl|rfl<;>rfl
      refine SW.seq ?_;have cC:=JP R.length (R.map λ L=>HU (Dt.set L));change ∀ k,aF Tryz.prog slices_Clip_LLapi_Dot_Lapi_Dot.f [g_ R] [] k 0 (g_ R) [] at cC;refine SW.g1 bj Zm af cC ?_;refine SW.ret ?_;exact End.mk X.h0 (h3:=λ _ _ h=>h) (h4:=⟨rfl,rfl⟩) (h6:=X.yK (by omega)) (h7:=Nat.le_refl _)
  . obtain⟨⟨xs,G,a,kk⟩,p⟩:=p
    have p:LI X xs G a kk:=p;dsimp only at*;obtain⟨x,hx,rfl⟩:=eF he;dsimp only at hs;have g5:(xs.map (·.1)++[x.1]).getLast? =some x.1:=by simp
    have g6:=kG (kc:=Dt.cells) (vs:=ov) hX.wo.times hx;have eov:∀ o,ov o= .agg o.cells:=λ _=>rfl
    obtain⟨q1,q2,_⟩:=sV p.sub p.nd hx hs;have em:(xs++[x]).map (·.1)=xs.map (·.1)++[x.1]:=by simp
    have hm:=kH he hs;obtain⟨d,hd⟩:∃ d,x.2.1=d:=⟨_,rfl⟩;have hkq:=p.k6;obtain⟨sa,s5⟩:=p.sep;have fa:=wG sa;have fa5:=bX s5;have z0:=wG (k:=kk) ⟨by omega,by omega,by omega,by omega⟩;have z5:=bX (show kk≠5 by omega);have za:=bX (show kk≠a by have:=p.rq.la;omega);have g2:List.lookup kk (RG.tl G)=none:=p.rq.out (Nat.le_refl _);rw[je];dsimp only[yN];refine SW.block (SW.seq (SW.g0 bj Zm (Zq g5 (Zq g6 (Zq eov (Zq hd (Zq fa (Zq fa5 (Zq z0 (Zq z5 (Zq za g2))))))))) ?_));obtain⟨m,yT⟩:∃ m,X.oA d=m:=⟨_,rfl⟩;have hm9:=h9 d;rw[yT] at hm9;refine SW.seq ?_;have hlk:=uk X.ch d;change fK _ _ _=dn (X.pV d) at hlk;have hJ0:LJ X (xs.map (·.2.1)) G kk m G a (kk+1):=⟨⟨0,Nat.zero_le _,⟨p.rq.ri,p.rq.ok.more (Nat.le_succ _),by have:=p.rq.la;omega,p.rq.na⟩⟩,p.lo,p.hi,by have:=p.rq.la;omega,p.rq.ok.bd,Nat.le_refl _,by omega⟩;apply later
    . intro late
      have hcm':(X.pV d).length=m:=yT;have hw:=λ (env:List (Nat×SV)) (kz:Nat) (he:aL id (kk+1) env [(5,i64 m),(4,.ptr kk 0),(13,.it 5),(3,.gs a G.length),(0,.ptr 0 0)])=>aH.same (k0:=4) (st:=⟨env,LB X (xs.map (·.1)++[x.1]) d kk G a,kz⟩) (st1:=⟨[(5,i64 m),(4,.ptr kk 0),(13,.it 5),(3,.gs a G.length),(0,.ptr 0 0)],LB X (xs.map (·.1)++[x.1]) d kk G a,kk+1⟩) (by show 4<=kk+1;omega) he (hJ0.okB hkq) (hJ0.PL hkq)
      rcases hLc:X.pV d with _|⟨c,L'⟩
      . have hlk0:fK (aq Dt.cells dn X.ch) (.d .aG) (MM.idx X.ch d)= .d .aG:=by rw[hlk,hLc];rfl
        refine SW.gK bj Zm (Zq hlk0 (Zq fa (Zq fa5 (Zq z0 (Zq z5 (Zq za g2)))))) (Zq z0 (Zq z5 (Zq za (Zq fa fa5)))) True.intro ?_;rw[hLc] at hcm';exact SW.weak id (hw _ _ (by rw[<- hcm'];simp[aL,List.lookup,SV.aC,SV.ok,SV.au];have:=p.rq.la;omega)) late.c
      . have hlk0:fK (aq Dt.cells dn X.ch) (.d .aG) (MM.idx X.ch d)=bg (c::L'):=by rw[hlk,hLc];rfl
        refine SW.gK bj Zm (Zq hlk0 (Zq fa (Zq fa5 (Zq z0 (Zq z5 (Zq za g2)))))) (Zq z0 (Zq z5 (Zq za (Zq fa fa5)))) True.intro ?_;rw[hLc] at hcm';exact SW.weak id (hw _ _ (by rw[<- hcm'];simp[aL,List.lookup,SV.aC,SV.ok,SV.au];have:=p.rq.la;omega)) late.c
    refine SW.seq (SW.block (SW.loop (α:={q:RG×Nat×Nat // LJ X (xs.map (·.2.1)) G kk m q.1 q.2.1 q.2.2}) (λ q=>⟨[(5,i64 m),(4,.ptr kk 0),(13,.it 5),(3,.gs q.1.2.1 q.1.1.length),(0,.ptr 0 0)],LB X (xs.map (·.1)++[x.1]) d kk q.1.1 q.1.2.1,q.1.2.2⟩) (λ q=>m+1 - q.1.1.length) ⟨(G,a,kk+1),hJ0⟩ id (aH.same (by show 4<=kk+1;omega) (by simp[aL,List.lookup,SV.aC,SV.ok,SV.au];have:=p.rq.la;omega) (hJ0.okB hkq) (hJ0.PL hkq)) ?_));rintro⟨⟨G1,a1,k1⟩,hj⟩;have hj:LJ X (xs.map (·.2.1)) G kk m G1 a1 k1:=hj;obtain⟨t,ht,p3⟩:=hj.rq;dsimp only at*;have la:=p3.la;have kl:=hj.kl;have lo1:=hj.lo;have y0:=wG (k:=a1) ⟨by omega,by omega,by omega,by omega⟩;have y5:=bX (show a1≠5 by omega);have yk:=bX hj.na;have w0:=wG (k:=k1) ⟨by omega,by omega,by omega,by omega⟩;have w5:=bX (show k1≠5 by omega);have wk:=bX (show k1≠kk by omega);have wa:=bX (show k1≠a1 by omega);have sp1:cq [SV.d .aG] 0 [SV.d .aG]=[SV.d .aG]:=rfl;have t0:List.lookup k1 (RG.tl G1)=none:=p3.out (Nat.le_refl _);have ta:List.lookup a1 (RG.tl G1)=none:=p3.Oj;have hd0:bY (RG.tl G1) a1=RG.tl G1:=vJ ta;dsimp only[LB,LZ,yN]
    by_cases hjm:G1.length<m+1
    . have j1:decide ((G1.length:Int)<=(m:Int))=true:=by simp only[decide_eq_true_eq];omega
      refine SW.seq (SW.seq (SW.g0 bj Zm j1 ?_));refine SW.an rfl (SW.skip (SW.block (SW.g0 bj Zm (Zq w0 (Zq w5 (Zq wk (Zq wa (Zq y0 (Zq y5 (Zq yk (Zq z0 (Zq z5 (Zq t0 (Zq hd0 sp1))))))))))) ?_)));have hg:=hj.grow hjm hkq;refine⟨⟨(G1++[(0,[])],k1,k1+1),hg⟩,id,by show m+1 - (G1++[(0,([]:List Dt))]).length<m+1 - G1.length;rw[List.length_append,List.length_singleton];omega,?_⟩;dsimp only;refine aH.same (by show 4<=k1+1;omega) (by simp[aL,List.lookup,SV.aC,SV.ok,SV.au];omega) (hg.okB hkq) (λ y hy=> ?_);rcases List.mem_cons.1 hy with rfl|hy
      . simp[aa,wk]
      . refine K7 ?_ ?_ ?_ ?_ ?_ (λ y hy=> ?_) y hy
        . simp[aa,w5,z5]
        . simp[aa,w0,z0]
        . simp[aa,w0,z0]
        . simp[aa,w0,z0]
        . simp[aa,w0,z0]
        . rcases List.mem_cons.1 hy with rfl|hy
          . rw[RG.vG];simp[aa]
          . rw[RG.Cn] at hy
            obtain⟨z,hz,hzn,rfl⟩:=RG.lR.1 hy;have b1:=hj.nr z hz hzn;have b2:=hj.hi z hz hzn;dsimp only;rw[aa,if_neg (show z.1≠k1 by omega),aa,if_neg (show z.1≠kk by omega),aa,if_neg (show z.1≠5 by omega),aa,if_neg (show z.1≠0 by omega),aa,if_neg (show z.1≠1 by omega),aa,if_neg (show z.1≠2 by omega),aa,if_neg (show z.1≠3 by omega)];exact p3.ok.AF hz hzn
    . have j1:decide ((G1.length:Int)<=(m:Int))=false:=by simp only[decide_eq_false_iff_not];omega
      refine SW.seq (SW.seq (SW.g0 bj Zm j1 ?_));refine SW.ah rfl (SW.exit ?_);refine(?_:Sl.SW _ _ _ _ _ _);have hml:m<G1.length:=by omega
      obtain⟨⟨n,L⟩,hg⟩:=aP hml;have gc:=G2 hg;have gs:=G3 G1 m (k1,L++[d]);have lV:m+1<=(RG.cells G1).length:=by rw[RG.jc];exact hml
      have hlen:(G1.set m (k1,L++[d])).length=G1.length:=List.length_set;have hxl:(xs++[x]).length<=X.ops.length:=by
        have:=q2.length_le_of_subset (l₂:=X.ops.map (·.1)) λ n hn=>by
          obtain⟨z,hz,rfl⟩:=List.mem_map.1 hn;exact List.mem_map.2 ⟨z,q1 z hz,rfl⟩
        simpa using this
      have hrq:=p3.set (v:=d) (by rw[yT];omega) (by rw[yT];exact hml) (by rw[yT];exact hg) (Nat.le_refl k1);have ek:(xs++[x]).map (·.2.1)=xs.map (·.2.1)++[d]:=by rw[List.map_append,List.map_singleton,hd]
      rw[yT,<- ek] at hrq;have hLI:LI X (xs++[x]) (G1.set m (k1,L++[d])) a1 (k1+1):=by
        refine⟨q1,q2,hxl,hrq,hj.lo,λ z hz hzn=> ?_,by omega,?_⟩
        . rcases List.mem_or_eq_of_mem_set hz with hz|rfl
          . exact hj.hi z hz hzn
          . show 6<=k1;omega
        . have h1:=p.le
          have h2:=hj.ku;rw[List.length_set,List.length_append,List.length_singleton];omega
      have fin:∀ (env:List (Nat×SV)) (hp:Hp) (kz:Nat),(∀ y,y∈LZ X (xs.map (·.1)++[x.1]) (G1.set m (k1,L++[d])) a1->lk hp y.1=some y.2)->aL id (k1+1) env [(13,.it 5),(3,.gs a1 (G1.set m (k1,L++[d])).length),(0,.ptr 0 0)]->
          ∃ (j:{p:MM Dt ag×RG×Nat×Nat // LI X p.1 p.2.1 p.2.2.1 p.2.2.2}) (ρ:Nat->Nat),gC (aq Dt.cells ov X.ops) (j.1.1.map (·.1))<gC (aq Dt.cells ov X.ops) (xs.map (·.1))/\aH 4 ⟨env,hp,kz⟩ ⟨[(13,.it 5),(3,.gs j.1.2.2.1 j.1.2.1.length),(0,.ptr 0 0)],LZ X (j.1.1.map (·.1)) j.1.2.1 j.1.2.2.1,j.1.2.2.2⟩ ρ:=λ env hp kz g1 g2=>by
        refine⟨⟨(xs++[x],G1.set m (k1,L++[d]),a1,k1+1),hLI⟩,id,by show gC _ ((xs++[x]).map (·.1))<_;rw[em];exact hm,?_⟩;dsimp only;rw[em];exact aH.same (by show 4<=k1+1;omega) g2 (G5 (by show 6<=k1+1;omega) (hLI.rq.qK (Nat.le_refl _))) g1
      have hLl:L.length<=1000:=by
        have e:=p3.ri.row m _ hg;dsimp only at e;rw[e];have h2:=List.length_filter_le (λ v=>decide (X.oA v=m)) (xs.map (·.2.1));have h3:=p.len;have h4:=hX.op;rw[List.length_map] at h2;omega
      have rest:∀ (hp:Hp),lk hp 5=some (.iter (some 1) X.co (xs.map (·.1)++[x.1]) X.co)->lk hp 0=some (.box 110 [.any,.mp 1,.mp 2,.mp 3])->lk hp 1=some (.map (aq Dt.cells ov X.ops) X.co)->lk hp 2=some (.map (aq Dt.cells dn X.ch) X.cc)->lk hp 3=some (.map (aq Dt.cells dn X.mg) X.cf)->lk hp a1=some (.arr 31 1 (G1.set m (k1,L++[d])).length (RG.cells (G1.set m (k1,L++[d]))))->lk hp k1=some (fh (L++[d]))->
          (∀ z:Nat×List Dt,z.1<kk->6<=z.1->z.1≠a1->(L≠[]->z.1≠n)->lk (RG.tl G1) z.1=some (fh z.2)->lk hp z.1=some (fh z.2))->∀ y,y∈LZ X (xs.map (·.1)++[x.1]) (G1.set m (k1,L++[d])) a1->lk hp y.1=some y.2:=λ hp r5 r0 r1 r2 r3 ra rk ro=>
        K7 r5 r0 r1 r2 r3 (p3.G4 hg ra rk λ z hz hzn _ h2 h3 h4=>ro z (hj.nr z hz hzn) (hj.hi z hz hzn) h2 h3 h4)
      cases L with
      | nil=>
        have gc:(RG.cells G1)[m]? =some (.d .aG):=gc;have gs:cq (RG.cells G1) m [SV.gs k1 1]=RG.cells (G1.set m (k1,[d])):=gs;refine SW.gK bj Zm (Zq w0 (Zq w5 (Zq wk (Zq wa (Zq y0 (Zq y5 (Zq yk (Zq z0 (Zq z5 (Zq t0 (Zq ta (Zq gc (Zq gs (Zq Int.toNat_natCast Nat.mul_one)))))))))))))) (Zq w0 (Zq w5 (Zq wk (Zq wa (Zq y0 (Zq y5 (Zq yk (Zq z0 z5)))))))) True.intro ?_;refine fin _ _ _ (rest _ ?_ ?_ ?_ ?_ ?_ ?_ ?_ λ z h1 h2 h3 h4 h5=> ?_) (by simp[aL,List.lookup,SV.aC,SV.ok,SV.au,hlen];omega)
        . simp[aa,w5,z5]
        . simp[aa,w0,z0]
        . simp[aa,w0,z0]
        . simp[aa,w0,z0]
        . simp[aa,w0,z0]
        . simp[aa,y0,y5,yk,wa]
        . simp[aa,fh]
        . rw[aa,if_neg (show z.1≠k1 by omega),aa,if_neg (show z.1≠kk by omega),aa,if_neg (show z.1≠5 by omega),aa,if_neg (show z.1≠0 by omega),aa,if_neg (show z.1≠1 by omega),aa,if_neg (show z.1≠2 by omega),aa,if_neg (show z.1≠3 by omega),aa,if_neg h3]
          exact h5
      | cons d0 L0=>
        obtain⟨L,hLe⟩:∃ L,d0::L0=L:=⟨_,rfl⟩;have hLn:L≠[]:=by rw[<- hLe];simp
        rw[hLe] at gc gs hLI fin hlen hLl hg rest;rw[jS hLn] at gc;rw[jS (show L++[d]≠[] by simp),show(L++[d]).length=L.length+1 by simp] at gs;have hgm:=List.mem_of_getElem? hg;have hnb:=hj.nr _ hgm hLn;have hnh:=hj.hi _ hgm hLn;have hna:=p3.na _ hgm hLn;dsimp only at hnb hna hnh;have n1:=bX hna;have n2:=bX (show n≠k1 by omega);have n3:=bX (show n≠kk by omega);have n5:=bX (show n≠5 by omega);have n0:=wG (k:=n) ⟨by omega,by omega,by omega,by omega⟩;have t3:List.lookup n (RG.tl G1)=some (.arr 37 2 L.length ((L.flatMap Dt.ds).map .d)):=p3.ok.AF hgm hLn;have t4:List.lookup k1 (bY (RG.tl G1) n)=none:=by
          show lk (bY (RG.tl G1) n) k1=none;rw[cZ,if_neg (by omega)];exact t0
        refine SW.gK bj Zm (Zq w0 (Zq w5 (Zq wk (Zq wa (Zq y0 (Zq y5 (Zq yk (Zq z0 (Zq z5 (Zq n0 (Zq n1 (Zq n2 (Zq n3 (Zq n5 (Zq t0 (Zq ta (Zq t3 (Zq t4 (Zq gc (Zq gs (Zq Int.toNat_natCast Nat.mul_one))))))))))))))))))))) (Zq w0 (Zq w5 (Zq wk (Zq wa (Zq y0 (Zq y5 (Zq yk (Zq z0 (Zq z5 (Zq n0 (Zq n1 (Zq n2 (Zq n3 n5))))))))))))) True.intro ?_;refine fin _ _ _ (rest _ ?_ ?_ ?_ ?_ ?_ ?_ ?_ λ z h1 h2 h3 h4 h5=> ?_) (by simp[aL,List.lookup,SV.aC,SV.ok,SV.au,hlen];omega)
        . simp[aa,w5,z5]
        . simp[aa,w0,z0]
        . simp[aa,w0,z0]
        . simp[aa,w0,z0]
        . simp[aa,w0,z0]
        . simp[aa,y0,y5,yk,wa]
        . simp[aa,fh,Dt.kS]
        . rw[aa,if_neg (show z.1≠k1 by omega),aa,if_neg (show z.1≠kk by omega),aa,if_neg (show z.1≠5 by omega),aa,if_neg (show z.1≠0 by omega),aa,if_neg (show z.1≠1 by omega),aa,if_neg (show z.1≠2 by omega),aa,if_neg (show z.1≠3 by omega),aa,if_neg h3,cZ,if_neg (h4 hLn)]
          exact h5
end
end Go.Proofs.YtaelhkkjgfobhaaGreat
namespace Go.Proofs.YtaelhkkjgfobhaaGreat
open Go.Sl Go.Proofs
section
theorem Bq {l:List ag}{s:List Dt}{p:Dt->Bool}(h:∀ v,v∈s↔bJ l v=true/\p v=true):Dt.set s=(bn l).filter p:=
 Dt.iy (Dt.iz _) ((Dt.iz _).filter _) λ v=>by rw[Dt.mem_set,h,List.mem_filter,jh]
section
variable {l:List ag} {S:Sh} (h:dG l S)
include h
theorem dG.tH (d:Dt):S.good d=bJ l d:=h.good d
theorem dG.Pn {d:Dt}(hg:S.good d=true):Dt.set (h.X.ig (h.X.op d))=(bn l).filter (j7 l d):=by
 refine Bq λ v=> ?_
 rw[h.PI hg,h.Ph hg,Sh.JE,h.pV,h.base.op,h.base.op,<- h.tH];unfold j7 s6;simp only[Bool.and_eq_true,decide_eq_true_eq,Bool.not_eq_true'];constructor
 .rintro⟨_,h1,h2,h3,h4⟩
  exact⟨h1,h2,h3,h4⟩
 .rintro⟨h1,h2,h3,h4⟩
  exact⟨(h.GS.2 h1).1,h1,h2,h3,h4⟩
theorem dG.K8 {d:Dt}(hg:S.good d=true):h.X.oA d=eP l d:=by
 unfold Ix.oA eP;rw[h.JJ hg,h.pV,h.base.op]
theorem dG.Po:g_ h.X.jr=g_ (jr l):=by
 have hk:∀ v,v∈MM.keys h.X.ops↔v∈bn l:=λ v=>by rw[<- MM.ir,h.GU,h.tH,jh]
 have hc:∀ v,v∈MM.keys h.X.ops->h.X.oA v=eP l v:=λ v hv=>h.K8 (by rw[h.tH];exact jh.1 ((hk v).1 hv))
 have e1:v7 h.X.oA (MM.keys h.X.ops)=v7 (eP l) (MM.keys h.X.ops):=Nat.le_antisymm (o7 λ v hv=>by rw[hc v hv];exact pW hv) (o7 λ v hv=>by rw[<- hc v hv];exact pW hv);have e2:h.X.jr=(List.range (v7 (eP l) (MM.keys h.X.ops))).map λ j=>(MM.keys h.X.ops).filter λ v=>decide (eP l v=j):=by
  unfold Ix.jr;rw[e1];refine List.map_congr_left λ j _=>List.filter_congr λ v hv=> ?_
  rw[hc v hv]
 rw[e2];exact xJ hk
end
theorem G7 {l:List ag}{L:List Dt}(h:L∈jr l):Dt.set L=L:=by
 obtain⟨j,_,rfl⟩:=List.mem_map.1 h;exact Dt.iy (Dt.iz _) ((Dt.iz _).filter _) λ v=>Dt.mem_set
end
section
attribute [local irreducible] SW RW aF SC ai ak jN tF xK
theorem Ao (A:List Dt)(hA:A.length<1000000000)(k:Nat):aF Tryz.prog ref03_Same.f [bg A,bg A] [] k 0 (bl true) []:=by
 have:=yh A A (by omega) (by omega) k
 rwa [decide_eq_true rfl] at this
theorem DH (A:List Dt)(hA:A.length<1000000000)(k:Nat):aF Tryz.prog ref03_Same.f [bg A,dn A] [] k 0 (bl true) []:=by
 have:=Ao A hA k;unfold aF at this ⊢;exact SC.Pk (a:=[bg A]) A this
theorem DI (k:Nat):aF Tryz.prog ref03_Same.f [.d .aG,.d .aG] [] k 0 (bl true) []:=by
 have:=DH [] (by decide) k;unfold aF at this ⊢;exact SC.Pk (a:=[]) (b:=[.d .aG]) [] this
theorem G8 (l:List ag)(hc:∀ v,eP l v<=9):(jr l).length<=10:=by
 unfold jr;rw[List.length_map,List.length_range];exact o7 λ v _=>by have:=hc v;omega
end
end Go.Proofs.YtaelhkkjgfobhaaGreat
