/-
 Rows of rows that grow: names, what stands there; all are frozen (plain, and one rule).
-/
import Derived.Test.YtaelhkkjgfobhaaGreatUQ
set_option linter.unusedSectionVars false
set_option linter.unusedVariables false
set_option linter.unusedSimpArgs false
namespace Go.Proofs.YtaelhkkjgfobhaaGreat
open Go.Sl Go.Proofs
section
abbrev RG:=List (Nat×List Dt)
def RG.cells (G:RG):List SV:=G.map gv
def RG.full (G:RG):RG:=G.filter λ x=> !x.2.isEmpty
def RG.tl (G:RG):Hp:=(RG.full G).map λ x=>(x.1,fF x.2)
theorem RG.u6 {G:RG}{x:Nat×List Dt}:x∈G.full↔x∈G/\x.2≠[]:=by
 unfold RG.full;rw [List.mem_filter];simp
theorem RG.lW {G:RG}{y:Nat×Ob}:y∈G.tl↔∃ x,x∈G/\x.2≠[]/\y=(x.1,fF x.2):=by
 unfold RG.tl;rw [List.mem_map];constructor
 .rintro ⟨x,hx,rfl⟩
  exact ⟨x,(RG.u6.1 hx).1,(RG.u6.1 hx).2,rfl⟩
 .rintro ⟨x,h1,h2,rfl⟩
  exact ⟨x,RG.u6.2 ⟨h1,h2⟩,rfl⟩
theorem RG.IU (G:RG):RG.tl (G++[(0,[])])=RG.tl G:=by simp [RG.tl,RG.full,List.filter_append]
theorem RG.AJ (G:RG):RG.cells (G++[(0,[])])=RG.cells G++[.d .aN]:=by simp [RG.cells,gv]
theorem RG.CW (G:RG)(i:Nat)(x:Nat×List Dt):RG.cells (G.set i x)=(RG.cells G).set i (gv x):=by unfold RG.cells;rw [List.map_set]
theorem RG.js (G:RG):(RG.cells G).length=G.length:=by simp [RG.cells]
structure j6 (G:RG)(kk:Nat):Prop where
 inj:∀ (i j:Nat) (x y:Nat×List Dt),G[i]? =some x->G[j]? =some y->x.2≠[]->y.2≠[]->x.1=y.1->i=j
 bd:∀ x,x∈G->x.2≠[]->x.1<kk
theorem j6.nil (kk:Nat):j6 [] kk:=⟨λ i j x y h=>by simp at h,λ x h=>by simp at h⟩
theorem j6.more {G:RG}{kk k':Nat}(h:j6 G kk)(hk:kk<=k'):j6 G k':=⟨h.inj,λ x hx hn=>by have:=h.bd x hx hn;omega⟩
theorem j6.BG {G:RG}{kk:Nat}(h:j6 G kk){x:Nat×List Dt}(hx:x∈G)(hn:x.2≠[]):lk G.tl x.1=some (fF x.2):=by
 have hm:(x.1,fF x.2)∈G.tl:=RG.lW.2 ⟨x,hx,hn,rfl⟩;cases hl:lk G.tl x.1 with
 | none=>
  have:=List.lookup_eq_none_iff.1 (show List.lookup x.1 G.tl=none from hl) _ hm;simp at this
 | some ob=>
  obtain ⟨y,hy,hyn,e⟩:=RG.lW.1 (kE hl);injection e with e1 e2;obtain ⟨i,hi⟩:=List.mem_iff_getElem?.1 hx;obtain ⟨j,hj⟩:=List.mem_iff_getElem?.1 hy;have:=h.inj i j x y hi hj hn hyn e1;subst this;rw [hi] at hj;injection hj with hj;subst hj;rw [e2]
theorem j6.out {G:RG}{kk n:Nat}(h:∀ x,x∈G->x.2≠[]->x.1≠n):lk G.tl n=none:=by
 cases hl:lk G.tl n with
 | none=>rfl
 | some ob=>
  obtain ⟨y,hy,hyn,e⟩:=RG.lW.1 (kE hl);injection e with e1 e2;exact absurd e1.symm (h y hy hyn)
theorem j6.sM {G:RG}{kk k:Nat}(h:j6 G kk)(hk:kk<=k):G.tl.ok (λ n=>decide (n<k))=true:=by
 unfold Hp.ok;rw [List.all_eq_true];intro y hy;obtain ⟨x,hx,hn,rfl⟩:=RG.lW.1 hy;have:=h.bd x hx hn;simp only [fF,Ob.ok,SV.aX,Bool.and_true,decide_eq_true_eq];omega
theorem j6.aj {G:RG}{kk k:Nat}(h:j6 G kk)(hk:kk<=k):SV.av (λ n=>decide (n<k)) G.cells=true:=by
 have key:∀ (B:RG),(∀ x,x∈B->x.2≠[]->x.1<kk)->SV.av (λ n=>decide (n<k)) B.cells=true:=λ B=>by
  induction B with
  | nil=>intro _;rfl
  | cons x B ih=>
   intro hB;have h1:=ih λ y hy=>hB y (List.mem_cons_of_mem _ hy)
   obtain ⟨n,L⟩:=x;cases L with
   | nil=>simpa [RG.cells,gv,SV.av,SV.ok] using h1
   | cons d L=>
    have:=hB (n,d::L) (List.mem_cons_self ..) (by simp);have hn:n<k:=by dsimp only at this;omega
    simpa [RG.cells,gv,SV.av,SV.ok,hn] using h1
 exact key G h.bd
theorem j6.snoc {G:RG}{kk:Nat}(h:j6 G kk):j6 (G++[(0,[])]) kk:=by
 have key:∀ (i:Nat) (x:Nat×List Dt),(G++[(0,([]:List Dt))])[i]? =some x->x.2≠[]->G[i]? =some x:=λ i x hx hn=>by
  rw [List.getElem?_append] at hx
  split at hx
  .exact hx
  .rw [List.getElem?_singleton] at hx
   split at hx
   .injection hx with hx;subst hx;exact absurd rfl hn
   .cases hx
 refine ⟨λ i j x y hi hj hx hy e=>h.inj i j x y (key i x hi hx) (key j y hj hy) hx hy e,λ x hx hn=> ?_⟩;obtain ⟨i,hi⟩:=List.mem_iff_getElem?.1 hx;exact h.bd x (List.mem_of_getElem? (key i x hi hn)) hn
theorem j6.set {G:RG}{kk:Nat}(h:j6 G kk)(i:Nat)(n k':Nat)(L:List Dt)(hn:kk<=n)(hk:n<k'):j6 (G.set i (n,L)) k':=by
 have key:∀ (j:Nat) (x:Nat×List Dt),(G.set i (n,L))[j]? =some x->(j=i/\x=(n,L))\/j≠i/\G[j]? =some x:=λ j x hj=>by
  rw [List.getElem?_set] at hj
  split at hj
  .rename_i e
   split at hj
   .injection hj with hj;exact .inl ⟨e.symm,hj.symm⟩
   .cases hj
  .rename_i e
   exact .inr ⟨λ h=>e h.symm,hj⟩
 refine ⟨λ a b x y ha hb hx hy e=> ?_,λ x hx hxn=> ?_⟩
 .rcases key a x ha with ⟨rfl,rfl⟩ | ⟨a1,a2⟩ <;> rcases key b y hb with ⟨rfl,rfl⟩ | ⟨b1,b2⟩
  .rfl
  .have:=h.bd y (List.mem_of_getElem? b2) hy
   dsimp only at e;omega
  .have:=h.bd x (List.mem_of_getElem? a2) hx
   dsimp only at e;omega
  .exact h.inj a b x y a2 b2 hx hy e
 .obtain ⟨j,hj⟩:=List.mem_iff_getElem?.1 hx
  rcases key j x hj with ⟨_,rfl⟩ | ⟨_,a2⟩
  .exact hk
  .have:=h.bd x (List.mem_of_getElem? a2) hxn;omega
theorem RG.LY {G:RG}{i n:Nat}{L:List Dt}{H:Hp}(h1:lk H n=some (fF L))(h2:∀ j x,j≠i->G[j]? =some x->x.2≠[]->lk H x.1=some (fF x.2)):∀ y,y∈RG.tl (G.set i (n,L))->lk H y.1=some y.2:=λ y hy=>by
 obtain ⟨x,hx,hn,rfl⟩:=RG.lW.1 hy;obtain ⟨j,hj⟩:=List.mem_iff_getElem?.1 hx;rw [List.getElem?_set] at hj
 split at hj
 .split at hj
  .injection hj with hj;subst hj;exact h1
  .cases hj
 .rename_i e
  exact h2 j x (λ h=>e h.symm) hj hn
theorem Ob.Gb {n len:Nat}{ds:List DV}{q:Nat->Bool}(hq:q n=false)(o:Ob)(h:o.ok q=true):o.xk n len ds=o:=by
 cases o with
 | arr e sz l cs=>simp only [Ob.xk];rw [SV.ir hq cs (by simpa only [Ob.ok] using h)]
 | box t cs=>exact Ob.jG hq _ h
 | map es c=>exact Ob.jG hq _ h
 | _=>rfl
theorem Gc (n len:Nat)(ds:List DV):∀ (xs:List DV),SV.jM n len ds (xs.map .d)=xs.map .d
 | []=>rfl
 | x::xs=>by simp only [List.map_cons,SV.jM,SV.iw,Gc n len ds xs]
theorem zB (n len:Nat)(ds:List DV):∀ (a b:List SV),SV.jM n len ds (a++b)=SV.jM n len ds a++SV.jM n len ds b
 | [],b=>rfl
 | x::a,b=>by simp only [List.cons_append,SV.jM,zB n len ds a b]
theorem IV (n len:Nat)(ds:List DV)(A:RG):SV.jM n len ds (A.map λ x=>dn x.2)=A.map λ x=>dn x.2:=by
 induction A with
 | nil=>rfl
 | cons x A ih=>
  simp only [List.map_cons,SV.jM,ih];obtain ⟨m,L⟩:=x;cases L <;> rfl
theorem u7 {n len:Nat}{ds:List DV}:∀ {B:RG},(∀ x,x∈B->x.2≠[]->x.1≠n)->SV.jM n len ds B.cells=B.cells
 | [],_=>rfl
 | (m,L)::B,h=>by
  have ih:=u7 (n:=n) (len:=len) (ds:=ds) (B:=B) λ x hx=>h x (List.mem_cons_of_mem _ hx)
  unfold RG.cells at ih ⊢;simp only [List.map_cons,SV.jM,ih];cases L with
  | nil=>rfl
  | cons d L=>
   have:=h (m,d::L) (List.mem_cons_self ..) (by simp);simp only [gv,SV.iw,if_neg this]
section
variable {P:Program} {N k0:Nat} {Q:Exit->St->Prop}
theorem SW.N6 {s:bI}{X:Hp}{a len k:Nat}{env:List (Nat×SV)}(q:Nat->Bool)(Mi:∀ n,q n=true->n<k)(lp:k0<=k)(ha:q a=true)(hX:X.ok q=true)(ot:(a::X.map (·.1)).Nodup)(he:(env.all λ x=>x.2.ok q)=true)(yf:(env.map (·.1)).Nodup):
  ∀ (B A:RG),j6 B k->(∀ x,x∈B->x.2≠[]->q x.1=false)->Go.Sl.SW P N k0 s ⟨env,(a,.arr 31 1 len ((A++B).map λ x=>dn x.2))::X,k⟩ Q->Go.Sl.SW P N k0 s ⟨env,(a,.arr 31 1 len ((A.map λ x=>dn x.2)++RG.cells B))::(X++RG.tl B),k⟩ Q:=by
 intro B
 induction B with
 | nil=>
  intro A _ _ h
  simpa [RG.tl,RG.full,RG.cells] using h
 | cons x B ih=>
  intro A hB hqB h;obtain ⟨n,L⟩:=x;have hB':j6 B k:=⟨λ i j x y hi hj hx hy e=>by
   have:=hB.inj (i+1) (j+1) x y (by simpa using hi) (by simpa using hj) hx hy e;omega,λ y hy=>hB.bd y (List.mem_cons_of_mem _ hy)⟩
  have hqB':∀ x,x∈B->x.2≠[]->q x.1=false:=λ y hy=>hqB y (List.mem_cons_of_mem _ hy)
  have hAB:A++(n,L)::B=(A++[(n,L)])++B:=by simp
  rw [hAB] at h;cases L with
  | nil=>
   have:=ih (A++[(n,[])]) hB' hqB' h;have e1:RG.tl ((n,[])::B)=RG.tl B:=by simp [RG.tl,RG.full]
   have e2:(A.map λ x=>dn x.2)++RG.cells ((n,[])::B)=((A++[(n,([]:List Dt))]).map λ x=>dn x.2)++RG.cells B:=by simp [RG.cells,gv,dn]
   rw [e1,e2];exact this
  | cons d0 L0=>
   obtain ⟨L,hLe⟩:∃ L,d0::L0=L:=⟨_,rfl⟩;have hL:L≠[]:=by rw [<- hLe];simp
   rw [hLe] at h hB hqB hAB ⊢;clear hLe;have hqn:q n=false:=hqB (n,L) (List.mem_cons_self ..) hL;have hnk:n<k:=hB.bd (n,L) (List.mem_cons_self ..) hL;have hnB:∀ y,y∈B->y.2≠[]->y.1≠n:=λ y hy hyn e=>by
    obtain ⟨j,hj⟩:=List.mem_iff_getElem?.1 hy;have:=hB.inj 0 (j+1) (n,L) y rfl (by simpa using hj) hL hyn e.symm;omega
   have hne:∀ m,q m=true->m≠n:=λ m hm e=>by rw [e,hqn] at hm;cases hm
   have hXq:∀ y,y∈X->q y.1=true:=λ y hy=>by
    have:=List.all_eq_true.1 hX y hy;simp only [Bool.and_eq_true] at this;exact this.1
   have hXl:∀ m,q m=false->lk X m=none:=λ m hm=>gW λ hh=>by
    obtain ⟨y,hy,e⟩:=List.mem_map.1 hh;have:=hXq y hy;rw [e,hm] at this;cases this
   have hlkn:lk ((a,Ob.arr 31 1 len ((A.map λ x=>dn x.2)++RG.cells ((n,L)::B)))::(X++RG.tl ((n,L)::B))) n=some (.arr 37 2 L.length ((L.flatMap Dt.ds).map .d)):=by
    rw [aa,if_neg (λ e=>hne a ha e.symm),iZ,hXl n hqn,Option.none_or];exact hB.BG (x:=(n,L)) (List.mem_cons_self ..) hL
   refine SW.HC n (L.flatMap Dt.ds) hlkn rfl ?_;rw [zq hqn he];refine SW.weak id (st1:=⟨env,(a,.arr 31 1 len (((A++[(n,L)]).map λ x=>dn x.2)++RG.cells B))::(X++RG.tl B),k⟩) (aQ.same lp (aL.refl (λ _ _ h=>h) ?_ yf) ?_ ?_) (ih (A++[(n,L)]) hB' hqB' h)
   .rw [List.all_eq_true] at he ⊢
    exact λ y hy=>SV.fh (λ m hm=>by simpa using Mi m hm) _ (he y hy)
   .refine ax (by simpa using Mi a ha) ?_ ?_
    .have h1:=hB'.aj (Nat.le_refl k)
     have h2:∀ (C:RG),SV.av (λ n=>decide (n<k)) (C.map λ x=>dn x.2)=true:=λ C=>by
      induction C with
      | nil=>rfl
      | cons x C ih=>simp only [List.map_cons,SV.av,zo,ih,Bool.and_true]
     show SV.av _ (_++_)=true;have h3:∀ (u v:List SV),SV.av (λ n=>decide (n<k)) u=true->SV.av (λ n=>decide (n<k)) v=true->SV.av (λ n=>decide (n<k)) (u++v)=true:=λ u v hu hv=>by
      induction u with
      | nil=>exact hv
      | cons c u ih=>
       simp only [SV.av,Bool.and_eq_true] at hu;simp only [List.cons_append,SV.av,hu.1,ih hu.2,Bool.and_true]
     exact h3 _ _ (h2 _) h1
    .have h1:=Hp.dV (q':=λ n=>decide (n<k)) (λ m hm=>by simpa using Mi m hm) hX
     have h2:=hB'.sM (Nat.le_refl k);unfold Hp.ok at*;rw [List.all_append,h1,h2];rfl
   .intro y hy
    have vn:∀ m,m≠n->lk (uD (Ob.xk n L.length (L.flatMap Dt.ds)) (dm ((a,Ob.arr 31 1 len ((A.map λ x=>dn x.2)++RG.cells ((n,L)::B)))::(X++RG.tl ((n,L)::B))) n)) m=(lk ((a,Ob.arr 31 1 len ((A.map λ x=>dn x.2)++RG.cells ((n,L)::B)))::(X++RG.tl ((n,L)::B))) m).map (Ob.xk n L.length (L.flatMap Dt.ds)):=λ m hm=>by
     rw [mw,di,if_neg hm]
    rcases List.mem_cons.1 hy with rfl | hy
    .show lk _ a=_
     rw [vn a (hne a ha),aa,if_pos rfl];have e3:(gv (n,L)).iw n L.length (L.flatMap Dt.ds)=dn L:=by
      rw [lM hL];simp only [SV.iw,if_true];cases L with
      | nil=>exact absurd rfl hL
      | cons d L=>rfl
     have e4:RG.cells ((n,L)::B)=gv (n,L)::RG.cells B:=rfl;simp only [Option.map_some,Ob.xk];rw [zB,IV,e4];show some (Ob.arr 31 1 len ((A.map λ x=>dn x.2)++(gv (n,L)).iw n L.length (L.flatMap Dt.ds)::SV.jM n L.length (L.flatMap Dt.ds) (RG.cells B)))=_;rw [e3,u7 hnB];simp
    .rcases List.mem_append.1 hy with hy | hy
     .have hyq:=hXq y hy
      have hya:y.1≠a:=λ e=>(List.nodup_cons.1 ot).1 (by rw [<- e];exact List.mem_map.2 ⟨y,hy,rfl⟩)
      rw [vn y.1 (hne _ hyq),aa,if_neg hya,iZ,aI (List.nodup_cons.1 ot).2 y hy];have hok:=List.all_eq_true.1 hX y hy;simp only [Bool.and_eq_true] at hok;simp only [Option.some_or,Option.map_some];rw [Ob.Gb hqn _ hok.2]
     .obtain ⟨z,hz,hzn,rfl⟩:=RG.lW.1 hy
      have hz1:=hnB z hz hzn;have hz2:=hqB' z hz hzn;have hza:z.1≠a:=λ e=>by rw [e,ha] at hz2;cases hz2
      rw [vn _ hz1,aa,if_neg hza,iZ,hXl _ hz2,Option.none_or];rw [show lk (RG.tl ((n,L)::B)) z.1=some (fF z.2) from hB.BG (List.mem_cons_of_mem _ hz) hzn];simp only [Option.map_some,fF,Ob.xk,Gc]
end
end
section
attribute [local irreducible] SW RW aG SC ai ak
def wL (c:Dt->Nat)(seen:List Dt):Nat:=seen.foldl (λ m v=>max m (c v+1)) 0
theorem Gd (c:Dt->Nat)(seen:List Dt)(v:Dt):wL c (seen++[v])=max (wL c seen) (c v+1):=by unfold wL;rw [List.foldl_append];rfl
theorem pG {c:Dt->Nat}{seen:List Dt}{v:Dt}(h:v∈seen):c v<wL c seen:=by
 have key:∀ (s:List Dt) (m:Nat),m<=s.foldl (λ m v=>max m (c v+1)) m/\∀ v,v∈s->c v<s.foldl (λ m v=>max m (c v+1)) m:=λ s=>by
  induction s with
  | nil=>exact λ m=>⟨Nat.le_refl _,λ v h=>by cases h⟩
  | cons x s ih=>
   intro m;obtain ⟨h1,h2⟩:=ih (max m (c x+1));rw [List.foldl_cons];refine ⟨by omega,λ v hv=> ?_⟩;rcases List.mem_cons.1 hv with rfl | hv
   .omega
   .exact h2 v hv
 exact (key seen 0).2 v h
theorem sA {c:Dt->Nat}{seen:List Dt}{b:Nat}(h:∀ v,v∈seen->c v+1<=b):wL c seen<=b:=by
 have key:∀ (s:List Dt) (m:Nat),m<=b->(∀ v,v∈s->c v+1<=b)->s.foldl (λ m v=>max m (c v+1)) m<=b:=λ s=>by
  induction s with
  | nil=>exact λ m hm _=>hm
  | cons x s ih=>
   intro m hm hs;rw [List.foldl_cons];have:=hs x (List.mem_cons_self ..);exact ih _ (by omega) λ v hv=>hs v (List.mem_cons_of_mem _ hv)
 exact key seen 0 (Nat.zero_le _) h
theorem IW {c:Dt->Nat}{s t:List Dt}(h:∀ v,v∈s↔v∈t):wL c s=wL c t:=
 Nat.le_antisymm (sA λ v hv=>pG ((h v).1 hv)) (sA λ v hv=>pG ((h v).2 hv))
structure RI (c:Dt->Nat)(seen:List Dt)(t:Nat)(G:RG):Prop where
 len:G.length=max (wL c seen) t
 row:∀ j x,G[j]? =some x->x.2=seen.filter λ v=>decide (c v=j)
theorem RI.nil (c:Dt->Nat):RI c [] 0 []:=⟨rfl,λ j x h=>by simp at h⟩
theorem RI.grow {c:Dt->Nat}{seen:List Dt}{t:Nat}{G:RG}(h:RI c seen t G){m:Nat}(hm:G.length<m):RI c seen (G.length+1) (G++[(0,[])]):=by
 have hl:=h.len;refine ⟨by rw [List.length_append,List.length_singleton];omega,λ j x hx=> ?_⟩;rw [List.getElem?_append] at hx
 split at hx
 .exact h.row j x hx
 .rename_i hj
  rw [List.getElem?_singleton] at hx
  split at hx
  .rename_i e
   injection hx with hx;subst hx
   symm
   rw [List.filter_eq_nil_iff];intro v hv;have:=pG (c:=c) hv;simp only [decide_eq_true_eq];omega
  .cases hx
theorem RI.set {c:Dt->Nat}{seen:List Dt}{t:Nat}{G:RG}(h:RI c seen t G){v:Dt}(ht:t<=max (wL c seen) (c v+1))(hv:c v<G.length){n k:Nat}{L:List Dt}(hg:G[c v]? =some (n,L)):RI c (seen++[v]) 0 (G.set (c v) (k,L++[v])):=by
 have hl:=h.len;refine ⟨by rw [List.length_set,Gd];omega,λ j x hx=> ?_⟩;rw [List.getElem?_set] at hx
 split at hx
 .rename_i e
  injection hx with hx;subst hx;have:=h.row _ _ hg;dsimp only at this ⊢;rw [this,List.filter_append,e];simp [e]
 .rename_i e
  rw [h.row j x hx,List.filter_append];simp [e]
theorem RI.rows {c:Dt->Nat}{seen:List Dt}{G:RG}(h:RI c seen 0 G):G.map (·.2)=(List.range (wL c seen)).map λ j=>seen.filter λ v=>decide (c v=j):=by
 have hl:=h.len;apply List.ext_getElem?;intro j;rw [List.getElem?_map,List.getElem?_map];cases hg:G[j]? with
 | none=>
  have:G.length<=j:=List.getElem?_eq_none_iff.1 hg;rw [List.getElem?_eq_none (by rw [List.length_range];omega)];rfl
 | some x=>
  have:j<G.length:=by
   obtain ⟨h1,_⟩:=List.getElem?_eq_some_iff.1 hg;exact h1
  rw [List.getElem?_range (by omega)];simp [h.row j x hg]
noncomputable def g_ (l:List ag)(v:Dt):Nat:=(fO l (l5 l v)).length
noncomputable def lX (l:List ag):List (List Dt):=(List.range (wL (g_ l) (jW l))).map λ j=>(jW l).filter λ v=>decide (g_ l v=j)
structure RQ (c:Dt->Nat)(seen:List Dt)(t:Nat)(G:RG)(a kk:Nat):Prop where
 ri:RI c seen t G
 ok:j6 G kk
 la:a<kk
 na:∀ x,x∈G->x.2≠[]->x.1≠a
abbrev Dx (G:RG)(a:Nat):Hp:=(a,.arr 31 1 G.length (RG.cells G))::RG.tl G
theorem RQ.sM {c:Dt->Nat}{seen:List Dt}{t:Nat}{G:RG}{a kk k:Nat}(h:RQ c seen t G a kk)(hk:kk<=k):(Dx G a).ok (λ n=>decide (n<k))=true:=
 ax (by have:=h.la;simp;omega) (h.ok.aj hk) (h.ok.sM hk)
theorem RQ.out {c:Dt->Nat}{seen:List Dt}{t:Nat}{G:RG}{a kk n:Nat}(h:RQ c seen t G a kk)(hn:kk<=n):lk (RG.tl G) n=none:=j6.out (kk:=kk) λ x hx hxn e=>by have:=h.ok.bd x hx hxn;omega
theorem RQ.N7 {c:Dt->Nat}{seen:List Dt}{t:Nat}{G:RG}{a kk:Nat}(h:RQ c seen t G a kk):lk (RG.tl G) a=none:=j6.out (kk:=kk) h.na
theorem RQ.grow {c:Dt->Nat}{seen:List Dt}{t:Nat}{G:RG}{a kk m:Nat}(h:RQ c seen t G a kk)(hm:G.length<m):RQ c seen (G.length+1) (G++[(0,[])]) kk (kk+1):=by
 refine ⟨h.ri.grow hm,(h.ok.snoc).more (Nat.le_succ _),Nat.lt_succ_self _,λ x hx hxn=> ?_⟩;have:=(h.ok.snoc).bd x hx hxn;omega
theorem RQ.set {c:Dt->Nat}{seen:List Dt}{t:Nat}{G:RG}{a kk:Nat}(h:RQ c seen t G a kk){v:Dt}(ht:t<=max (wL c seen) (c v+1))(hv:c v<G.length){n k:Nat}{L:List Dt}(hg:G[c v]? =some (n,L))(hk:kk<=k):RQ c (seen++[v]) 0 (G.set (c v) (k,L++[v])) a (k+1):=by
 refine ⟨h.ri.set ht hv hg,h.ok.set _ _ _ _ hk (Nat.lt_succ_self _),by have:=h.la;omega,λ x hx hxn=> ?_⟩;rcases List.mem_or_eq_of_mem_set hx with hx | rfl
 .exact h.na x hx hxn
 .have:=h.la;dsimp only;omega
theorem Lu {G:RG}{m n:Nat}{L:List Dt}(h:G[m]? =some (n,L)):(RG.cells G)[m]? =some (gv (n,L)):=by unfold RG.cells;rw [List.getElem?_map,h];rfl
theorem Lv (G:RG)(m:Nat)(x:Nat×List Dt):bX (RG.cells G) m [gv x]=RG.cells (G.set m x):=(RG.CW G m x).symm
theorem zC:∀ {h:Hp} {n:Nat},lk h n=none->dm h n=h
 | [],n,_=>rfl
 | (m,o)::h,n,hn=>by
  rw [aa] at hn
  split at hn
  .cases hn
  .rename_i e
   unfold dm;rw [if_neg (λ hh=>e hh.symm),zC hn]
theorem RQ.LY {c:Dt->Nat}{seen:List Dt}{t:Nat}{G:RG}{a kk:Nat}(h:RQ c seen t G a kk):∀ y,y∈Dx G a->lk (Dx G a) y.1=some y.2:=λ y hy=>by
 rcases List.mem_cons.1 hy with rfl | hy
 .rw [aa,if_pos rfl]
 .obtain ⟨x,hx,hxn,rfl⟩:=RG.lW.1 hy
  rw [aa,if_neg (h.na x hx hxn)];exact h.ok.BG hx hxn
theorem RQ.Nb {c:Dt->Nat}{seen:List Dt}{t:Nat}{G:RG}{a kk m n k:Nat}{L L':List Dt}(h:RQ c seen t G a kk)(hg:G[m]? =some (n,L)){H:Hp}(ha:lk H a=some (.arr 31 1 (G.set m (k,L')).length (RG.cells (G.set m (k,L')))))(hk:lk H k=some (fF L'))
  (ho:∀ x:Nat×List Dt,x∈G->x.2≠[]->x.1<kk->x.1≠a->(L≠[]->x.1≠n)->lk (RG.tl G) x.1=some (fF x.2)->lk H x.1=some (fF x.2)):∀ y,y∈Dx (G.set m (k,L')) a->lk H y.1=some y.2:=λ y hy=>by
 rcases List.mem_cons.1 hy with rfl | hy
 .exact ha
 .refine RG.LY hk (λ j x hj hx hxn=> ?_) y hy
  have hm:=List.mem_of_getElem? hx;exact ho x hm hxn (h.ok.bd x hm hxn) (h.na x hm hxn) (λ hL e=>hj (h.ok.inj j m x (n,L) hx hg hxn hL e)) (h.ok.BG hm hxn)
section
variable {l:List ag} (hl:l.length<=80) (hd:∀ x,x∈l->x.aT<256/\x.nT/\x.dot.wf)
include hl hd
end
end
section
attribute [local irreducible] SW RW aG SC ai ak
def GS (L:List Dt):DV:= .sl L.length (L.flatMap Dt.ds)
def gM (R:List (List Dt)):SV:= .d (.sl R.length (R.map λ L=>GS (Dt.set L)))
theorem IX (n:Nat)(ds:List DV):Go.Sl.Pure Tryz.prog slices_Clip_LLapi_Dot_Lapi_Dot.f [.d (.sl n ds)] (.d (.sl n ds)):=by
 refine slices_Clip_LLapi_Dot_Lapi_Dot.enter (by first | rfl | simp [SV.ok,SV.av]) (by first | rfl | simp [Hp.ok,Ob.ok,SV.ok,SV.av,aB.aj]) (by simp) ?_;dsimp only [slices_Clip_LLapi_Dot_Lapi_Dot.s,Co.M,Co.J,Co.F,Co.L,Co.S];(repeat (first | refine SW.seq ?_ | refine SW.block ?_ | refine SW.g0 [0,2] Zm af ?_ | refine SW.skip ?_ | refine SW.exit ?_ | refine SW.ret ?_ | refine SW.an rfl ?_ | refine SW.ah rfl ?_));exact End.mk [] (h4:=⟨rfl,rfl⟩)
theorem IY (n:Nat)(ds:List DV)(k:Nat):aG Tryz.prog slices_Clip_LLapi_Dot_Lapi_Dot.f [.d (.sl n ds)] [] k 0 (.d (.sl n ds)) []:=(IX n ds).sc rfl k
def Ix.nY (X:Ix)(d:Dt):Nat:=(X.pF d).length
def Ix.lX (X:Ix):List (List Dt):=(List.range (wL X.nY (MM.keys X.ops))).map λ j=>(MM.keys X.ops).filter λ v=>decide (X.nY v=j)
theorem wM {c:Dt->Nat}{s t:List Dt}(h:∀ v,v∈s↔v∈t):gM ((List.range (wL c s)).map λ j=>s.filter λ v=>decide (c v=j))=gM ((List.range (wL c t)).map λ j=>t.filter λ v=>decide (c v=j)):=by
 unfold gM;rw [IW h,List.map_map,List.map_map];simp only [List.length_map,List.length_range]
 congr 2
 refine List.map_congr_left λ j _=> ?_
 show GS (Dt.set _)=GS (Dt.set _);exact congrArg GS (Dt.xO λ v=>by rw [List.mem_filter,List.mem_filter,h v])
def RG.hi (G:RG):Prop:=∀ x,x∈G->x.2≠[]->6<=x.1
structure LI (X:Ix)(xs:MM Dt ag)(G:RG)(a kk:Nat):Prop where
 sub:∀ x,x∈xs->x∈X.ops
 nd:(xs.map (·.1)).Nodup
 len:xs.length<=X.ops.length
 rq:RQ X.nY (xs.map (·.2.1)) 0 G a kk
 lo:a=4\/6<=a
 hi:G.hi
 k6:6<=kk
 le:kk<=6+2*xs.length+G.length
def wN:Nat:=3000
theorem RG.Lw:RG.hi []:=λ x h=>by cases h
theorem LI.sep {X:Ix}{xs:MM Dt ag}{G:RG}{a kk:Nat}(h:LI X xs G a kk):(a≠0/\a≠1/\a≠2/\a≠3)/\a≠5:=by have:=h.lo;omega
abbrev LZ (X:Ix)(seen:List Nat)(G:RG)(a:Nat):Hp:=(5,.iter (some 1) X.co seen X.co)::(0,.box 110 [.any,.mp 1,.mp 2,.mp 3])::(1,.map (aq Dt.cells ov X.ops) X.co)::(2,.map (aq Dt.cells dn X.ch) X.cc)::(3,.map (aq Dt.cells dn X.lK) X.cf)::Dx G a
theorem Ge {X:Ix}{seen:List Nat}{G:RG}{a k:Nat}(hk:6<=k)(h:(Dx G a).ok (λ n=>decide (n<k))=true):(LZ X seen G a).ok (λ n=>decide (n<k))=true:=
 ax (by simp;omega) (BK _ _ _ _ _ (by simp;omega)) (ax (by simp;omega) (by simp [Ob.ok,SV.av,SV.ok];omega) (ax (by simp;omega) (bB _ _) (ax (by simp;omega) (fq _ _) (ax (by simp;omega) (fq _ _) h))))
theorem J3 {X:Ix}{seen:List Nat}{G:RG}{a:Nat}{H:Hp}(hl:a=4\/6<=a)(hi:G.hi)(h0:∀ n,n∈[5,0,1,2,3]->lk H n=lk (LZ X seen [] a) n)(h:∀ y,y∈Dx G a->lk H y.1=some y.2):∀ y,y∈LZ X seen G a->lk H y.1=some y.2:=λ y hy=>by
 simp only [List.mem_cons] at hy;rcases hy with rfl | rfl | rfl | rfl | rfl | hy
 .exact (h0 5 (by decide)).trans rfl
 .exact (h0 0 (by decide)).trans rfl
 .exact (h0 1 (by decide)).trans rfl
 .exact (h0 2 (by decide)).trans rfl
 .exact (h0 3 (by decide)).trans rfl
 .exact h y (List.mem_cons.2 hy)
theorem RQ.Ox {X:Ix}{sn:List Nat}{c:Dt->Nat}{seen:List Dt}{t:Nat}{G:RG}{a kk:Nat}(h:RQ c seen t G a kk)(hl:a=4\/6<=a)(hi:G.hi):∀ y,y∈Dx G a->lk (LZ X sn G a) y.1=some y.2:=λ y hy=>by
 have hy1:y.1=a\/6<=y.1:=by
  rcases List.mem_cons.1 hy with rfl | hy
  .exact .inl rfl
  .obtain ⟨x,hx,hxn,rfl⟩:=RG.lW.1 hy
   exact .inr (hi x hx hxn)
 have hz:y.1≠5/\y.1≠0/\y.1≠1/\y.1≠2/\y.1≠3:=by omega
 rw [aa,if_neg hz.1,aa,if_neg hz.2.1,aa,if_neg hz.2.2.1,aa,if_neg hz.2.2.2.1,aa,if_neg hz.2.2.2.2];exact h.LY y hy
structure LJ (X:Ix)(seen:List Dt)(G0:RG)(kk m:Nat)(G:RG)(a k:Nat):Prop where
 rq:∃ t,t<=m+1/\RQ X.nY seen t G a k
 lo:a=4\/6<=a
 hi:G.hi
 na:a≠kk
 nr:∀ x,x∈G->x.2≠[]->x.1<kk
 kl:kk+1<=k
 ku:k+G0.length<=kk+1+G.length
theorem LJ.grow {X:Ix}{seen:List Dt}{G0:RG}{kk m:Nat}{G:RG}{a k:Nat}(h:LJ X seen G0 kk m G a k)(hm:G.length<m+1)(h6:6<=kk):LJ X seen G0 kk m (G++[(0,[])]) k (k+1):=by
 obtain ⟨t,ht,hr⟩:=h.rq;have h1:=h.kl;have h2:=h.ku;have hmem:∀ x:Nat×List Dt,x∈G++[(0,([]:List Dt))]->x.2≠[]->x∈G:=λ x hx hxn=>by
  rcases List.mem_append.1 hx with hx | hx
  .exact hx
  .rw [List.mem_singleton] at hx;subst hx;exact absurd rfl hxn
 exact ⟨⟨_,by omega,hr.grow hm⟩,.inr (by omega),λ x hx hxn=>h.hi x (hmem x hx hxn) hxn,by omega,λ x hx hxn=>h.nr x (hmem x hx hxn) hxn,by omega,by rw [List.length_append,List.length_singleton];omega⟩
abbrev LB (X:Ix)(seen:List Nat)(d:Dt)(kk:Nat)(G:RG)(a:Nat):Hp:=(kk,.box 37 d.cells)::LZ X seen G a
theorem LJ.Oy {X:Ix}{seen:List Dt}{sn:List Nat}{G0:RG}{kk m:Nat}{G:RG}{a k:Nat}{d:Dt}(h:LJ X seen G0 kk m G a k)(h6:6<=kk):∀ y,y∈LB X sn d kk G a->lk (LB X sn d kk G a) y.1=some y.2:=λ y hy=>by
 obtain ⟨t,ht,hr⟩:=h.rq;rcases List.mem_cons.1 hy with rfl | hy
 .rw [aa,if_pos rfl]
 .have hy1:y.1≠kk:=by
   simp only [LZ,Dx,List.mem_cons] at hy;rcases hy with rfl | rfl | rfl | rfl | rfl | rfl | hy
   .show 5≠kk;omega
   .show 0≠kk;omega
   .show 1≠kk;omega
   .show 2≠kk;omega
   .show 3≠kk;omega
   .exact h.na
   .obtain ⟨x,hx,hxn,rfl⟩:=RG.lW.1 hy
    have:=h.nr x hx hxn;show x.1≠kk;omega
  rw [aa,if_neg hy1];exact J3 h.lo h.hi (λ n hn=>by
   simp only [List.mem_cons,List.not_mem_nil,or_false] at hn;rcases hn with rfl | rfl | rfl | rfl | rfl <;> rfl) (hr.Ox h.lo h.hi) y hy
theorem LJ.okB {X:Ix}{seen:List Dt}{sn:List Nat}{G0:RG}{kk m:Nat}{G:RG}{a k:Nat}{d:Dt}(h:LJ X seen G0 kk m G a k)(h6:6<=kk):(LB X sn d kk G a).ok (λ n=>decide (n<k))=true:=by
 obtain ⟨t,ht,hr⟩:=h.rq;have:=h.kl;exact ax (by simp;omega) (by simp [Ob.ok,Dt.aj]) (Ge (by omega) (hr.sM (Nat.le_refl _)))
theorem J4 {X:Ix}{sn:List Nat}{G:RG}{a:Nat}{H:Hp}(h5:lk H 5=some (.iter (some 1) X.co sn X.co))(h0:lk H 0=some (.box 110 [.any,.mp 1,.mp 2,.mp 3]))(h1:lk H 1=some (.map (aq Dt.cells ov X.ops) X.co))(h2:lk H 2=some (.map (aq Dt.cells dn X.ch) X.cc))(h3:lk H 3=some (.map (aq Dt.cells dn X.lK) X.cf))
  (h:∀ y,y∈Dx G a->lk H y.1=some y.2):∀ y,y∈LZ X sn G a->lk H y.1=some y.2:=λ y hy=>by
 simp only [List.mem_cons] at hy;rcases hy with rfl | rfl | rfl | rfl | rfl | hy
 .exact h5
 .exact h0
 .exact h1
 .exact h2
 .exact h3
 .exact h y (List.mem_cons.2 hy)
set_option maxHeartbeats 16000000 in
theorem Gf (X:Ix)(hX:X.small)(h9:∀ d,X.nY d<=9):SB Tryz.prog revoke_Index_Levels.f [.ptr 0 0] X.h0 4 wN λ r F=>r=gM X.lX/\F=X.h0:=by
  refine revoke_Index_Levels.enter (by simp [SV.av,SV.ok]) (X.xM (Nat.le_refl 4)) (by simp) ?_;dsimp only [revoke_Index_Levels.s,Co.M,Co.J,Co.F,Co.Z,Co.b8,Co.ay,Co.T,Co.K,Co.E,Co.L,Co.P,Co.W,Co.Y,Co.V,Co.D,Co.A,Co.I,Co.S];have hn:=BI X;refine SW.seq (SW.g0 [0,2,3,4,5,6,8,13,15,28,43,44,45] Zm af ?_);refine SW.seq (SW.seq (SW.g1 [0,2,3,4,5,6,8,13,15,28,43,44,45] Zm af hn ?_));refine SW.ah rfl (SW.skip ?_);refine SW.seq (SW.g0 [0,2,3,4,5,6,8,13,15,28,43,44,45] Zm af ?_);refine SW.qd 3 31 1 rfl ?_;refine SW.seq (SW.seq (SW.g0 [0,2,3,4,5,6,8,13,15,28,43,44,45] Zm af ?_));refine SW.block ?_;have hmx:∀ s,wL X.nY s<=10:=λ s=>sA λ v _=>by have:=h9 v;omega
  refine SW.o7 (es:=λ _=>aq Dt.cells ov X.ops) (c:=λ _=>X.co) (tv:=λ _=>5) (nm:=λ _=>1) (since:=λ _=>X.co) (Ah:=λ _=>X.co)
    (α:={p:MM Dt ag×RG×Nat×Nat // LI X p.1 p.2.1 p.2.2.1 p.2.2.2})
    (λ p=>⟨[(13,.it 5),(3,.gs p.1.2.2.1 p.1.2.1.length),(0,.ptr 0 0)],LZ X (p.1.1.map (·.1)) p.1.2.1 p.1.2.2.1,p.1.2.2.2⟩)
    (λ p=>gf (aq Dt.cells ov X.ops) (p.1.1.map (·.1))) ⟨([],[],4,6),⟨by simp,by simp,Nat.zero_le _,⟨RI.nil _,j6.nil 6,by decide,λ x h=>by cases h⟩,.inl rfl,RG.Lw,by decide,by decide⟩⟩ id (seen:=λ p=>p.1.1.map (·.1)) ?_ (λ p=>by simp [List.lookup]) (λ p=>by simp [aa]) (λ p=>by simp [aa]) (λ p=>by decide) (λ p e' he=> ?_) (λ p=>Nat.le_refl _) (λ p hall=> ?_) (λ p e' he hs=> ?_)
  . refine aQ.same (by show 4<=6;decide) (by simp [aL,List.lookup,SV.aC,SV.ok,SV.av]) (Ge (by show 6<=6;decide) rfl) (λ y hy=> ?_)
    simp only [RG.tl,RG.full,List.filter_nil,List.map_nil,List.mem_cons,List.not_mem_nil,or_false] at hy;rcases hy with rfl | rfl | rfl | rfl | rfl | rfl <;> rfl
  . obtain ⟨x,hx,rfl⟩:=ej he
    exact hX.wo.old x hx
  . obtain ⟨⟨xs,G,a,kk⟩,p⟩:=p
    have p:LI X xs G a kk:=p;dsimp only at*;have hxs:=uP hX.wo p.sub hall;obtain ⟨sa,s5⟩:=p.sep;have hla:=p.rq.la;have fa:=vB sa;have hnk:wN=3000:=rfl;have hk1:kk<=4+wN:=by
      have h1:=p.le;have h2:=p.len;have h3:=hX.op;have h4:=p.rq.ri.len;have h5:=hmx (xs.map (·.2.1));rw [hnk];omega
    have hord:∀ y,y∈(a,Ob.arr 31 1 G.length (RG.cells G))::(X.h0++RG.tl G)->lk (LZ X (xs.map (·.1)) G a) y.1=some y.2:=λ y hy=>by
      refine J3 p.lo p.hi (λ n hn=>by
        simp only [List.mem_cons,List.not_mem_nil,or_false] at hn;rcases hn with rfl | rfl | rfl | rfl | rfl <;> rfl) (p.rq.Ox p.lo p.hi) y ?_
      simp only [List.mem_cons,List.mem_append,List.not_mem_nil,or_false] at hy ⊢;rcases hy with hy | (hy | hy | hy | hy) | hy <;> simp [hy]
    have hok1:Hp.ok (λ n=>decide (n<4+wN)) ((a,Ob.arr 31 1 G.length (RG.cells G))::(X.h0++RG.tl G))=true:=ax (by simp;omega) (p.rq.ok.aj hk1) (F4 (X.xM (by omega)) (p.rq.ok.sM hk1));refine ⟨⟨[(3,.gs a G.length)],(a,.arr 31 1 G.length (RG.cells G))::(X.h0++RG.tl G),4+wN⟩,id,aQ.same (by show 4<=4+wN;omega) (by simp [aL,List.lookup,SV.aC,SV.ok,SV.av];omega) hok1 hord,?_⟩;rw [if_pos rfl];refine SW.N6 (X:=X.h0) (λ n=>decide (n<4) || decide (n=a)) (λ n hn=>by simp only [Bool.or_eq_true,decide_eq_true_eq] at hn;omega) (by omega) (by simp) (Hp.dV (λ n hn=>by simp only [Bool.or_eq_true];exact .inl hn) (X.xM (Nat.le_refl 4))) (by simp;omega) (by simp [SV.ok]) (by simp) G [] (p.rq.ok.more hk1) (λ x hx hxn=> ?_) ?_
    . have h1:=p.hi x hx hxn
      have h2:=p.rq.na x hx hxn;simp only [Bool.or_eq_false_iff,decide_eq_false_iff_not];omega
    have hR:=p.rq.ri.rows;have hRl:G.length<=10:=by have h4:=p.rq.ri.len;have h5:=hmx (xs.map (·.2.1));omega
    have hrl:∀ L,L∈G.map (·.2)->L.length<1000000000:=λ L hL=>by
      rw [hR] at hL;obtain ⟨j,_,rfl⟩:=List.mem_map.1 hL;have h2:=List.length_filter_le (λ v=>decide (X.nY v=j)) (xs.map (·.2.1));have h3:=p.len;have h4:=hX.op;rw [List.length_map] at h2;omega
    have hkeys:∀ v,v∈xs.map (·.2.1)↔v∈MM.keys X.ops:=λ v=>by
      unfold MM.keys;simp only [List.mem_map,hxs]
    have hres:gM (G.map (·.2))=gM X.lX:=by rw [hR];exact wM hkeys
    rw [<- hres];have eG:(G.map λ x=>dn x.2)=(G.map (·.2)).map dn:=by rw [List.map_map];rfl
    show Sl.SW _ _ _ _ ⟨[(3,.gs a G.length)],(a,.arr 31 1 G.length (G.map λ x=>dn x.2))::X.h0,4+wN⟩ _;rw [eG,show G.length=(G.map (·.2)).length by simp];rw [show G.length=(G.map (·.2)).length by simp] at hRl;clear hord hok1 hR hres hkeys eG hxs;generalize G.map (·.2)=R at*;have hl0:Go.Sl.lk ((a,Ob.arr 31 1 R.length (R.map dn))::X.h0) a=some (.arr 31 1 R.length (R.map dn)):=by rw [aa,if_pos rfl]
    have hokC:∀ (C:List SV),SV.av (λ n=>decide (n<4+wN)) C=true->Hp.ok (λ n=>decide (n<4+wN)) ((a,Ob.arr 31 1 R.length C)::X.h0)=true:=λ C hC=>ax (by simp;omega) hC (X.xM (by omega))
    have hlkC:∀ (C:List SV),∀ y,y∈(a,Ob.arr 31 1 R.length C)::X.h0->lk ((a,Ob.arr 31 1 R.length C)::X.h0) y.1=some y.2:=λ C y hy=>by
      simp only [List.mem_cons,List.not_mem_nil,or_false] at hy;rcases hy with rfl | rfl | rfl | rfl | rfl <;> simp [aa,fa]
    have hokD:∀ i,SV.av (λ n=>decide (n<4+wN)) ((R.take i).map (λ L=>bE (Dt.set L))++(R.drop i).map dn)=true:=λ i=>by
      rw [SV.kJ];have k1:∀ (T:List (List Dt)),SV.av (λ n=>decide (n<4+wN)) (T.map (λ L=>bE (Dt.set L)))=true:=λ T=>by
        induction T with
        | nil=>rfl
        | cons x T ih=>simp only [List.map_cons,SV.av,ih,Bool.and_true];rfl
      have k2:∀ (T:List (List Dt)),SV.av (λ n=>decide (n<4+wN)) (T.map dn)=true:=λ T=>by
        induction T with
        | nil=>rfl
        | cons x T ih=>simp only [List.map_cons,SV.av,ih,zo,Bool.and_true]
      rw [k1,k2];rfl
    refine SW.seq (SW.seq (SW.g0 [0,2,3,4,5,6,8,13,15,28,43,44,45] Zm af ?_));refine SW.block (SW.loop (α:={i:Nat // i<=R.length}) (λ i=>⟨[(44,i64 i.1),(43,i64 R.length),(3,.gs a R.length)],(a,.arr 31 1 R.length ((R.take i.1).map (λ L=>bE (Dt.set L))++(R.drop i.1).map dn))::X.h0,4+wN⟩) (λ i=>R.length - i.1) ⟨0,Nat.zero_le _⟩ id (aQ.same (by show 4<=4+wN;omega) (by simp [aL,List.lookup,SV.aC,SV.ok,SV.av];omega) (hokC _ (hokD 0)) (hlkC _)) ?_);rintro ⟨i,hi⟩;have hokC2:=hokC _ (hokD (i+1));have hlkC2:=hlkC ((R.take (i+1)).map (λ L=>bE (Dt.set L))++(R.drop (i+1)).map dn);dsimp only
    by_cases h:i<R.length
    . obtain ⟨L,hx⟩:=br h
      have h1:decide ((i:Int)<R.length)=true:=by simp only [decide_eq_true_eq];omega
      have e2:IntKind.i64.wrap ((i:Int)+1)=((i+1:Nat):Int):=wrap_i64 _ (by omega);have cS:=F3 L (hrl L (List.mem_of_getElem? hx));have hdr:R.drop i=L::R.drop (i+1):=u0 hx;have htl:((R.take i).map λ L=>bE (Dt.set L)).length=i:=by rw [List.length_map,List.length_take];omega
      have gc:((R.take i).map (λ L=>bE (Dt.set L))++(R.drop i).map dn)[i]? =some (dn L):=by rw [List.getElem?_append_right (by omega),htl,hdr,Nat.sub_self];rfl
      have hC':(R.take (i+1)).map (λ L=>bE (Dt.set L))++(R.drop (i+1)).map dn=(R.take i).map (λ L=>bE (Dt.set L))++(bE (Dt.set L)::(R.drop (i+1)).map dn):=by rw [dG hx,List.map_append];simp
      have gs:bX ((R.take i).map (λ L=>bE (Dt.set L))++(R.drop i).map dn) i [bE (Dt.set L)]=(R.take (i+1)).map (λ L=>bE (Dt.set L))++(R.drop (i+1)).map dn:=by
        rw [hC',Ht,hdr,List.map_cons,List.set_append_right _ _ (by omega),htl,Nat.sub_self];rfl
      have lE:i+1<=((R.take i).map (λ L=>bE (Dt.set L))++(R.drop i).map dn).length:=by rw [List.length_append,htl,hdr];simp
      clear hC' hdr htl;generalize (R.take i).map (λ L=>bE (Dt.set L))++(R.drop i).map dn=C at*;generalize hCC:(R.take (i+1)).map (λ L=>bE (Dt.set L))++(R.drop (i+1)).map dn=C' at*;refine SW.seq (SW.g0 [0,2,3,4,5,6,8,13,15,28,43,44,45] Zm h1 ?_);refine SW.seq (SW.an rfl (SW.skip ?_));refine SW.seq (SW.block (SW.seq (SW.g0 [0,2,3,4,5,6,8,13,15,28,43,44,45] Zm af ?_)));refine SW.g1 [0,2,3,4,5,6,8,13,15,28,43,44,45] Zm (Zq fa (Zq gc (Zq gs (Zq Int.toNat_natCast Nat.mul_one)))) cS ?_;refine SW.g0 [0,2,3,4,5,6,8,13,15,28,43,44,45] Zm e2 ?_;refine ⟨⟨i+1,by omega⟩,id,by show R.length - (i+1)<R.length - i;omega,?_⟩;dsimp only;rw [hCC];exact aQ.same (by show 4<=4+wN;omega) (by simp [aL,List.lookup,SV.aC,SV.ok,SV.av];omega) hokC2 hlkC2
    . have h1:decide ((i:Int)<R.length)=false:=by simp only [decide_eq_false_iff_not];omega
      have hi2:i=R.length:=by omega
      subst hi2;rw [List.take_length,List.drop_length,List.map_nil,List.append_nil];refine SW.seq (SW.g0 [0,2,3,4,5,6,8,13,15,28,43,44,45] Zm h1 ?_);refine SW.seq (SW.ah rfl (SW.exit ?_));refine (?_:Sl.SW _ _ _ _ _ _);have eD:(R.map λ L=>bE (Dt.set L))=(R.map λ L=>GS (Dt.set L)).map SV.d:=by rw [List.map_map];rfl
      refine SW.freeze a (R.map λ L=>GS (Dt.set L)) (show lk _ a=some (.arr 31 1 R.length (R.map λ L=>bE (Dt.set L))) by rw [aa,if_pos rfl]) eD ?_;have hh:dm ((a,Ob.arr 31 1 R.length (R.map λ L=>bE (Dt.set L)))::X.h0) a=X.h0:=by
        simp [dm,fa]
      rw [hh];refine SW.weak id (st1:=⟨[(3,gM R)],X.h0,4+wN⟩) (aQ.same (by show 4<=4+wN;omega) (by simp [aL,lR,SV.iw,gM,List.lookup,SV.aC,SV.ok,SV.av]) (X.xM (by show 4<=4+wN;omega)) (λ y hy=> ?_)) ?_
      . simp only [List.mem_cons,List.not_mem_nil,or_false] at hy
        rcases hy with rfl | rfl | rfl | rfl <;> rfl
      refine SW.seq ?_;have cC:=IY R.length (R.map λ L=>GS (Dt.set L));change ∀ k,aG Tryz.prog slices_Clip_LLapi_Dot_Lapi_Dot.f [gM R] [] k 0 (gM R) [] at cC;refine SW.g1 [0,2,3,4,5,6,8,13,15,28,43,44,45] Zm af cC ?_;refine SW.ret ?_;exact End.mk X.h0 (h3:=λ _ _ h=>h) (h4:=⟨rfl,rfl⟩) (h6:=X.xM (by omega)) (h7:=Nat.le_refl _)
  . obtain ⟨⟨xs,G,a,kk⟩,p⟩:=p
    have p:LI X xs G a kk:=p;dsimp only at*;obtain ⟨x,hx,rfl⟩:=ej he;dsimp only at hs;have g5:(xs.map (·.1)++[x.1]).getLast? =some x.1:=by simp
    have g6:=j9 (kc:=Dt.cells) (vs:=ov) hX.wo.times hx;have eov:∀ o,ov o= .agg o.cells:=λ _=>rfl
    obtain ⟨q1,q2,_⟩:=sq p.sub p.nd hx hs;have em:(xs++[x]).map (·.1)=xs.map (·.1)++[x.1]:=by simp
    have hm:=j_ he hs;obtain ⟨d,hd⟩:∃ d,x.2.1=d:=⟨_,rfl⟩;have hkq:=p.k6;obtain ⟨sa,s5⟩:=p.sep;have fa:=vB sa;have fa5:=bT s5;have z0:=vB (k:=kk) ⟨by omega,by omega,by omega,by omega⟩;have z5:=bT (show kk≠5 by omega);have za:=bT (show kk≠a by have:=p.rq.la;omega);have g2:List.lookup kk (RG.tl G)=none:=p.rq.out (Nat.le_refl _);rw [iS];dsimp only [Dx];refine SW.block (SW.seq (SW.g0 [0,2,3,4,5,6,8,13,15,28,43,44,45] Zm (Zq g5 (Zq g6 (Zq eov (Zq hd (Zq fa (Zq fa5 (Zq z0 (Zq z5 (Zq za g2))))))))) ?_));obtain ⟨m,xW⟩:∃ m,X.nY d=m:=⟨_,rfl⟩;have hm9:=h9 d;rw [xW] at hm9;refine SW.seq ?_;have hlk:=tF X.ch d;change fu _ _ _=dn (X.pF d) at hlk;have hJ0:LJ X (xs.map (·.2.1)) G kk m G a (kk+1):=⟨⟨0,Nat.zero_le _,⟨p.rq.ri,p.rq.ok.more (Nat.le_succ _),by have:=p.rq.la;omega,p.rq.na⟩⟩,p.lo,p.hi,by have:=p.rq.la;omega,p.rq.ok.bd,Nat.le_refl _,by omega⟩;apply later
    . intro late
      have hcm':(X.pF d).length=m:=xW;have hw:=λ (env:List (Nat×SV)) (kz:Nat) (he:aL id (kk+1) env [(5,i64 m),(4,.ptr kk 0),(13,.it 5),(3,.gs a G.length),(0,.ptr 0 0)])=>aQ.same (k0:=4) (st:=⟨env,LB X (xs.map (·.1)++[x.1]) d kk G a,kz⟩) (st1:=⟨[(5,i64 m),(4,.ptr kk 0),(13,.it 5),(3,.gs a G.length),(0,.ptr 0 0)],LB X (xs.map (·.1)++[x.1]) d kk G a,kk+1⟩) (by show 4<=kk+1;omega) he (hJ0.okB hkq) (hJ0.Oy hkq)
      rcases hLc:X.pF d with _ | ⟨c,L'⟩
      . have hlk0:fu (aq Dt.cells dn X.ch) (.d .aN) (MM.idx X.ch d)= .d .aN:=by rw [hlk,hLc];rfl
        refine SW.gK [0,2,3,4,5,6,8,13,15,28,43,44,45] Zm (Zq hlk0 (Zq fa (Zq fa5 (Zq z0 (Zq z5 (Zq za g2)))))) (Zq z0 (Zq z5 (Zq za (Zq fa fa5)))) True.intro ?_;rw [hLc] at hcm';exact SW.weak id (hw _ _ (by rw [<- hcm'];simp [aL,List.lookup,SV.aC,SV.ok,SV.av];have:=p.rq.la;omega)) late.c
      . have hlk0:fu (aq Dt.cells dn X.ch) (.d .aN) (MM.idx X.ch d)=bE (c::L'):=by rw [hlk,hLc];rfl
        refine SW.gK [0,2,3,4,5,6,8,13,15,28,43,44,45] Zm (Zq hlk0 (Zq fa (Zq fa5 (Zq z0 (Zq z5 (Zq za g2)))))) (Zq z0 (Zq z5 (Zq za (Zq fa fa5)))) True.intro ?_;rw [hLc] at hcm';exact SW.weak id (hw _ _ (by rw [<- hcm'];simp [aL,List.lookup,SV.aC,SV.ok,SV.av];have:=p.rq.la;omega)) late.c
    refine SW.seq (SW.block (SW.loop (α:={q:RG×Nat×Nat // LJ X (xs.map (·.2.1)) G kk m q.1 q.2.1 q.2.2}) (λ q=>⟨[(5,i64 m),(4,.ptr kk 0),(13,.it 5),(3,.gs q.1.2.1 q.1.1.length),(0,.ptr 0 0)],LB X (xs.map (·.1)++[x.1]) d kk q.1.1 q.1.2.1,q.1.2.2⟩) (λ q=>m+1 - q.1.1.length) ⟨(G,a,kk+1),hJ0⟩ id (aQ.same (by show 4<=kk+1;omega) (by simp [aL,List.lookup,SV.aC,SV.ok,SV.av];have:=p.rq.la;omega) (hJ0.okB hkq) (hJ0.Oy hkq)) ?_));rintro ⟨⟨G1,a1,k1⟩,hj⟩;have hj:LJ X (xs.map (·.2.1)) G kk m G1 a1 k1:=hj;obtain ⟨t,ht,p3⟩:=hj.rq;dsimp only at*;have la:=p3.la;have kl:=hj.kl;have lo1:=hj.lo;have y0:=vB (k:=a1) ⟨by omega,by omega,by omega,by omega⟩;have y5:=bT (show a1≠5 by omega);have yk:=bT hj.na;have w0:=vB (k:=k1) ⟨by omega,by omega,by omega,by omega⟩;have w5:=bT (show k1≠5 by omega);have wk:=bT (show k1≠kk by omega);have wa:=bT (show k1≠a1 by omega);have sp1:bX [SV.d .aN] 0 [SV.d .aN]=[SV.d .aN]:=rfl;have t0:List.lookup k1 (RG.tl G1)=none:=p3.out (Nat.le_refl _);have ta:List.lookup a1 (RG.tl G1)=none:=p3.N7;have hd0:dm (RG.tl G1) a1=RG.tl G1:=zC ta;dsimp only [LB,LZ,Dx]
    by_cases hjm:G1.length<m+1
    . have j1:decide ((G1.length:Int)<=(m:Int))=true:=by simp only [decide_eq_true_eq];omega
      refine SW.seq (SW.seq (SW.g0 [0,2,3,4,5,6,8,13,15,28,43,44,45] Zm j1 ?_));refine SW.an rfl (SW.skip ?_);refine SW.block (SW.g0 [0,2,3,4,5,6,8,13,15,28,43,44,45] Zm (Zq w0 (Zq w5 (Zq wk (Zq wa (Zq y0 (Zq y5 (Zq yk (Zq z0 (Zq z5 (Zq t0 (Zq hd0 sp1))))))))))) ?_);have hg:=hj.grow hjm hkq;refine ⟨⟨(G1++[(0,[])],k1,k1+1),hg⟩,id,by show m+1 - (G1++[(0,([]:List Dt))]).length<m+1 - G1.length;rw [List.length_append,List.length_singleton];omega,?_⟩;dsimp only;refine aQ.same (by show 4<=k1+1;omega) (by simp [aL,List.lookup,SV.aC,SV.ok,SV.av];omega) (hg.okB hkq) (λ y hy=> ?_);rcases List.mem_cons.1 hy with rfl | hy
      . simp [aa,wk]
      . refine J4 ?_ ?_ ?_ ?_ ?_ (λ y hy=> ?_) y hy
        . simp [aa,w5,z5]
        . simp [aa,w0,z0]
        . simp [aa,w0,z0]
        . simp [aa,w0,z0]
        . simp [aa,w0,z0]
        . rcases List.mem_cons.1 hy with rfl | hy
          . rw [RG.AJ];simp [aa]
          . rw [RG.IU] at hy
            obtain ⟨z,hz,hzn,rfl⟩:=RG.lW.1 hy;have b1:=hj.nr z hz hzn;have b2:=hj.hi z hz hzn;dsimp only;rw [aa,if_neg (show z.1≠k1 by omega),aa,if_neg (show z.1≠kk by omega),aa,if_neg (show z.1≠5 by omega),aa,if_neg (show z.1≠0 by omega),aa,if_neg (show z.1≠1 by omega),aa,if_neg (show z.1≠2 by omega),aa,if_neg (show z.1≠3 by omega)];exact p3.ok.BG hz hzn
    . have j1:decide ((G1.length:Int)<=(m:Int))=false:=by simp only [decide_eq_false_iff_not];omega
      refine SW.seq (SW.seq (SW.g0 [0,2,3,4,5,6,8,13,15,28,43,44,45] Zm j1 ?_));refine SW.ah rfl (SW.exit ?_);refine (?_:Sl.SW _ _ _ _ _ _);have hml:m<G1.length:=by omega
      obtain ⟨⟨n,L⟩,hg⟩:=br hml;have gc:=Lu hg;have gs:=Lv G1 m (k1,L++[d]);have lE:m+1<=(RG.cells G1).length:=by rw [RG.js];exact hml
      have hlen:(G1.set m (k1,L++[d])).length=G1.length:=List.length_set;have hxl:(xs++[x]).length<=X.ops.length:=by
        have:=q2.length_le_of_subset (l₂:=X.ops.map (·.1)) λ n hn=>by
          obtain ⟨z,hz,rfl⟩:=List.mem_map.1 hn;exact List.mem_map.2 ⟨z,q1 z hz,rfl⟩
        simpa using this
      have hrq:=p3.set (v:=d) (by rw [xW];omega) (by rw [xW];exact hml) (by rw [xW];exact hg) (Nat.le_refl k1);have ek:(xs++[x]).map (·.2.1)=xs.map (·.2.1)++[d]:=by rw [List.map_append,List.map_singleton,hd]
      rw [xW,<- ek] at hrq;have hLI:LI X (xs++[x]) (G1.set m (k1,L++[d])) a1 (k1+1):=by
        refine ⟨q1,q2,hxl,hrq,hj.lo,λ z hz hzn=> ?_,by omega,?_⟩
        . rcases List.mem_or_eq_of_mem_set hz with hz | rfl
          . exact hj.hi z hz hzn
          . show 6<=k1;omega
        . have h1:=p.le
          have h2:=hj.ku;rw [List.length_set,List.length_append,List.length_singleton];omega
      have fin:∀ (env:List (Nat×SV)) (hp:Hp) (kz:Nat),(∀ y,y∈LZ X (xs.map (·.1)++[x.1]) (G1.set m (k1,L++[d])) a1->lk hp y.1=some y.2)->aL id (k1+1) env [(13,.it 5),(3,.gs a1 (G1.set m (k1,L++[d])).length),(0,.ptr 0 0)]->
          ∃ (j:{p:MM Dt ag×RG×Nat×Nat // LI X p.1 p.2.1 p.2.2.1 p.2.2.2}) (ρ:Nat->Nat),gf (aq Dt.cells ov X.ops) (j.1.1.map (·.1))<gf (aq Dt.cells ov X.ops) (xs.map (·.1))/\aQ 4 ⟨env,hp,kz⟩ ⟨[(13,.it 5),(3,.gs j.1.2.2.1 j.1.2.1.length),(0,.ptr 0 0)],LZ X (j.1.1.map (·.1)) j.1.2.1 j.1.2.2.1,j.1.2.2.2⟩ ρ:=λ env hp kz g1 g2=>by
        refine ⟨⟨(xs++[x],G1.set m (k1,L++[d]),a1,k1+1),hLI⟩,id,by show gf _ ((xs++[x]).map (·.1))<_;rw [em];exact hm,?_⟩;dsimp only;rw [em];exact aQ.same (by show 4<=k1+1;omega) g2 (Ge (by show 6<=k1+1;omega) (hLI.rq.sM (Nat.le_refl _))) g1
      have hLl:L.length<=1000:=by
        have e:=p3.ri.row m _ hg;dsimp only at e;rw [e];have h2:=List.length_filter_le (λ v=>decide (X.nY v=m)) (xs.map (·.2.1));have h3:=p.len;have h4:=hX.op;rw [List.length_map] at h2;omega
      have rest:∀ (hp:Hp),lk hp 5=some (.iter (some 1) X.co (xs.map (·.1)++[x.1]) X.co)->lk hp 0=some (.box 110 [.any,.mp 1,.mp 2,.mp 3])->lk hp 1=some (.map (aq Dt.cells ov X.ops) X.co)->lk hp 2=some (.map (aq Dt.cells dn X.ch) X.cc)->lk hp 3=some (.map (aq Dt.cells dn X.lK) X.cf)->lk hp a1=some (.arr 31 1 (G1.set m (k1,L++[d])).length (RG.cells (G1.set m (k1,L++[d]))))->lk hp k1=some (fF (L++[d]))->
          (∀ z:Nat×List Dt,z.1<kk->6<=z.1->z.1≠a1->(L≠[]->z.1≠n)->lk (RG.tl G1) z.1=some (fF z.2)->lk hp z.1=some (fF z.2))->∀ y,y∈LZ X (xs.map (·.1)++[x.1]) (G1.set m (k1,L++[d])) a1->lk hp y.1=some y.2:=λ hp r5 r0 r1 r2 r3 ra rk ro=>
        J4 r5 r0 r1 r2 r3 (p3.Nb hg ra rk λ z hz hzn _ h2 h3 h4=>ro z (hj.nr z hz hzn) (hj.hi z hz hzn) h2 h3 h4)
      cases L with
      | nil=>
        have gc:(RG.cells G1)[m]? =some (.d .aN):=gc;have gs:bX (RG.cells G1) m [SV.gs k1 1]=RG.cells (G1.set m (k1,[d])):=gs;refine SW.gK [0,2,3,4,5,6,8,13,15,28,43,44,45] Zm (Zq w0 (Zq w5 (Zq wk (Zq wa (Zq y0 (Zq y5 (Zq yk (Zq z0 (Zq z5 (Zq t0 (Zq ta (Zq gc (Zq gs (Zq Int.toNat_natCast Nat.mul_one)))))))))))))) (Zq w0 (Zq w5 (Zq wk (Zq wa (Zq y0 (Zq y5 (Zq yk (Zq z0 z5)))))))) True.intro ?_;refine fin _ _ _ (rest _ ?_ ?_ ?_ ?_ ?_ ?_ ?_ λ z h1 h2 h3 h4 h5=> ?_) (by simp [aL,List.lookup,SV.aC,SV.ok,SV.av,hlen];omega)
        . simp [aa,w5,z5]
        . simp [aa,w0,z0]
        . simp [aa,w0,z0]
        . simp [aa,w0,z0]
        . simp [aa,w0,z0]
        . simp [aa,y0,y5,yk,wa]
        . simp [aa,fF]
        . rw [aa,if_neg (show z.1≠k1 by omega),aa,if_neg (show z.1≠kk by omega),aa,if_neg (show z.1≠5 by omega),aa,if_neg (show z.1≠0 by omega),aa,if_neg (show z.1≠1 by omega),aa,if_neg (show z.1≠2 by omega),aa,if_neg (show z.1≠3 by omega),aa,if_neg h3]
          exact h5
      | cons d0 L0=>
        obtain ⟨L,hLe⟩:∃ L,d0::L0=L:=⟨_,rfl⟩;have hLn:L≠[]:=by rw [<- hLe];simp
        rw [hLe] at gc gs hLI fin hlen hLl hg rest;rw [lM hLn] at gc;rw [lM (show L++[d]≠[] by simp),show (L++[d]).length=L.length+1 by simp] at gs;have hgm:=List.mem_of_getElem? hg;have hnb:=hj.nr _ hgm hLn;have hnh:=hj.hi _ hgm hLn;have hna:=p3.na _ hgm hLn;dsimp only at hnb hna hnh;have n1:=bT hna;have n2:=bT (show n≠k1 by omega);have n3:=bT (show n≠kk by omega);have n5:=bT (show n≠5 by omega);have n0:=vB (k:=n) ⟨by omega,by omega,by omega,by omega⟩;have t3:List.lookup n (RG.tl G1)=some (.arr 37 2 L.length ((L.flatMap Dt.ds).map .d)):=p3.ok.BG hgm hLn;have t4:List.lookup k1 (dm (RG.tl G1) n)=none:=by
          show lk (dm (RG.tl G1) n) k1=none;rw [di,if_neg (by omega)];exact t0
        refine SW.gK [0,2,3,4,5,6,8,13,15,28,43,44,45] Zm (Zq w0 (Zq w5 (Zq wk (Zq wa (Zq y0 (Zq y5 (Zq yk (Zq z0 (Zq z5 (Zq n0 (Zq n1 (Zq n2 (Zq n3 (Zq n5 (Zq t0 (Zq ta (Zq t3 (Zq t4 (Zq gc (Zq gs (Zq Int.toNat_natCast Nat.mul_one))))))))))))))))))))) (Zq w0 (Zq w5 (Zq wk (Zq wa (Zq y0 (Zq y5 (Zq yk (Zq z0 (Zq z5 (Zq n0 (Zq n1 (Zq n2 (Zq n3 n5))))))))))))) True.intro ?_;refine fin _ _ _ (rest _ ?_ ?_ ?_ ?_ ?_ ?_ ?_ λ z h1 h2 h3 h4 h5=> ?_) (by simp [aL,List.lookup,SV.aC,SV.ok,SV.av,hlen];omega)
        . simp [aa,w5,z5]
        . simp [aa,w0,z0]
        . simp [aa,w0,z0]
        . simp [aa,w0,z0]
        . simp [aa,w0,z0]
        . simp [aa,y0,y5,yk,wa]
        . simp [aa,fF,Dt.oq]
        . rw [aa,if_neg (show z.1≠k1 by omega),aa,if_neg (show z.1≠kk by omega),aa,if_neg (show z.1≠5 by omega),aa,if_neg (show z.1≠0 by omega),aa,if_neg (show z.1≠1 by omega),aa,if_neg (show z.1≠2 by omega),aa,if_neg (show z.1≠3 by omega),aa,if_neg h3,di,if_neg (h4 hLn)]
          exact h5
end
end Go.Proofs.YtaelhkkjgfobhaaGreat
namespace Go.Proofs.YtaelhkkjgfobhaaGreat
open Go.Sl Go.Proofs
section
theorem AK {l:List ag}{s:List Dt}{p:Dt->Bool}(h:∀ v,v∈s↔bW l v=true/\p v=true):Dt.set s=(jW l).filter p:=
 Dt.gY (Dt.gZ _) ((Dt.gZ _).filter _) λ v=>by rw [Dt.mem_set,h,List.mem_filter,jD]
section
variable {l:List ag} {S:Sh} (h:dh l S)
include h
theorem dh.sQ (d:Dt):S.good d=bW l d:=h.good d
theorem dh.N8 {d:Dt}(hg:S.good d=true):Dt.set (h.X.jb (h.X.op d))=(jW l).filter (zA l d):=by
 refine AK λ v=> ?_
 rw [h.Ov hg,h.N4 hg,Sh.IJ,h.pF,h.base.op,h.base.op,<- h.sQ];unfold zA rz;simp only [Bool.and_eq_true,decide_eq_true_eq,Bool.not_eq_true'];constructor
 .rintro ⟨_,h1,h2,h3,h4⟩
  exact ⟨h1,h2,h3,h4⟩
 .rintro ⟨h1,h2,h3,h4⟩
  exact ⟨(h.F7.2 h1).1,h1,h2,h3,h4⟩
theorem dh.J5 {d:Dt}(hg:S.good d=true):h.X.nY d=g_ l d:=by
 unfold Ix.nY g_;rw [h.IP hg,h.pF,h.base.op]
theorem dh.N9:gM h.X.lX=gM (lX l):=by
 have hk:∀ v,v∈MM.keys h.X.ops↔v∈jW l:=λ v=>by rw [<- MM.gV,h.F8,h.sQ,jD]
 have hc:∀ v,v∈MM.keys h.X.ops->h.X.nY v=g_ l v:=λ v hv=>h.J5 (by rw [h.sQ];exact jD.1 ((hk v).1 hv))
 have e1:wL h.X.nY (MM.keys h.X.ops)=wL (g_ l) (MM.keys h.X.ops):=Nat.le_antisymm (sA λ v hv=>by rw [hc v hv];exact pG hv) (sA λ v hv=>by rw [<- hc v hv];exact pG hv);have e2:h.X.lX=(List.range (wL (g_ l) (MM.keys h.X.ops))).map λ j=>(MM.keys h.X.ops).filter λ v=>decide (g_ l v=j):=by
  unfold Ix.lX;rw [e1];refine List.map_congr_left λ j _=>List.filter_congr λ v hv=> ?_
  rw [hc v hv]
 rw [e2];exact wM hk
end
theorem Gg {l:List ag}{L:List Dt}(h:L∈lX l):Dt.set L=L:=by
 obtain ⟨j,_,rfl⟩:=List.mem_map.1 h;exact Dt.gY (Dt.gZ _) ((Dt.gZ _).filter _) λ v=>Dt.mem_set
end
section
attribute [local irreducible] SW RW aG SC ai ak jQ tH wN
end
end Go.Proofs.YtaelhkkjgfobhaaGreat
