/-
 Rows of rows that grow: names, what stands there; all are frozen (plain, and one rule).
-/
import Derived.Test.YtaelhkkjgfobhaaGreatUO
import Derived.Test.YtaelhkkjgfobhaaGreatU6
import Derived.Test.YtaelhkkjgfobhaaGreatUT
import Derived.Test.YtaelhkkjgfobhaaGreatUR
set_option linter.unusedSectionVars false
set_option linter.unusedVariables false
set_option linter.unusedSimpArgs false
namespace Go.Proofs.YtaelhkkjgfobhaaGreat
open Go.Sl Go.Proofs
section
abbrev RG:=List (Nat×List Dt)
def RG.cells (G:RG):List SV:=G.map gv
def RG.full (G:RG):RG:=G.filter fun x=> !x.2.isEmpty
def RG.tl (G:RG):Hp:=(RG.full G).map fun x=>(x.1,dY x.2)
theorem RG.uz {G:RG}{x:Nat×List Dt}:x∈G.full↔x∈G∧x.2≠[]:=by
 unfold RG.full
 rw [List.mem_filter]
 simp
theorem RG.kG {G:RG}{y:Nat×Ob}:y∈G.tl↔∃ x,x∈G∧x.2≠[]∧y=(x.1,dY x.2):=by
 unfold RG.tl
 rw [List.mem_map]
 constructor
 ·rintro ⟨x,hx,rfl⟩
  exact ⟨x,(RG.uz.1 hx).1,(RG.uz.1 hx).2,rfl⟩
 ·rintro ⟨x,h1,h2,rfl⟩
  exact ⟨x,RG.uz.2 ⟨h1,h2⟩,rfl⟩
theorem RG.AR (G:RG):RG.tl (G++[(0,[])])=RG.tl G:=by simp [RG.tl,RG.full,List.filter_append]
theorem RG.uA (G:RG):RG.cells (G++[(0,[])])=RG.cells G++[.d .aD]:=by simp [RG.cells,gv]
theorem RG.BU (G:RG)(i:Nat)(x:Nat×List Dt):RG.cells (G.set i x)=(RG.cells G).set i (gv x):=by unfold RG.cells;rw [List.map_set]
theorem RG.ij (G:RG):(RG.cells G).length=G.length:=by simp [RG.cells]
structure jy (G:RG)(kk:Nat):Prop where
 inj:∀ (i j:Nat) (x y:Nat×List Dt),G[i]? =some x→G[j]? =some y→x.2≠[]→y.2≠[]→x.1=y.1→i=j
 bd:∀ x,x∈G→x.2≠[]→x.1<kk
theorem jy.nil (kk:Nat):jy [] kk:=⟨fun i j x y h=>by simp at h,fun x h=>by simp at h⟩
theorem jy.more {G:RG}{kk k':Nat}(h:jy G kk)(hk:kk≤k'):jy G k':=⟨h.inj,fun x hx hn=>by have:=h.bd x hx hn;omega⟩
theorem jy.yH {G:RG}{kk:Nat}(h:jy G kk){x:Nat×List Dt}(hx:x∈G)(hn:x.2≠[]):lk G.tl x.1=some (dY x.2):=by
 have hm:(x.1,dY x.2)∈G.tl:=RG.kG.2 ⟨x,hx,hn,rfl⟩
 cases hl:lk G.tl x.1 with
 | none=>
  have:=List.lookup_eq_none_iff.1 (show List.lookup x.1 G.tl=none from hl) _ hm
  simp at this
 | some ob=>
  obtain ⟨y,hy,hyn,e⟩:=RG.kG.1 (gH hl)
  injection e with e1 e2
  obtain ⟨i,hi⟩:=List.mem_iff_getElem?.1 hx
  obtain ⟨j,hj⟩:=List.mem_iff_getElem?.1 hy
  have:=h.inj i j x y hi hj hn hyn e1
  subst this
  rw [hi] at hj
  injection hj with hj
  subst hj
  rw [e2]
theorem jy.out {G:RG}{kk n:Nat}(h:∀ x,x∈G→x.2≠[]→x.1≠n):lk G.tl n=none:=by
 cases hl:lk G.tl n with
 | none=>rfl
 | some ob=>
  obtain ⟨y,hy,hyn,e⟩:=RG.kG.1 (gH hl)
  injection e with e1 e2
  exact absurd e1.symm (h y hy hyn)
theorem jy.ny {G:RG}{kk k:Nat}(h:jy G kk)(hk:kk≤k):G.tl.ok (fun n=>decide (n<k))=true:=by
 unfold Hp.ok
 rw [List.all_eq_true]
 intro y hy
 obtain ⟨x,hx,hn,rfl⟩:=RG.kG.1 hy
 have:=h.bd x hx hn
 simp only [dY,Ob.ok,SV.bk,Bool.and_true,decide_eq_true_eq]
 omega
theorem jy.ah {G:RG}{kk k:Nat}(h:jy G kk)(hk:kk≤k):SV.av (fun n=>decide (n<k)) G.cells=true:=by
 have key:∀ (B:RG),(∀ x,x∈B→x.2≠[]→x.1<kk)→SV.av (fun n=>decide (n<k)) B.cells=true:=fun B=>by
  induction B with
  | nil=>intro _;rfl
  | cons x B ih=>
   intro hB
   have h1:=ih fun y hy=>hB y (List.mem_cons_of_mem _ hy)
   obtain ⟨n,L⟩:=x
   cases L with
   | nil=>simpa [RG.cells,gv,SV.av,SV.ok] using h1
   | cons d L=>
    have:=hB (n,d::L) (List.mem_cons_self ..) (by simp)
    have hn:n<k:=by dsimp only at this;omega
    simpa [RG.cells,gv,SV.av,SV.ok,hn] using h1
 exact key G h.bd
theorem jy.snoc {G:RG}{kk:Nat}(h:jy G kk):jy (G++[(0,[])]) kk:=by
 have key:∀ (i:Nat) (x:Nat×List Dt),(G++[(0,([]:List Dt))])[i]? =some x→x.2≠[]→G[i]? =some x:=fun i x hx hn=>by
  rw [List.getElem?_append] at hx
  split at hx
  ·exact hx
  ·rw [List.getElem?_singleton] at hx
   split at hx
   ·injection hx with hx;subst hx;exact absurd rfl hn
   ·cases hx
 refine ⟨fun i j x y hi hj hx hy e=>h.inj i j x y (key i x hi hx) (key j y hj hy) hx hy e,fun x hx hn=> ?_⟩
 obtain ⟨i,hi⟩:=List.mem_iff_getElem?.1 hx
 exact h.bd x (List.mem_of_getElem? (key i x hi hn)) hn
theorem jy.set {G:RG}{kk:Nat}(h:jy G kk)(i:Nat)(n k':Nat)(L:List Dt)(hn:kk≤n)(hk:n<k'):jy (G.set i (n,L)) k':=by
 have key:∀ (j:Nat) (x:Nat×List Dt),(G.set i (n,L))[j]? =some x→(j=i∧x=(n,L))∨j≠i∧G[j]? =some x:=fun j x hj=>by
  rw [List.getElem?_set] at hj
  split at hj
  ·rename_i e
   split at hj
   ·injection hj with hj;exact .inl ⟨e.symm,hj.symm⟩
   ·cases hj
  ·rename_i e
   exact .inr ⟨fun h=>e h.symm,hj⟩
 refine ⟨fun a b x y ha hb hx hy e=> ?_,fun x hx hxn=> ?_⟩
 ·rcases key a x ha with ⟨rfl,rfl⟩ | ⟨a1,a2⟩ <;> rcases key b y hb with ⟨rfl,rfl⟩ | ⟨b1,b2⟩
  ·rfl
  ·have:=h.bd y (List.mem_of_getElem? b2) hy
   dsimp only at e;omega
  ·have:=h.bd x (List.mem_of_getElem? a2) hx
   dsimp only at e;omega
  ·exact h.inj a b x y a2 b2 hx hy e
 ·obtain ⟨j,hj⟩:=List.mem_iff_getElem?.1 hx
  rcases key j x hj with ⟨_,rfl⟩ | ⟨_,a2⟩
  ·exact hk
  ·have:=h.bd x (List.mem_of_getElem? a2) hxn;omega
theorem RG.HX {G:RG}{i n:Nat}{L:List Dt}{H:Hp}(h1:lk H n=some (dY L))(h2:∀ j x,j≠i→G[j]? =some x→x.2≠[]→lk H x.1=some (dY x.2)):∀ y,y∈RG.tl (G.set i (n,L))→lk H y.1=some y.2:=fun y hy=>by
 obtain ⟨x,hx,hn,rfl⟩:=RG.kG.1 hy
 obtain ⟨j,hj⟩:=List.mem_iff_getElem?.1 hx
 rw [List.getElem?_set] at hj
 split at hj
 ·split at hj
  ·injection hj with hj;subst hj;exact h1
  ·cases hj
 ·rename_i e
  exact h2 j x (fun h=>e h.symm) hj hn
theorem Ob.E1 {n len:Nat}{ds:List DV}{q:Nat→Bool}(hq:q n=false)(o:Ob)(h:o.ok q=true):o.v_ n len ds=o:=by
 cases o with
 | arr e sz l cs=>simp only [Ob.v_];rw [SV.kE hq cs (by simpa only [Ob.ok] using h)]
 | box t cs=>exact Ob.mS hq _ h
 | map es c=>exact Ob.mS hq _ h
 | _=>rfl
theorem E2 (n len:Nat)(ds:List DV):∀ (xs:List DV),SV.jl n len ds (xs.map .d)=xs.map .d
 | []=>rfl
 | x::xs=>by simp only [List.map_cons,SV.jl,SV.gp,E2 n len ds xs]
theorem yA (n len:Nat)(ds:List DV):∀ (a b:List SV),SV.jl n len ds (a++b)=SV.jl n len ds a++SV.jl n len ds b
 | [],b=>rfl
 | x::a,b=>by simp only [List.cons_append,SV.jl,yA n len ds a b]
theorem Hj (n len:Nat)(ds:List DV)(A:RG):SV.jl n len ds (A.map fun x=>dn x.2)=A.map fun x=>dn x.2:=by
 induction A with
 | nil=>rfl
 | cons x A ih=>
  simp only [List.map_cons,SV.jl,ih]
  obtain ⟨m,L⟩:=x
  cases L <;> rfl
theorem uB {n len:Nat}{ds:List DV}:∀ {B:RG},(∀ x,x∈B→x.2≠[]→x.1≠n)→SV.jl n len ds B.cells=B.cells
 | [],_=>rfl
 | (m,L)::B,h=>by
  have ih:=uB (n:=n) (len:=len) (ds:=ds) (B:=B) fun x hx=>h x (List.mem_cons_of_mem _ hx)
  unfold RG.cells at ih ⊢
  simp only [List.map_cons,SV.jl,ih]
  cases L with
  | nil=>rfl
  | cons d L=>
   have:=h (m,d::L) (List.mem_cons_self ..) (by simp)
   simp only [gv,SV.gp,if_neg this]
section
variable {P:Program} {N k0:Nat} {Q:Exit→St→Prop}
theorem SW.Lf {s:bH}{X:Hp}{a len k:Nat}{env:List (Nat×SV)}(q:Nat→Bool)(J':∀ n,q n=true→n<k)(kP:k0≤k)(ha:q a=true)(hX:X.ok q=true)(ni:(a::X.map (·.1)).Nodup)(he:(env.all fun x=>x.2.ok q)=true)(xu:(env.map (·.1)).Nodup):
  ∀ (B A:RG),jy B k→(∀ x,x∈B→x.2≠[]→q x.1=false)→Go.Sl.SW P N k0 s ⟨env,(a,.arr 31 1 len ((A++B).map fun x=>dn x.2))::X,k⟩ Q→Go.Sl.SW P N k0 s ⟨env,(a,.arr 31 1 len ((A.map fun x=>dn x.2)++RG.cells B))::(X++RG.tl B),k⟩ Q:=by
 intro B
 induction B with
 | nil=>
  intro A _ _ h
  simpa [RG.tl,RG.full,RG.cells] using h
 | cons x B ih=>
  intro A hB hqB h
  obtain ⟨n,L⟩:=x
  have hB':jy B k:=⟨fun i j x y hi hj hx hy e=>by
   have:=hB.inj (i+1) (j+1) x y (by simpa using hi) (by simpa using hj) hx hy e
   omega,fun y hy=>hB.bd y (List.mem_cons_of_mem _ hy)⟩
  have hqB':∀ x,x∈B→x.2≠[]→q x.1=false:=fun y hy=>hqB y (List.mem_cons_of_mem _ hy)
  have hAB:A++(n,L)::B=(A++[(n,L)])++B:=by simp
  rw [hAB] at h
  cases L with
  | nil=>
   have:=ih (A++[(n,[])]) hB' hqB' h
   have e1:RG.tl ((n,[])::B)=RG.tl B:=by simp [RG.tl,RG.full]
   have e2:(A.map fun x=>dn x.2)++RG.cells ((n,[])::B)=((A++[(n,([]:List Dt))]).map fun x=>dn x.2)++RG.cells B:=by simp [RG.cells,gv,dn]
   rw [e1,e2]
   exact this
  | cons d0 L0=>
   obtain ⟨L,hLe⟩:∃ L,d0::L0=L:=⟨_,rfl⟩
   have hL:L≠[]:=by rw [← hLe];simp
   rw [hLe] at h hB hqB hAB ⊢
   clear hLe
   have hqn:q n=false:=hqB (n,L) (List.mem_cons_self ..) hL
   have hnk:n<k:=hB.bd (n,L) (List.mem_cons_self ..) hL
   have hnB:∀ y,y∈B→y.2≠[]→y.1≠n:=fun y hy hyn e=>by
    obtain ⟨j,hj⟩:=List.mem_iff_getElem?.1 hy
    have:=hB.inj 0 (j+1) (n,L) y rfl (by simpa using hj) hL hyn e.symm
    omega
   have hne:∀ m,q m=true→m≠n:=fun m hm e=>by rw [e,hqn] at hm;cases hm
   have hXq:∀ y,y∈X→q y.1=true:=fun y hy=>by
    have:=List.all_eq_true.1 hX y hy
    simp only [Bool.and_eq_true] at this
    exact this.1
   have hXl:∀ m,q m=false→lk X m=none:=fun m hm=>eM fun hh=>by
    obtain ⟨y,hy,e⟩:=List.mem_map.1 hh
    have:=hXq y hy
    rw [e,hm] at this;cases this
   have hlkn:lk ((a,Ob.arr 31 1 len ((A.map fun x=>dn x.2)++RG.cells ((n,L)::B)))::(X++RG.tl ((n,L)::B))) n=some (.arr 37 2 L.length ((L.flatMap Dt.ds).map .d)):=by
    rw [aa,if_neg (fun e=>hne a ha e.symm),di,hXl n hqn,Option.none_or]
    exact hB.yH (x:=(n,L)) (List.mem_cons_self ..) hL
   refine SW.FY n (L.flatMap Dt.ds) hlkn rfl ?_
   rw [yw hqn he]
   refine SW.weak id (st1:=⟨env,(a,.arr 31 1 len (((A++[(n,L)]).map fun x=>dn x.2)++RG.cells B))::(X++RG.tl B),k⟩) (aK.same kP (aP.refl (fun _ _ h=>h) ?_ xu) ?_ ?_) (ih (A++[(n,L)]) hB' hqB' h)
   ·rw [List.all_eq_true] at he ⊢
    exact fun y hy=>SV.eA (fun m hm=>by simpa using J' m hm) _ (he y hy)
   ·refine au (by simpa using J' a ha) ?_ ?_
    ·have h1:=hB'.ah (Nat.le_refl k)
     have h2:∀ (C:RG),SV.av (fun n=>decide (n<k)) (C.map fun x=>dn x.2)=true:=fun C=>by
      induction C with
      | nil=>rfl
      | cons x C ih=>simp only [List.map_cons,SV.av,yt,ih,Bool.and_true]
     show SV.av _ (_++_)=true
     have h3:∀ (u v:List SV),SV.av (fun n=>decide (n<k)) u=true→SV.av (fun n=>decide (n<k)) v=true→SV.av (fun n=>decide (n<k)) (u++v)=true:=fun u v hu hv=>by
      induction u with
      | nil=>exact hv
      | cons c u ih=>
       simp only [SV.av,Bool.and_eq_true] at hu
       simp only [List.cons_append,SV.av,hu.1,ih hu.2,Bool.and_true]
     exact h3 _ _ (h2 _) h1
    ·have h1:=Hp.cW (q':=fun n=>decide (n<k)) (fun m hm=>by simpa using J' m hm) hX
     have h2:=hB'.ny (Nat.le_refl k)
     unfold Hp.ok at*
     rw [List.all_append,h1,h2];rfl
   ·intro y hy
    have p0:∀ m,m≠n→lk (tT (Ob.v_ n L.length (L.flatMap Dt.ds)) (bS ((a,Ob.arr 31 1 len ((A.map fun x=>dn x.2)++RG.cells ((n,L)::B)))::(X++RG.tl ((n,L)::B))) n)) m=(lk ((a,Ob.arr 31 1 len ((A.map fun x=>dn x.2)++RG.cells ((n,L)::B)))::(X++RG.tl ((n,L)::B))) m).map (Ob.v_ n L.length (L.flatMap Dt.ds)):=fun m hm=>by
     rw [lK,bT,if_neg hm]
    rcases List.mem_cons.1 hy with rfl | hy
    ·show lk _ a=_
     rw [p0 a (hne a ha),aa,if_pos rfl]
     have e3:(gv (n,L)).gp n L.length (L.flatMap Dt.ds)=dn L:=by
      rw [jd hL]
      simp only [SV.gp,if_true]
      cases L with
      | nil=>exact absurd rfl hL
      | cons d L=>rfl
     have e4:RG.cells ((n,L)::B)=gv (n,L)::RG.cells B:=rfl
     simp only [Option.map_some,Ob.v_]
     rw [yA,Hj,e4]
     show some (Ob.arr 31 1 len ((A.map fun x=>dn x.2)++(gv (n,L)).gp n L.length (L.flatMap Dt.ds)::SV.jl n L.length (L.flatMap Dt.ds) (RG.cells B)))=_
     rw [e3,uB hnB]
     simp
    ·rcases List.mem_append.1 hy with hy | hy
     ·have hyq:=hXq y hy
      have hya:y.1≠a:=fun e=>(List.nodup_cons.1 ni).1 (by rw [← e];exact List.mem_map.2 ⟨y,hy,rfl⟩)
      rw [p0 y.1 (hne _ hyq),aa,if_neg hya,di,aH (List.nodup_cons.1 ni).2 y hy]
      have hok:=List.all_eq_true.1 hX y hy
      simp only [Bool.and_eq_true] at hok
      simp only [Option.some_or,Option.map_some]
      rw [Ob.E1 hqn _ hok.2]
     ·obtain ⟨z,hz,hzn,rfl⟩:=RG.kG.1 hy
      have hz1:=hnB z hz hzn
      have hz2:=hqB' z hz hzn
      have hza:z.1≠a:=fun e=>by rw [e,ha] at hz2;cases hz2
      rw [p0 _ hz1,aa,if_neg hza,di,hXl _ hz2,Option.none_or]
      rw [show lk (RG.tl ((n,L)::B)) z.1=some (dY z.2) from hB.yH (List.mem_cons_of_mem _ hz) hzn]
      simp only [Option.map_some,dY,Ob.v_,E2]
end
end
section
attribute [local irreducible] SW RW aG SC aj an
def uY (c:Dt→Nat)(seen:List Dt):Nat:=seen.foldl (fun m v=>max m (c v+1)) 0
theorem E3 (c:Dt→Nat)(seen:List Dt)(v:Dt):uY c (seen++[v])=max (uY c seen) (c v+1):=by unfold uY;rw [List.foldl_append];rfl
theorem qK {c:Dt→Nat}{seen:List Dt}{v:Dt}(h:v∈seen):c v<uY c seen:=by
 have key:∀ (s:List Dt) (m:Nat),m≤s.foldl (fun m v=>max m (c v+1)) m∧∀ v,v∈s→c v<s.foldl (fun m v=>max m (c v+1)) m:=fun s=>by
  induction s with
  | nil=>exact fun m=>⟨Nat.le_refl _,fun v h=>by cases h⟩
  | cons x s ih=>
   intro m
   obtain ⟨h1,h2⟩:=ih (max m (c x+1))
   rw [List.foldl_cons]
   refine ⟨by omega,fun v hv=> ?_⟩
   rcases List.mem_cons.1 hv with rfl | hv
   ·omega
   ·exact h2 v hv
 exact (key seen 0).2 v h
theorem pP {c:Dt→Nat}{seen:List Dt}{b:Nat}(h:∀ v,v∈seen→c v+1≤b):uY c seen≤b:=by
 have key:∀ (s:List Dt) (m:Nat),m≤b→(∀ v,v∈s→c v+1≤b)→s.foldl (fun m v=>max m (c v+1)) m≤b:=fun s=>by
  induction s with
  | nil=>exact fun m hm _=>hm
  | cons x s ih=>
   intro m hm hs
   rw [List.foldl_cons]
   have:=hs x (List.mem_cons_self ..)
   exact ih _ (by omega) fun v hv=>hs v (List.mem_cons_of_mem _ hv)
 exact key seen 0 (Nat.zero_le _) h
theorem Hl {c:Dt→Nat}{s t:List Dt}(h:∀ v,v∈s↔v∈t):uY c s=uY c t:=
 Nat.le_antisymm (pP fun v hv=>qK ((h v).1 hv)) (pP fun v hv=>qK ((h v).2 hv))
structure RI (c:Dt→Nat)(seen:List Dt)(t:Nat)(G:RG):Prop where
 len:G.length=max (uY c seen) t
 row:∀ j x,G[j]? =some x→x.2=seen.filter fun v=>decide (c v=j)
theorem RI.nil (c:Dt→Nat):RI c [] 0 []:=⟨rfl,fun j x h=>by simp at h⟩
theorem RI.grow {c:Dt→Nat}{seen:List Dt}{t:Nat}{G:RG}(h:RI c seen t G){m:Nat}(hm:G.length<m):RI c seen (G.length+1) (G++[(0,[])]):=by
 have hl:=h.len
 refine ⟨by rw [List.length_append,List.length_singleton];omega,fun j x hx=> ?_⟩
 rw [List.getElem?_append] at hx
 split at hx
 ·exact h.row j x hx
 ·rename_i hj
  rw [List.getElem?_singleton] at hx
  split at hx
  ·rename_i e
   injection hx with hx
   subst hx
   symm
   rw [List.filter_eq_nil_iff]
   intro v hv
   have:=qK (c:=c) hv
   simp only [decide_eq_true_eq]
   omega
  ·cases hx
theorem RI.set {c:Dt→Nat}{seen:List Dt}{t:Nat}{G:RG}(h:RI c seen t G){v:Dt}(ht:t≤max (uY c seen) (c v+1))(hv:c v<G.length){n k:Nat}{L:List Dt}(hg:G[c v]? =some (n,L)):RI c (seen++[v]) 0 (G.set (c v) (k,L++[v])):=by
 have hl:=h.len
 refine ⟨by rw [List.length_set,E3];omega,fun j x hx=> ?_⟩
 rw [List.getElem?_set] at hx
 split at hx
 ·rename_i e
  injection hx with hx
  subst hx
  have:=h.row _ _ hg
  dsimp only at this ⊢
  rw [this,List.filter_append,e]
  simp [e]
 ·rename_i e
  rw [h.row j x hx,List.filter_append]
  simp [e]
theorem RI.rows {c:Dt→Nat}{seen:List Dt}{G:RG}(h:RI c seen 0 G):G.map (·.2)=(List.range (uY c seen)).map fun j=>seen.filter fun v=>decide (c v=j):=by
 have hl:=h.len
 apply List.ext_getElem?
 intro j
 rw [List.getElem?_map,List.getElem?_map]
 cases hg:G[j]? with
 | none=>
  have:G.length≤j:=List.getElem?_eq_none_iff.1 hg
  rw [List.getElem?_eq_none (by rw [List.length_range];omega)]
  rfl
 | some x=>
  have:j<G.length:=by
   obtain ⟨h1,_⟩:=List.getElem?_eq_some_iff.1 hg
   exact h1
  rw [List.getElem?_range (by omega)]
  simp [h.row j x hg]
def JB:List Dt→DV
 | []=> .aD
 | d::L=> .sl (d::L).length ((d::L).flatMap Dt.ds)
theorem Lg (L:List Dt):dn L= .d (JB L):=by cases L <;> rfl
def lU (R:List (List Dt)):SV:= .d (.sl R.length (R.map JB))
noncomputable def jA (l:List ag)(v:Dt):Nat:=(oP l (jx l v)).length
noncomputable def pQ (l:List ag):List (List Dt):=(List.range (uY (jA l) (aI l))).map fun j=>(aI l).filter fun v=>decide (jA l v=j)
structure RQ (c:Dt→Nat)(seen:List Dt)(t:Nat)(G:RG)(a kk:Nat):Prop where
 ri:RI c seen t G
 ok:jy G kk
 la:a<kk
 na:∀ x,x∈G→x.2≠[]→x.1≠a
abbrev wX (G:RG)(a:Nat):Hp:=(a,.arr 31 1 G.length (RG.cells G))::RG.tl G
theorem RQ.ny {c:Dt→Nat}{seen:List Dt}{t:Nat}{G:RG}{a kk k:Nat}(h:RQ c seen t G a kk)(hk:kk≤k):(wX G a).ok (fun n=>decide (n<k))=true:=
 au (by have:=h.la;simp;omega) (h.ok.ah hk) (h.ok.ny hk)
theorem RQ.out {c:Dt→Nat}{seen:List Dt}{t:Nat}{G:RG}{a kk n:Nat}(h:RQ c seen t G a kk)(hn:kk≤n):lk (RG.tl G) n=none:=jy.out (kk:=kk) fun x hx hxn e=>by have:=h.ok.bd x hx hxn;omega
theorem RQ.Lh {c:Dt→Nat}{seen:List Dt}{t:Nat}{G:RG}{a kk:Nat}(h:RQ c seen t G a kk):lk (RG.tl G) a=none:=jy.out (kk:=kk) h.na
theorem RQ.grow {c:Dt→Nat}{seen:List Dt}{t:Nat}{G:RG}{a kk m:Nat}(h:RQ c seen t G a kk)(hm:G.length<m):RQ c seen (G.length+1) (G++[(0,[])]) kk (kk+1):=by
 refine ⟨h.ri.grow hm,(h.ok.snoc).more (Nat.le_succ _),Nat.lt_succ_self _,fun x hx hxn=> ?_⟩
 have:=(h.ok.snoc).bd x hx hxn
 omega
theorem RQ.set {c:Dt→Nat}{seen:List Dt}{t:Nat}{G:RG}{a kk:Nat}(h:RQ c seen t G a kk){v:Dt}(ht:t≤max (uY c seen) (c v+1))(hv:c v<G.length){n k:Nat}{L:List Dt}(hg:G[c v]? =some (n,L))(hk:kk≤k):RQ c (seen++[v]) 0 (G.set (c v) (k,L++[v])) a (k+1):=by
 refine ⟨h.ri.set ht hv hg,h.ok.set _ _ _ _ hk (Nat.lt_succ_self _),by have:=h.la;omega,fun x hx hxn=> ?_⟩
 rcases List.mem_or_eq_of_mem_set hx with hx | rfl
 ·exact h.na x hx hxn
 ·have:=h.la;dsimp only;omega
theorem E4 {G:RG}{m n:Nat}{L:List Dt}(h:G[m]? =some (n,L)):(RG.cells G)[m]? =some (gv (n,L)):=by unfold RG.cells;rw [List.getElem?_map,h];rfl
theorem E5 (G:RG)(m:Nat)(x:Nat×List Dt):cR (RG.cells G) m [gv x]=RG.cells (G.set m x):=(RG.BU G m x).symm
theorem uC:∀ {h:Hp} {n:Nat},lk h n=none→bS h n=h
 | [],n,_=>rfl
 | (m,o)::h,n,hn=>by
  rw [aa] at hn
  split at hn
  ·cases hn
  ·rename_i e
   unfold bS
   rw [if_neg (fun hh=>e hh.symm),uC hn]
theorem RQ.HX {c:Dt→Nat}{seen:List Dt}{t:Nat}{G:RG}{a kk:Nat}(h:RQ c seen t G a kk):∀ y,y∈wX G a→lk (wX G a) y.1=some y.2:=fun y hy=>by
 rcases List.mem_cons.1 hy with rfl | hy
 ·rw [aa,if_pos rfl]
 ·obtain ⟨x,hx,hxn,rfl⟩:=RG.kG.1 hy
  rw [aa,if_neg (h.na x hx hxn)]
  exact h.ok.yH hx hxn
theorem RQ.JC {c:Dt→Nat}{seen:List Dt}{t:Nat}{G:RG}{a kk:Nat}(h:RQ c seen t G a kk):∀ y,y∈wX (G++[(0,[])]) kk→lk ((kk,.arr 31 1 (G.length+1) (RG.cells G++[.d .aD]))::RG.tl G:Hp) y.1=some y.2:=fun y hy=>by
 rcases List.mem_cons.1 hy with rfl | hy
 ·rw [aa,if_pos rfl,RG.uA];simp
 ·rw [RG.AR] at hy
  obtain ⟨x,hx,hxn,rfl⟩:=RG.kG.1 hy
  have:=h.ok.bd x hx hxn
  rw [aa,if_neg (by dsimp only;omega)]
  exact h.ok.yH hx hxn
theorem RQ.E6 {c:Dt→Nat}{seen:List Dt}{t:Nat}{G:RG}{a kk m n k:Nat}{L L':List Dt}(h:RQ c seen t G a kk)(hg:G[m]? =some (n,L)){H:Hp}(ha:lk H a=some (.arr 31 1 (G.set m (k,L')).length (RG.cells (G.set m (k,L')))))(hk:lk H k=some (dY L'))
  (ho:∀ x:Nat×List Dt,x∈G→x.2≠[]→x.1<kk→x.1≠a→(L≠[]→x.1≠n)→lk (RG.tl G) x.1=some (dY x.2)→lk H x.1=some (dY x.2)):∀ y,y∈wX (G.set m (k,L')) a→lk H y.1=some y.2:=fun y hy=>by
 rcases List.mem_cons.1 hy with rfl | hy
 ·exact ha
 ·refine RG.HX hk (fun j x hj hx hxn=> ?_) y hy
  have hm:=List.mem_of_getElem? hx
  exact ho x hm hxn (h.ok.bd x hm hxn) (h.na x hm hxn) (fun hL e=>hj (h.ok.inj j m x (n,L) hx hg hxn hL e)) (h.ok.yH hm hxn)
theorem JD (G:RG):(G.map fun x=>dn x.2)=((G.map (·.2)).map JB).map SV.d:=by
 rw [List.map_map,List.map_map]
 exact List.map_congr_left fun x _=>Lg x.2
section
variable {l:List ag} (hl:l.length≤80) (hd:∀ x,x∈l→x.aN<256∧x.nw∧x.dot.wf)
include hl hd
set_option maxHeartbeats 4000000 in
theorem zO:Go.Sl.Pure Tryz.prog ref18_Levels.f [ops l] (lU (pQ l)):=by
 have p0:=oK hl hd
 have hgl:=jQ hl hd
 refine ref18_Levels.enter (by first | rfl | simp [SV.ok,SV.av]) (by first | rfl | simp [Hp.ok,Ob.ok,SV.ok,SV.av,aJ.ah]) (by simp) ?_
 dsimp only [ref18_Levels.s,Co.M,Co.G,Co.J,Co.H,Co.N,Co.F,Co.C,Co.Z,Co.B,Co.b8,Co.ay,Co.bz,Co.i6,Co.z8,Co.bC]
 refine SW.seq ?_
 refine SW.g0 [0,2,3,4,5,6,13,29] mixed af ?_
 refine SW.seq ?_
 refine SW.g1 [0,2,3,4,5,6,13,29] mixed af p0 ?_
 refine SW.seq ?_
 refine SW.g0 [0,2,3,4,5,6,13,29] mixed af ?_
 refine SW.js 4 31 1 rfl ?_
 refine SW.seq (SW.seq ?_)
 refine SW.g0 [0,2,3,4,5,6,13,29] mixed af ?_
 refine SW.block ?_
 have hmem:∀ v,v∈aI l→dZ l v=true:=fun v h=>oJ.1 h
 have hlevR:pQ l=(List.range (uY (jA l) (aI l))).map fun j=>(aI l).filter fun v=>decide (jA l v=j):=rfl
 rw [hlevR]
 have hc9:∀ v,jA l v≤9:=fun v=>nW hl hd _
 have hlev:∀ v,v∈aI l→∀ k,aG Tryz.prog ref18_Level.f [ops l,.agg v.cells] [] k 0 (.cN [.d (.int .i64 ((jA l v:Int) - 1)),bl true]) []:=fun v hv k=>by
  have:=vL hl hd v k
  unfold jf at this
  rw [hmem v hv] at this
  exact this
 generalize aI l=ds at*
 generalize jA l=c at*
 have hmx:∀ s,uY c s≤10:=fun s=>pP fun v _=>by have:=hc9 v;omega
 refine SW.loop (α:={q:Nat×RG×Nat×Nat // q.1≤ds.length∧RQ c (ds.take q.1) 0 q.2.1 q.2.2.1 q.2.2.2}) (fun q=>⟨[(5,i64 q.1.1),(4,.gs q.1.2.2.1 q.1.2.1.length),(3,aU ds),(0,ops l)],wX q.1.2.1 q.1.2.2.1,q.1.2.2.2⟩) (fun q=>ds.length - q.1.1) ⟨(0,[],0,1),Nat.zero_le _,RI.nil c,jy.nil 1,Nat.zero_lt_one,fun x h=>by cases h⟩ id ?_ ?_
 ·exact aK.same (Nat.zero_le _) (by simp [aP,List.lookup,SV.aB,SV.ok,SV.av]) rfl (fun y hy=>by
   simp only [RG.tl,RG.full,List.filter_nil,List.map_nil,List.mem_cons,List.not_mem_nil,or_false] at hy
   subst hy;rfl)
 rintro ⟨⟨i,G,a,kk⟩,hq⟩
 have hq:i≤ds.length∧RQ c (ds.take i) 0 G a kk:=hq
 obtain ⟨p1,p2⟩:=hq
 dsimp only at*
 by_cases h:i<ds.length
 ·obtain ⟨v,hx⟩:=bq h
  have h1:decide ((i:Int)<ds.length)=true:=by simp only [decide_eq_true_eq];omega
  have e2:IntKind.i64.wrap ((i:Int)+1)=((i+1:Nat):Int):=wrap_i64 _ (by omega)
  have hL:=hlev v (List.mem_of_getElem? hx)
  have hm9:=hc9 v
  have htk:ds.take (i+1)=ds.take i++[v]:=bR hx
  obtain ⟨m,hm⟩:∃ m,c v=m:=⟨_,rfl⟩
  rw [hm] at hL hm9
  refine SW.seq (SW.seq ?_)
  refine SW.g0 [0,2,3,4,5,6,13,29] mixed (h1) ?_
  refine SW.ak rfl (SW.skip ?_)
  refine SW.seq (SW.block (SW.seq ?_))
  refine SW.g1 [0,2,3,4,5,6,13,29] mixed (dA hx) hL ?_
  refine SW.seq ?_
  refine SW.block ?_
  refine SW.loop (α:={q:RG×Nat×Nat // ∃ t,t≤m+1∧RQ c (ds.take i) t q.1 q.2.1 q.2.2}) (fun q=>⟨[(6,.d (.int .i64 ((m:Int) - 1))),(5,i64 i),(4,.gs q.1.2.1 q.1.1.length),(3,aU ds),(0,ops l)],wX q.1.1 q.1.2.1,q.1.2.2⟩) (fun q=>m+1 - q.1.1.length) ⟨(G,a,kk),0,Nat.zero_le _,p2⟩ id ?_ ?_
  ·exact aK.same (Nat.zero_le _) (by simp [aP,List.lookup,SV.aB,SV.ok,SV.av];exact p2.la) (p2.ny (Nat.le_refl _)) p2.HX
  rintro ⟨⟨G1,a1,k1⟩,hj⟩
  have hj:∃ t,t≤m+1∧RQ c (ds.take i) t G1 a1 k1:=hj
  obtain ⟨t,ht,p3⟩:=hj
  dsimp only at*
  have w1:IntKind.i64.wrap (((m:Int) - 1)+2)=((m+1:Nat):Int):=by rw [wrap_i64 _ (by omega)];omega
  have w2:IntKind.i64.wrap (((m:Int) - 1)+1)=(m:Int):=by rw [wrap_i64 _ (by omega)];omega
  have la:=p3.la
  have sp1:cR [SV.d .aD] 0 [SV.d .aD]=[SV.d .aD]:=rfl
  have n1:=bt (show k1≠a1 by omega)
  have t0:List.lookup k1 (RG.tl G1)=none:=p3.out (Nat.le_refl _)
  have ta:List.lookup a1 (RG.tl G1)=none:=p3.Lh
  have hd0:bS (RG.tl G1) a1=RG.tl G1:=uC ta
  dsimp only [wX]
  by_cases hj:G1.length<m+1
  ·have j1:decide ((G1.length:Int)<((m+1:Nat):Int))=true:=by simp only [decide_eq_true_eq];omega
   refine SW.seq (SW.seq ?_)
   refine SW.g0 [0,2,3,4,5,6,13,29] mixed (And.intro (w1) (j1)) ?_
   refine SW.ak rfl (SW.skip ?_)
   refine SW.block ?_
   refine SW.g0 [0,2,3,4,5,6,13,29] mixed (And.intro (n1) (And.intro (t0) (And.intro (hd0) (sp1)))) ?_
   refine ⟨⟨(G1++[(0,[])],k1,k1+1),G1.length+1,by omega,p3.grow hj⟩,id,by show m+1 - (G1++[(0,([]:List Dt))]).length<m+1 - G1.length;rw [List.length_append,List.length_singleton];omega,?_⟩
   dsimp only
   refine aK.same (Nat.zero_le _) (by simp [aP,List.lookup,SV.aB,SV.ok,SV.av]) ((p3.grow hj).ny (Nat.le_refl _)) p3.JC
  ·have j1:decide ((G1.length:Int)<((m+1:Nat):Int))=false:=by simp only [decide_eq_false_iff_not];omega
   refine SW.seq (SW.seq ?_)
   refine SW.g0 [0,2,3,4,5,6,13,29] mixed (And.intro (w1) (j1)) ?_
   refine SW.ai rfl (SW.exit ?_)
   refine (?_:Sl.SW _ _ _ _ _ _)
   have hml:m<G1.length:=by omega
   obtain ⟨⟨n,L⟩,hg⟩:=bq hml
   have gc:=E4 hg
   have hrq:=p3.set (v:=v) (by rw [hm];omega) (by rw [hm];exact hml) (by rw [hm];exact hg) (Nat.le_refl k1)
   rw [hm,← htk] at hrq
   have fin:∀ (env:List (Nat×SV)) (hp:Hp) (kz:Nat),(∀ y,y∈wX (G1.set m (k1,L++[v])) a1→lk hp y.1=some y.2)→aP id (k1+1) env [(5,i64 ((i+1:Nat):Int)),(4,.gs a1 (G1.set m (k1,L++[v])).length),(3,aU ds),(0,ops l)]→
     ∃ (j:{q:Nat×RG×Nat×Nat // q.1≤ds.length∧RQ c (ds.take q.1) 0 q.2.1 q.2.2.1 q.2.2.2}) (ρ:Nat→Nat),ds.length - j.1.1<ds.length - i∧aK 0 ⟨env,hp,kz⟩ ⟨[(5,i64 j.1.1),(4,.gs j.1.2.2.1 j.1.2.1.length),(3,aU ds),(0,ops l)],wX j.1.2.1 j.1.2.2.1,j.1.2.2.2⟩ ρ:=fun env hp kz g1 g2=>
    ⟨⟨(i+1,G1.set m (k1,L++[v]),a1,k1+1),by show i+1≤_;omega,hrq⟩,id,by show ds.length - (i+1)<_;omega,aK.same (Nat.zero_le _) g2 (hrq.ny (Nat.le_refl _)) g1⟩
   have gs:=E5 G1 m (k1,L++[v])
   have hlen:(G1.set m (k1,L++[v])).length=G1.length:=List.length_set
   have kZ:m+1≤(RG.cells G1).length:=by rw [RG.ij];exact hml
   have hLl:L.length≤80:=by
    have e:=p3.ri.row m _ hg
    dsimp only at e
    rw [e]
    have h2:=List.length_filter_le (fun v=>decide (c v=m)) (ds.take i)
    have h3:(ds.take i).length≤ds.length:=by rw [List.length_take];omega
    omega
   cases L with
   | nil=>
    have gc:(RG.cells G1)[m]? =some (.d .aD):=gc
    have gs:cR (RG.cells G1) m [SV.gs k1 1]=RG.cells (G1.set m (k1,[v])):=gs
    refine SW.gK [0,2,3,4,5,6,13,29] mixed (And.intro (dA hx) (And.intro (n1) (And.intro (t0) (And.intro (ta) (And.intro (w2) (And.intro (gc) (And.intro (gs) (And.intro (Int.toNat_natCast) (Nat.mul_one))))))))) n1 True.intro ?_
    refine SW.g0 [0,2,3,4,5,6,13,29] mixed (e2) ?_
    refine fin _ _ _ (p3.E6 hg ?_ ?_ fun x hx hxn h1 h2 h3 h4=> ?_) (by simp [aP,List.lookup,SV.aB,SV.ok,SV.av,hlen];omega)
    ·simp [aa,n1]
    ·simp [aa,n1,dY]
    ·rw [aa,if_neg (by omega),aa,if_neg h2];exact h4
   | cons d0 L0=>
    obtain ⟨L,hLe⟩:∃ L,d0::L0=L:=⟨_,rfl⟩
    have hLn:L≠[]:=by rw [← hLe];simp
    rw [hLe] at gc gs hrq fin hlen hLl hg
    rw [jd hLn] at gc
    rw [jd (show L++[v]≠[] by simp),show (L++[v]).length=L.length+1 by simp] at gs
    have hmx:=List.mem_of_getElem? hg
    have hnb:=p3.ok.bd _ hmx hLn
    have hna:=p3.na _ hmx hLn
    dsimp only at hnb hna
    have n2:=bt hna
    have n3:=bt (show n≠k1 by omega)
    have t3:List.lookup n (RG.tl G1)=some (.arr 37 2 L.length ((L.flatMap Dt.ds).map .d)):=p3.ok.yH hmx hLn
    have t4:List.lookup k1 (bS (RG.tl G1) n)=none:=by
     show lk (bS (RG.tl G1) n) k1=none
     rw [bT,if_neg (by omega)];exact t0
    refine SW.gK [0,2,3,4,5,6,13,29] mixed (And.intro (dA hx) (And.intro (n1) (And.intro (n2) (And.intro (n3) (And.intro (t0) (And.intro (ta) (And.intro (t3) (And.intro (t4) (And.intro (w2) (And.intro (gc) (And.intro (gs) (And.intro (Int.toNat_natCast) (Nat.mul_one))))))))))))) (And.intro n1 (And.intro n2 n3)) True.intro ?_
    refine SW.g0 [0,2,3,4,5,6,13,29] mixed (e2) ?_
    refine fin _ _ _ (p3.E6 hg ?_ ?_ fun x hx hxn h1 h2 h3 h4=> ?_) (by simp [aP,List.lookup,SV.aB,SV.ok,SV.av,hlen];omega)
    ·simp [aa,n1]
    ·simp [aa,n1,dY,Dt.jr]
    ·rw [aa,if_neg (by omega),aa,if_neg h2,bT,if_neg (h3 hLn)];exact h4
 ·have h1:decide ((i:Int)<ds.length)=false:=by simp only [decide_eq_false_iff_not];omega
  have hi2:i=ds.length:=by omega
  subst hi2
  rw [List.take_length] at p2
  refine SW.seq (SW.seq ?_)
  refine SW.g0 [0,2,3,4,5,6,13,29] mixed (h1) ?_
  refine SW.ai rfl (SW.exit ?_)
  refine (?_:Sl.SW _ _ _ _ _ _)
  have la:=p2.la
  refine SW.weak id (st1:=⟨[(4,.gs a G.length)],wX G a,kk⟩) (aK.same (Nat.zero_le _) (by simp [aP,List.lookup,SV.aB,SV.ok,SV.av];omega) (p2.ny (Nat.le_refl _)) p2.HX) ?_
  refine SW.Lf (X:=[]) (fun n=>decide (n=a)) (fun n hn=>by have:=of_decide_eq_true hn;omega) (Nat.zero_le _) (by simp) rfl (by simp) (by simp [SV.ok]) (by simp) G [] p2.ok (fun x hx hxn=>decide_eq_false (p2.na x hx hxn)) ?_
  have hR:=p2.ri.rows
  refine SW.freeze a ((G.map (·.2)).map JB) (show lk _ a=some (.arr 31 1 G.length (G.map fun x=>dn x.2)) by rw [aa,if_pos rfl];rfl) (JD G) ?_
  simp only [iP,SV.gp,List.map_cons,List.map_nil,if_true,if_false,reduceIte,bS,Nat.reduceEqDiff]
  refine SW.seq ?_
  refine SW.g0 [0,2,3,4,5,6,13,29] mixed af ?_
  refine SW.ret ?_
  exact End.mk [] (h4:=⟨by rw [← hR];simp [lU,ej],rfl⟩)
end
end
section
attribute [local irreducible] SW RW aG SC aj an
def B8 (L:List Dt):DV:= .sl L.length (L.flatMap Dt.ds)
def fK (R:List (List Dt)):SV:= .d (.sl R.length (R.map fun L=>B8 (Dt.set L)))
theorem Ho (n:Nat)(ds:List DV):Go.Sl.Pure Tryz.prog slices_Clip_LLapi_Dot_Lapi_Dot.f [.d (.sl n ds)] (.d (.sl n ds)):=by
 refine slices_Clip_LLapi_Dot_Lapi_Dot.enter (by first | rfl | simp [SV.ok,SV.av]) (by first | rfl | simp [Hp.ok,Ob.ok,SV.ok,SV.av,aJ.ah]) (by simp) ?_
 dsimp only [slices_Clip_LLapi_Dot_Lapi_Dot.s,Co.M,Co.G,Co.J,Co.H,Co.N,Co.F,Co.C,Co.Z,Co.B,Co.b8,Co.ay,Co.bz,Co.i6,Co.z8,Co.bC]
 (repeat (first | refine SW.seq ?_ | refine SW.block ?_ | refine SW.g0 [0,2] mixed af ?_ | refine SW.skip ?_ | refine SW.exit ?_ | refine SW.ret ?_ | refine SW.ak rfl ?_ | refine SW.ai rfl ?_))
 exact End.mk [] (h4:=⟨rfl,rfl⟩)
theorem Hq (n:Nat)(ds:List DV)(k:Nat):aG Tryz.prog slices_Clip_LLapi_Dot_Lapi_Dot.f [.d (.sl n ds)] [] k 0 (.d (.sl n ds)) []:=(Ho n ds).sc rfl k
def Ix.nY (X:Ix)(d:Dt):Nat:=(X.kI d).length
def Ix.pQ (X:Ix):List (List Dt):=(List.range (uY X.nY (MM.keys X.ops))).map fun j=>(MM.keys X.ops).filter fun v=>decide (X.nY v=j)
theorem vM {c:Dt→Nat}{s t:List Dt}(h:∀ v,v∈s↔v∈t):fK ((List.range (uY c s)).map fun j=>s.filter fun v=>decide (c v=j))=fK ((List.range (uY c t)).map fun j=>t.filter fun v=>decide (c v=j)):=by
 unfold fK
 rw [Hl h,List.map_map,List.map_map]
 simp only [List.length_map,List.length_range]
 congr 2
 refine List.map_congr_left fun j _=> ?_
 show B8 (Dt.set _)=B8 (Dt.set _)
 exact congrArg B8 (Dt.oI fun v=>by rw [List.mem_filter,List.mem_filter,h v])
def RG.hi (G:RG):Prop:=∀ x,x∈G→x.2≠[]→6≤x.1
structure LI (X:Ix)(xs:MM Dt ag)(G:RG)(a kk:Nat):Prop where
 sub:∀ x,x∈xs→x∈X.ops
 nd:(xs.map (·.1)).Nodup
 len:xs.length≤X.ops.length
 rq:RQ X.nY (xs.map (·.2.1)) 0 G a kk
 lo:a=4∨6≤a
 hi:G.hi
 k6:6≤kk
 le:kk≤6+2*xs.length+G.length
def vN:Nat:=3000
theorem RG.JE:RG.hi []:=fun x h=>by cases h
theorem LI.sep {X:Ix}{xs:MM Dt ag}{G:RG}{a kk:Nat}(h:LI X xs G a kk):(a≠0∧a≠1∧a≠2∧a≠3)∧a≠5:=by have:=h.lo;omega
abbrev LZ (X:Ix)(seen:List Nat)(G:RG)(a:Nat):Hp:=(5,.iter (some 1) X.co seen X.co)::(0,.box 110 [.any,.mp 1,.mp 2,.mp 3])::(1,.map (aq Dt.cells ov X.ops) X.co)::(2,.map (aq Dt.cells dn X.ch) X.cc)::(3,.map (aq Dt.cells dn X.jP) X.cf)::wX G a
theorem E7 {X:Ix}{seen:List Nat}{G:RG}{a k:Nat}(hk:6≤k)(h:(wX G a).ok (fun n=>decide (n<k))=true):(LZ X seen G a).ok (fun n=>decide (n<k))=true:=
 au (by simp;omega) (AM _ _ _ _ _ (by simp;omega)) (au (by simp;omega) (by simp [Ob.ok,SV.av,SV.ok];omega) (au (by simp;omega) (bu _ _) (au (by simp;omega) (dH _ _) (au (by simp;omega) (dH _ _) h))))
theorem Ic {X:Ix}{seen:List Nat}{G:RG}{a:Nat}{H:Hp}(hl:a=4∨6≤a)(hi:G.hi)(h0:∀ n,n∈[5,0,1,2,3]→lk H n=lk (LZ X seen [] a) n)(h:∀ y,y∈wX G a→lk H y.1=some y.2):∀ y,y∈LZ X seen G a→lk H y.1=some y.2:=fun y hy=>by
 simp only [List.mem_cons] at hy
 rcases hy with rfl | rfl | rfl | rfl | rfl | hy
 ·exact (h0 5 (by decide)).trans rfl
 ·exact (h0 0 (by decide)).trans rfl
 ·exact (h0 1 (by decide)).trans rfl
 ·exact (h0 2 (by decide)).trans rfl
 ·exact (h0 3 (by decide)).trans rfl
 ·exact h y (List.mem_cons.2 hy)
theorem RQ.Ms {X:Ix}{sn:List Nat}{c:Dt→Nat}{seen:List Dt}{t:Nat}{G:RG}{a kk:Nat}(h:RQ c seen t G a kk)(hl:a=4∨6≤a)(hi:G.hi):∀ y,y∈wX G a→lk (LZ X sn G a) y.1=some y.2:=fun y hy=>by
 have hy1:y.1=a∨6≤y.1:=by
  rcases List.mem_cons.1 hy with rfl | hy
  ·exact .inl rfl
  ·obtain ⟨x,hx,hxn,rfl⟩:=RG.kG.1 hy
   exact .inr (hi x hx hxn)
 have hz:y.1≠5∧y.1≠0∧y.1≠1∧y.1≠2∧y.1≠3:=by omega
 rw [aa,if_neg hz.1,aa,if_neg hz.2.1,aa,if_neg hz.2.2.1,aa,if_neg hz.2.2.2.1,aa,if_neg hz.2.2.2.2]
 exact h.HX y hy
structure LJ (X:Ix)(seen:List Dt)(G0:RG)(kk m:Nat)(G:RG)(a k:Nat):Prop where
 rq:∃ t,t≤m+1∧RQ X.nY seen t G a k
 lo:a=4∨6≤a
 hi:G.hi
 na:a≠kk
 nr:∀ x,x∈G→x.2≠[]→x.1<kk
 kl:kk+1≤k
 ku:k+G0.length≤kk+1+G.length
theorem LJ.grow {X:Ix}{seen:List Dt}{G0:RG}{kk m:Nat}{G:RG}{a k:Nat}(h:LJ X seen G0 kk m G a k)(hm:G.length<m+1)(h6:6≤kk):LJ X seen G0 kk m (G++[(0,[])]) k (k+1):=by
 obtain ⟨t,ht,hr⟩:=h.rq
 have h1:=h.kl
 have h2:=h.ku
 have hmem:∀ x:Nat×List Dt,x∈G++[(0,([]:List Dt))]→x.2≠[]→x∈G:=fun x hx hxn=>by
  rcases List.mem_append.1 hx with hx | hx
  ·exact hx
  ·rw [List.mem_singleton] at hx;subst hx;exact absurd rfl hxn
 exact ⟨⟨_,by omega,hr.grow hm⟩,.inr (by omega),fun x hx hxn=>h.hi x (hmem x hx hxn) hxn,by omega,fun x hx hxn=>h.nr x (hmem x hx hxn) hxn,by omega,by rw [List.length_append,List.length_singleton];omega⟩
abbrev LB (X:Ix)(seen:List Nat)(d:Dt)(kk:Nat)(G:RG)(a:Nat):Hp:=(kk,.box 37 d.cells)::LZ X seen G a
theorem LJ.Mt {X:Ix}{seen:List Dt}{sn:List Nat}{G0:RG}{kk m:Nat}{G:RG}{a k:Nat}{d:Dt}(h:LJ X seen G0 kk m G a k)(h6:6≤kk):∀ y,y∈LB X sn d kk G a→lk (LB X sn d kk G a) y.1=some y.2:=fun y hy=>by
 obtain ⟨t,ht,hr⟩:=h.rq
 rcases List.mem_cons.1 hy with rfl | hy
 ·rw [aa,if_pos rfl]
 ·have hy1:y.1≠kk:=by
   simp only [LZ,wX,List.mem_cons] at hy
   rcases hy with rfl | rfl | rfl | rfl | rfl | rfl | hy
   ·show 5≠kk;omega
   ·show 0≠kk;omega
   ·show 1≠kk;omega
   ·show 2≠kk;omega
   ·show 3≠kk;omega
   ·exact h.na
   ·obtain ⟨x,hx,hxn,rfl⟩:=RG.kG.1 hy
    have:=h.nr x hx hxn
    show x.1≠kk;omega
  rw [aa,if_neg hy1]
  exact Ic h.lo h.hi (fun n hn=>by
   simp only [List.mem_cons,List.not_mem_nil,or_false] at hn
   rcases hn with rfl | rfl | rfl | rfl | rfl <;> rfl) (hr.Ms h.lo h.hi) y hy
theorem LJ.okB {X:Ix}{seen:List Dt}{sn:List Nat}{G0:RG}{kk m:Nat}{G:RG}{a k:Nat}{d:Dt}(h:LJ X seen G0 kk m G a k)(h6:6≤kk):(LB X sn d kk G a).ok (fun n=>decide (n<k))=true:=by
 obtain ⟨t,ht,hr⟩:=h.rq
 have:=h.kl
 exact au (by simp;omega) (by simp [Ob.ok,Dt.ah]) (E7 (by omega) (hr.ny (Nat.le_refl _)))
theorem Ie {X:Ix}{sn:List Nat}{G:RG}{a:Nat}{H:Hp}(h5:lk H 5=some (.iter (some 1) X.co sn X.co))(h0:lk H 0=some (.box 110 [.any,.mp 1,.mp 2,.mp 3]))(h1:lk H 1=some (.map (aq Dt.cells ov X.ops) X.co))(h2:lk H 2=some (.map (aq Dt.cells dn X.ch) X.cc))(h3:lk H 3=some (.map (aq Dt.cells dn X.jP) X.cf))
  (h:∀ y,y∈wX G a→lk H y.1=some y.2):∀ y,y∈LZ X sn G a→lk H y.1=some y.2:=fun y hy=>by
 simp only [List.mem_cons] at hy
 rcases hy with rfl | rfl | rfl | rfl | rfl | hy
 ·exact h5
 ·exact h0
 ·exact h1
 ·exact h2
 ·exact h3
 ·exact h y (List.mem_cons.2 hy)
set_option maxHeartbeats 16000000 in
theorem E8 (X:Ix)(hX:X.small)(h9:∀ d,X.nY d≤9):SB Tryz.prog revoke_Index_Levels.f [.ptr 0 0] X.h0 4 vN fun r F=>r=fK X.pQ∧F=X.h0:=by
  refine revoke_Index_Levels.enter (by simp [SV.av,SV.ok]) (X.sB (Nat.le_refl 4)) (by simp) ?_
  dsimp only [revoke_Index_Levels.s,Co.M,Co.G,Co.J,Co.H,Co.N,Co.F,Co.C,Co.Z,Co.B,Co.b8,Co.ay,Co.bz,Co.i6,Co.z8,Co.bC]
  have hn:=sO X
  refine SW.seq ?_
  refine SW.g0 [0,2,3,4,5,6,8,13,15,28,43,44,45] mixed af ?_
  refine SW.seq (SW.seq ?_)
  refine SW.g1 [0,2,3,4,5,6,8,13,15,28,43,44,45] mixed af hn ?_
  refine SW.ai rfl (SW.skip ?_)
  refine SW.seq ?_
  refine SW.g0 [0,2,3,4,5,6,8,13,15,28,43,44,45] mixed af ?_
  refine SW.js 3 31 1 rfl ?_
  refine SW.seq (SW.seq ?_)
  refine SW.g0 [0,2,3,4,5,6,8,13,15,28,43,44,45] mixed af ?_
  refine SW.block ?_
  have hmx:∀ s,uY X.nY s≤10:=fun s=>pP fun v _=>by have:=h9 v;omega
  refine SW.ou (es:=fun _=>aq Dt.cells ov X.ops) (c:=fun _=>X.co) (sI:=fun _=>5) (nm:=fun _=>1) (since:=fun _=>X.co) (zc:=fun _=>X.co)
    (α:={p:MM Dt ag×RG×Nat×Nat // LI X p.1 p.2.1 p.2.2.1 p.2.2.2})
    (fun p=>⟨[(13,.it 5),(3,.gs p.1.2.2.1 p.1.2.1.length),(0,.ptr 0 0)],LZ X (p.1.1.map (·.1)) p.1.2.1 p.1.2.2.1,p.1.2.2.2⟩)
    (fun p=>gu (aq Dt.cells ov X.ops) (p.1.1.map (·.1))) ⟨([],[],4,6),⟨by simp,by simp,Nat.zero_le _,⟨RI.nil _,jy.nil 6,by decide,fun x h=>by cases h⟩,.inl rfl,RG.JE,by decide,by decide⟩⟩ id (seen:=fun p=>p.1.1.map (·.1)) ?_ (fun p=>by simp [List.lookup]) (fun p=>by simp [aa]) (fun p=>by simp [aa]) (fun p=>by decide) (fun p e' he=> ?_) (fun p=>Nat.le_refl _) (fun p hall=> ?_) (fun p e' he hs=> ?_)
  · refine aK.same (by show 4≤6;decide) (by simp [aP,List.lookup,SV.aB,SV.ok,SV.av]) (E7 (by show 6≤6;decide) rfl) (fun y hy=> ?_)
    simp only [RG.tl,RG.full,List.filter_nil,List.map_nil,List.mem_cons,List.not_mem_nil,or_false] at hy
    rcases hy with rfl | rfl | rfl | rfl | rfl | rfl <;> rfl
  · obtain ⟨x,hx,rfl⟩:=dX he
    exact hX.wo.old x hx
  · obtain ⟨⟨xs,G,a,kk⟩,p⟩:=p
    have p:LI X xs G a kk:=p
    dsimp only at*
    have hxs:=qu hX.wo p.sub hall
    obtain ⟨sa,s5⟩:=p.sep
    have hla:=p.rq.la
    have fa:=pN sa
    have hnk:vN=3000:=rfl
    have hk1:kk≤4+vN:=by
      have h1:=p.le
      have h2:=p.len
      have h3:=hX.op
      have h4:=p.rq.ri.len
      have h5:=hmx (xs.map (·.2.1))
      rw [hnk]
      omega
    have hord:∀ y,y∈(a,Ob.arr 31 1 G.length (RG.cells G))::(X.h0++RG.tl G)→lk (LZ X (xs.map (·.1)) G a) y.1=some y.2:=fun y hy=>by
      refine Ic p.lo p.hi (fun n hn=>by
        simp only [List.mem_cons,List.not_mem_nil,or_false] at hn
        rcases hn with rfl | rfl | rfl | rfl | rfl <;> rfl) (p.rq.Ms p.lo p.hi) y ?_
      simp only [List.mem_cons,List.mem_append,List.not_mem_nil,or_false] at hy ⊢
      rcases hy with hy | (hy | hy | hy | hy) | hy <;> simp [hy]
    have hok1:Hp.ok (fun n=>decide (n<4+vN)) ((a,Ob.arr 31 1 G.length (RG.cells G))::(X.h0++RG.tl G))=true:=au (by simp;omega) (p.rq.ok.ah hk1) (wP (X.sB (by omega)) (p.rq.ok.ny hk1))
    refine ⟨⟨[(3,.gs a G.length)],(a,.arr 31 1 G.length (RG.cells G))::(X.h0++RG.tl G),4+vN⟩,id,aK.same (by show 4≤4+vN;omega) (by simp [aP,List.lookup,SV.aB,SV.ok,SV.av];omega) hok1 hord,?_⟩
    rw [if_pos rfl]
    refine SW.Lf (X:=X.h0) (fun n=>decide (n<4) || decide (n=a)) (fun n hn=>by simp only [Bool.or_eq_true,decide_eq_true_eq] at hn;omega) (by omega) (by simp) (Hp.cW (fun n hn=>by simp only [Bool.or_eq_true];exact .inl hn) (X.sB (Nat.le_refl 4))) (by simp;omega) (by simp [SV.ok]) (by simp) G [] (p.rq.ok.more hk1) (fun x hx hxn=> ?_) ?_
    · have h1:=p.hi x hx hxn
      have h2:=p.rq.na x hx hxn
      simp only [Bool.or_eq_false_iff,decide_eq_false_iff_not]
      omega
    have hR:=p.rq.ri.rows
    have hRl:G.length≤10:=by have h4:=p.rq.ri.len;have h5:=hmx (xs.map (·.2.1));omega
    have hrl:∀ L,L∈G.map (·.2)→L.length<1000000000:=fun L hL=>by
      rw [hR] at hL
      obtain ⟨j,_,rfl⟩:=List.mem_map.1 hL
      have h2:=List.length_filter_le (fun v=>decide (X.nY v=j)) (xs.map (·.2.1))
      have h3:=p.len
      have h4:=hX.op
      rw [List.length_map] at h2
      omega
    have hkeys:∀ v,v∈xs.map (·.2.1)↔v∈MM.keys X.ops:=fun v=>by
      unfold MM.keys
      simp only [List.mem_map,hxs]
    have hres:fK (G.map (·.2))=fK X.pQ:=by rw [hR];exact vM hkeys
    rw [← hres]
    have eG:(G.map fun x=>dn x.2)=(G.map (·.2)).map dn:=by rw [List.map_map];rfl
    show Sl.SW _ _ _ _ ⟨[(3,.gs a G.length)],(a,.arr 31 1 G.length (G.map fun x=>dn x.2))::X.h0,4+vN⟩ _
    rw [eG,show G.length=(G.map (·.2)).length by simp]
    rw [show G.length=(G.map (·.2)).length by simp] at hRl
    clear hord hok1 hR hres hkeys eG hxs
    generalize G.map (·.2)=R at*
    have hl0:Go.Sl.lk ((a,Ob.arr 31 1 R.length (R.map dn))::X.h0) a=some (.arr 31 1 R.length (R.map dn)):=by rw [aa,if_pos rfl]
    have hokC:∀ (C:List SV),SV.av (fun n=>decide (n<4+vN)) C=true→Hp.ok (fun n=>decide (n<4+vN)) ((a,Ob.arr 31 1 R.length C)::X.h0)=true:=fun C hC=>au (by simp;omega) hC (X.sB (by omega))
    have hlkC:∀ (C:List SV),∀ y,y∈(a,Ob.arr 31 1 R.length C)::X.h0→lk ((a,Ob.arr 31 1 R.length C)::X.h0) y.1=some y.2:=fun C y hy=>by
      simp only [List.mem_cons,List.not_mem_nil,or_false] at hy
      rcases hy with rfl | rfl | rfl | rfl | rfl <;> simp [aa,fa]
    have hokD:∀ i,SV.av (fun n=>decide (n<4+vN)) ((R.take i).map (fun L=>aU (Dt.set L))++(R.drop i).map dn)=true:=fun i=>by
      rw [SV.j3]
      have k1:∀ (T:List (List Dt)),SV.av (fun n=>decide (n<4+vN)) (T.map (fun L=>aU (Dt.set L)))=true:=fun T=>by
        induction T with
        | nil=>rfl
        | cons x T ih=>simp only [List.map_cons,SV.av,ih,Bool.and_true];rfl
      have k2:∀ (T:List (List Dt)),SV.av (fun n=>decide (n<4+vN)) (T.map dn)=true:=fun T=>by
        induction T with
        | nil=>rfl
        | cons x T ih=>simp only [List.map_cons,SV.av,ih,yt,Bool.and_true]
      rw [k1,k2];rfl
    refine SW.seq (SW.seq ?_)
    refine SW.g0 [0,2,3,4,5,6,8,13,15,28,43,44,45] mixed af ?_
    refine SW.block ?_
    refine SW.loop (α:={i:Nat // i≤R.length}) (fun i=>⟨[(44,i64 i.1),(43,i64 R.length),(3,.gs a R.length)],(a,.arr 31 1 R.length ((R.take i.1).map (fun L=>aU (Dt.set L))++(R.drop i.1).map dn))::X.h0,4+vN⟩) (fun i=>R.length - i.1) ⟨0,Nat.zero_le _⟩ id (aK.same (by show 4≤4+vN;omega) (by simp [aP,List.lookup,SV.aB,SV.ok,SV.av];omega) (hokC _ (hokD 0)) (hlkC _)) ?_
    rintro ⟨i,hi⟩
    have hokC2:=hokC _ (hokD (i+1))
    have hlkC2:=hlkC ((R.take (i+1)).map (fun L=>aU (Dt.set L))++(R.drop (i+1)).map dn)
    dsimp only
    by_cases h:i<R.length
    · obtain ⟨L,hx⟩:=bq h
      have h1:decide ((i:Int)<R.length)=true:=by simp only [decide_eq_true_eq];omega
      have e2:IntKind.i64.wrap ((i:Int)+1)=((i+1:Nat):Int):=wrap_i64 _ (by omega)
      have cS:=yy L (hrl L (List.mem_of_getElem? hx))
      have hdr:R.drop i=L::R.drop (i+1):=uq hx
      have htl:((R.take i).map fun L=>aU (Dt.set L)).length=i:=by rw [List.length_map,List.length_take];omega
      have gc:((R.take i).map (fun L=>aU (Dt.set L))++(R.drop i).map dn)[i]? =some (dn L):=by rw [List.getElem?_append_right (by omega),htl,hdr,Nat.sub_self];rfl
      have hC':(R.take (i+1)).map (fun L=>aU (Dt.set L))++(R.drop (i+1)).map dn=(R.take i).map (fun L=>aU (Dt.set L))++(aU (Dt.set L)::(R.drop (i+1)).map dn):=by rw [bR hx,List.map_append];simp
      have gs:cR ((R.take i).map (fun L=>aU (Dt.set L))++(R.drop i).map dn) i [aU (Dt.set L)]=(R.take (i+1)).map (fun L=>aU (Dt.set L))++(R.drop (i+1)).map dn:=by
        rw [hC',FL,hdr,List.map_cons,List.set_append_right _ _ (by omega),htl,Nat.sub_self];rfl
      have kZ:i+1≤((R.take i).map (fun L=>aU (Dt.set L))++(R.drop i).map dn).length:=by rw [List.length_append,htl,hdr];simp
      clear hC' hdr htl
      generalize (R.take i).map (fun L=>aU (Dt.set L))++(R.drop i).map dn=C at*
      generalize hCC:(R.take (i+1)).map (fun L=>aU (Dt.set L))++(R.drop (i+1)).map dn=C' at*
      refine SW.seq ?_
      refine SW.g0 [0,2,3,4,5,6,8,13,15,28,43,44,45] mixed (h1) ?_
      refine SW.seq (SW.ak rfl (SW.skip ?_))
      refine SW.seq (SW.block (SW.seq ?_))
      refine SW.g0 [0,2,3,4,5,6,8,13,15,28,43,44,45] mixed af ?_
      refine SW.g1 [0,2,3,4,5,6,8,13,15,28,43,44,45] mixed (And.intro (fa) (And.intro (gc) (And.intro (gs) (And.intro (Int.toNat_natCast) (Nat.mul_one))))) cS ?_
      refine SW.g0 [0,2,3,4,5,6,8,13,15,28,43,44,45] mixed (e2) ?_
      refine ⟨⟨i+1,by omega⟩,id,by show R.length - (i+1)<R.length - i;omega,?_⟩
      dsimp only
      rw [hCC]
      exact aK.same (by show 4≤4+vN;omega) (by simp [aP,List.lookup,SV.aB,SV.ok,SV.av];omega) hokC2 hlkC2
    · have h1:decide ((i:Int)<R.length)=false:=by simp only [decide_eq_false_iff_not];omega
      have hi2:i=R.length:=by omega
      subst hi2
      rw [List.take_length,List.drop_length,List.map_nil,List.append_nil]
      refine SW.seq ?_
      refine SW.g0 [0,2,3,4,5,6,8,13,15,28,43,44,45] mixed (h1) ?_
      refine SW.seq (SW.ai rfl (SW.exit ?_))
      refine (?_:Sl.SW _ _ _ _ _ _)
      have eD:(R.map fun L=>aU (Dt.set L))=(R.map fun L=>B8 (Dt.set L)).map SV.d:=by rw [List.map_map];rfl
      refine SW.freeze a (R.map fun L=>B8 (Dt.set L)) (show lk _ a=some (.arr 31 1 R.length (R.map fun L=>aU (Dt.set L))) by rw [aa,if_pos rfl]) eD ?_
      have hh:bS ((a,Ob.arr 31 1 R.length (R.map fun L=>aU (Dt.set L)))::X.h0) a=X.h0:=by
        simp [bS,fa]
      rw [hh]
      refine SW.weak id (st1:=⟨[(3,fK R)],X.h0,4+vN⟩) (aK.same (by show 4≤4+vN;omega) (by simp [aP,iP,SV.gp,fK,List.lookup,SV.aB,SV.ok,SV.av]) (X.sB (by show 4≤4+vN;omega)) (fun y hy=> ?_)) ?_
      · simp only [List.mem_cons,List.not_mem_nil,or_false] at hy
        rcases hy with rfl | rfl | rfl | rfl <;> rfl
      refine SW.seq ?_
      have cC:=Hq R.length (R.map fun L=>B8 (Dt.set L))
      change ∀ k,aG Tryz.prog slices_Clip_LLapi_Dot_Lapi_Dot.f [fK R] [] k 0 (fK R) [] at cC
      refine SW.g1 [0,2,3,4,5,6,8,13,15,28,43,44,45] mixed af cC ?_
      refine SW.ret ?_
      exact End.mk X.h0 (h3:=fun _ _ h=>h) (h4:=⟨rfl,rfl⟩) (h6:=X.sB (by omega)) (h7:=Nat.le_refl _)
  · obtain ⟨⟨xs,G,a,kk⟩,p⟩:=p
    have p:LI X xs G a kk:=p
    dsimp only at*
    obtain ⟨x,hx,rfl⟩:=dX he
    dsimp only at hs
    have g5:(xs.map (·.1)++[x.1]).getLast? =some x.1:=by simp
    have g6:=jM (kc:=Dt.cells) (vs:=ov) hX.wo.times hx
    have eov:∀ o,ov o= .agg o.cells:=fun _=>rfl
    obtain ⟨q1,q2,_⟩:=oE p.sub p.nd hx hs
    have em:(xs++[x]).map (·.1)=xs.map (·.1)++[x.1]:=by simp
    have hm:=jN he hs
    obtain ⟨d,hd⟩:∃ d,x.2.1=d:=⟨_,rfl⟩
    have hkq:=p.k6
    obtain ⟨sa,s5⟩:=p.sep
    have fa:=pN sa
    have fa5:=bt s5
    have z0:=pN (k:=kk) ⟨by omega,by omega,by omega,by omega⟩
    have z5:=bt (show kk≠5 by omega)
    have za:=bt (show kk≠a by have:=p.rq.la;omega)
    have g2:List.lookup kk (RG.tl G)=none:=p.rq.out (Nat.le_refl _)
    rw [iV]
    dsimp only [wX]
    refine SW.block (SW.seq ?_)
    refine SW.g0 [0,2,3,4,5,6,8,13,15,28,43,44,45] mixed (And.intro (g5) (And.intro (g6) (And.intro (eov) (And.intro (hd) (And.intro (fa) (And.intro (fa5) (And.intro (z0) (And.intro (z5) (And.intro (za) (g2)))))))))) ?_
    obtain ⟨m,xb⟩:∃ m,X.nY d=m:=⟨_,rfl⟩
    have hm9:=h9 d
    rw [xb] at hm9
    refine SW.seq ?_
    have hlk:=qA X.ch d
    change eW _ _ _=dn (X.kI d) at hlk
    have hJ0:LJ X (xs.map (·.2.1)) G kk m G a (kk+1):=⟨⟨0,Nat.zero_le _,⟨p.rq.ri,p.rq.ok.more (Nat.le_succ _),by have:=p.rq.la;omega,p.rq.na⟩⟩,p.lo,p.hi,by have:=p.rq.la;omega,p.rq.ok.bd,Nat.le_refl _,by omega⟩
    apply later
    · intro late
      have hcm':(X.kI d).length=m:=xb
      have hw:=fun (env:List (Nat×SV)) (kz:Nat) (he:aP id (kk+1) env [(5,i64 m),(4,.ptr kk 0),(13,.it 5),(3,.gs a G.length),(0,.ptr 0 0)])=>aK.same (k0:=4) (st:=⟨env,LB X (xs.map (·.1)++[x.1]) d kk G a,kz⟩) (st1:=⟨[(5,i64 m),(4,.ptr kk 0),(13,.it 5),(3,.gs a G.length),(0,.ptr 0 0)],LB X (xs.map (·.1)++[x.1]) d kk G a,kk+1⟩) (by show 4≤kk+1;omega) he (hJ0.okB hkq) (hJ0.Mt hkq)
      rcases hLc:X.kI d with _ | ⟨c,L'⟩
      · have hlk0:eW (aq Dt.cells dn X.ch) (.d .aD) (MM.idx X.ch d)= .d .aD:=by rw [hlk,hLc];rfl
        refine SW.gK [0,2,3,4,5,6,8,13,15,28,43,44,45] mixed (And.intro (hlk0) (And.intro (fa) (And.intro (fa5) (And.intro (z0) (And.intro (z5) (And.intro (za) (g2))))))) (And.intro z0 (And.intro z5 (And.intro za (And.intro fa fa5)))) True.intro ?_
        rw [hLc] at hcm'
        exact SW.weak id (hw _ _ (by rw [← hcm'];simp [aP,List.lookup,SV.aB,SV.ok,SV.av];have:=p.rq.la;omega)) late.c
      · have hlk0:eW (aq Dt.cells dn X.ch) (.d .aD) (MM.idx X.ch d)=aU (c::L'):=by rw [hlk,hLc];rfl
        refine SW.gK [0,2,3,4,5,6,8,13,15,28,43,44,45] mixed (And.intro (hlk0) (And.intro (fa) (And.intro (fa5) (And.intro (z0) (And.intro (z5) (And.intro (za) (g2))))))) (And.intro z0 (And.intro z5 (And.intro za (And.intro fa fa5)))) True.intro ?_
        rw [hLc] at hcm'
        exact SW.weak id (hw _ _ (by rw [← hcm'];simp [aP,List.lookup,SV.aB,SV.ok,SV.av];have:=p.rq.la;omega)) late.c
    refine SW.seq ?_
    refine SW.block ?_
    refine SW.loop (α:={q:RG×Nat×Nat // LJ X (xs.map (·.2.1)) G kk m q.1 q.2.1 q.2.2}) (fun q=>⟨[(5,i64 m),(4,.ptr kk 0),(13,.it 5),(3,.gs q.1.2.1 q.1.1.length),(0,.ptr 0 0)],LB X (xs.map (·.1)++[x.1]) d kk q.1.1 q.1.2.1,q.1.2.2⟩) (fun q=>m+1 - q.1.1.length) ⟨(G,a,kk+1),hJ0⟩ id (aK.same (by show 4≤kk+1;omega) (by simp [aP,List.lookup,SV.aB,SV.ok,SV.av];have:=p.rq.la;omega) (hJ0.okB hkq) (hJ0.Mt hkq)) ?_
    rintro ⟨⟨G1,a1,k1⟩,hj⟩
    have hj:LJ X (xs.map (·.2.1)) G kk m G1 a1 k1:=hj
    obtain ⟨t,ht,p3⟩:=hj.rq
    dsimp only at*
    have la:=p3.la
    have kl:=hj.kl
    have lo1:=hj.lo
    have y0:=pN (k:=a1) ⟨by omega,by omega,by omega,by omega⟩
    have y5:=bt (show a1≠5 by omega)
    have yk:=bt hj.na
    have w0:=pN (k:=k1) ⟨by omega,by omega,by omega,by omega⟩
    have w5:=bt (show k1≠5 by omega)
    have wk:=bt (show k1≠kk by omega)
    have wa:=bt (show k1≠a1 by omega)
    have sp1:cR [SV.d .aD] 0 [SV.d .aD]=[SV.d .aD]:=rfl
    have t0:List.lookup k1 (RG.tl G1)=none:=p3.out (Nat.le_refl _)
    have ta:List.lookup a1 (RG.tl G1)=none:=p3.Lh
    have hd0:bS (RG.tl G1) a1=RG.tl G1:=uC ta
    dsimp only [LB,LZ,wX]
    by_cases hjm:G1.length<m+1
    · have j1:decide ((G1.length:Int)≤(m:Int))=true:=by simp only [decide_eq_true_eq];omega
      refine SW.seq (SW.seq ?_)
      refine SW.g0 [0,2,3,4,5,6,8,13,15,28,43,44,45] mixed (j1) ?_
      refine SW.ak rfl (SW.skip ?_)
      refine SW.block ?_
      refine SW.g0 [0,2,3,4,5,6,8,13,15,28,43,44,45] mixed (And.intro (w0) (And.intro (w5) (And.intro (wk) (And.intro (wa) (And.intro (y0) (And.intro (y5) (And.intro (yk) (And.intro (z0) (And.intro (z5) (And.intro (t0) (And.intro (hd0) (sp1)))))))))))) ?_
      have hg:=hj.grow hjm hkq
      refine ⟨⟨(G1++[(0,[])],k1,k1+1),hg⟩,id,by show m+1 - (G1++[(0,([]:List Dt))]).length<m+1 - G1.length;rw [List.length_append,List.length_singleton];omega,?_⟩
      dsimp only
      refine aK.same (by show 4≤k1+1;omega) (by simp [aP,List.lookup,SV.aB,SV.ok,SV.av];omega) (hg.okB hkq) (fun y hy=> ?_)
      rcases List.mem_cons.1 hy with rfl | hy
      · simp [aa,wk]
      · refine Ie ?_ ?_ ?_ ?_ ?_ (fun y hy=> ?_) y hy
        · simp [aa,w5,z5]
        · simp [aa,w0,z0]
        · simp [aa,w0,z0]
        · simp [aa,w0,z0]
        · simp [aa,w0,z0]
        · rcases List.mem_cons.1 hy with rfl | hy
          · rw [RG.uA];simp [aa]
          · rw [RG.AR] at hy
            obtain ⟨z,hz,hzn,rfl⟩:=RG.kG.1 hy
            have b1:=hj.nr z hz hzn
            have b2:=hj.hi z hz hzn
            dsimp only
            rw [aa,if_neg (show z.1≠k1 by omega),aa,if_neg (show z.1≠kk by omega),aa,if_neg (show z.1≠5 by omega),aa,if_neg (show z.1≠0 by omega),aa,if_neg (show z.1≠1 by omega),aa,if_neg (show z.1≠2 by omega),aa,if_neg (show z.1≠3 by omega)]
            exact p3.ok.yH hz hzn
    · have j1:decide ((G1.length:Int)≤(m:Int))=false:=by simp only [decide_eq_false_iff_not];omega
      refine SW.seq (SW.seq ?_)
      refine SW.g0 [0,2,3,4,5,6,8,13,15,28,43,44,45] mixed (j1) ?_
      refine SW.ai rfl (SW.exit ?_)
      refine (?_:Sl.SW _ _ _ _ _ _)
      have hml:m<G1.length:=by omega
      obtain ⟨⟨n,L⟩,hg⟩:=bq hml
      have gc:=E4 hg
      have gs:=E5 G1 m (k1,L++[d])
      have kZ:m+1≤(RG.cells G1).length:=by rw [RG.ij];exact hml
      have hlen:(G1.set m (k1,L++[d])).length=G1.length:=List.length_set
      have hxl:(xs++[x]).length≤X.ops.length:=by
        have:=q2.length_le_of_subset (l₂:=X.ops.map (·.1)) fun n hn=>by
          obtain ⟨z,hz,rfl⟩:=List.mem_map.1 hn
          exact List.mem_map.2 ⟨z,q1 z hz,rfl⟩
        simpa using this
      have hrq:=p3.set (v:=d) (by rw [xb];omega) (by rw [xb];exact hml) (by rw [xb];exact hg) (Nat.le_refl k1)
      have ek:(xs++[x]).map (·.2.1)=xs.map (·.2.1)++[d]:=by rw [List.map_append,List.map_singleton,hd]
      rw [xb,← ek] at hrq
      have hLI:LI X (xs++[x]) (G1.set m (k1,L++[d])) a1 (k1+1):=by
        refine ⟨q1,q2,hxl,hrq,hj.lo,fun z hz hzn=> ?_,by omega,?_⟩
        · rcases List.mem_or_eq_of_mem_set hz with hz | rfl
          · exact hj.hi z hz hzn
          · show 6≤k1;omega
        · have h1:=p.le
          have h2:=hj.ku
          rw [List.length_set,List.length_append,List.length_singleton]
          omega
      have fin:∀ (env:List (Nat×SV)) (hp:Hp) (kz:Nat),(∀ y,y∈LZ X (xs.map (·.1)++[x.1]) (G1.set m (k1,L++[d])) a1→lk hp y.1=some y.2)→aP id (k1+1) env [(13,.it 5),(3,.gs a1 (G1.set m (k1,L++[d])).length),(0,.ptr 0 0)]→
          ∃ (j:{p:MM Dt ag×RG×Nat×Nat // LI X p.1 p.2.1 p.2.2.1 p.2.2.2}) (ρ:Nat→Nat),gu (aq Dt.cells ov X.ops) (j.1.1.map (·.1))<gu (aq Dt.cells ov X.ops) (xs.map (·.1))∧aK 4 ⟨env,hp,kz⟩ ⟨[(13,.it 5),(3,.gs j.1.2.2.1 j.1.2.1.length),(0,.ptr 0 0)],LZ X (j.1.1.map (·.1)) j.1.2.1 j.1.2.2.1,j.1.2.2.2⟩ ρ:=fun env hp kz g1 g2=>by
        refine ⟨⟨(xs++[x],G1.set m (k1,L++[d]),a1,k1+1),hLI⟩,id,by show gu _ ((xs++[x]).map (·.1))<_;rw [em];exact hm,?_⟩
        dsimp only
        rw [em]
        exact aK.same (by show 4≤k1+1;omega) g2 (E7 (by show 6≤k1+1;omega) (hLI.rq.ny (Nat.le_refl _))) g1
      have hLl:L.length≤1000:=by
        have e:=p3.ri.row m _ hg
        dsimp only at e
        rw [e]
        have h2:=List.length_filter_le (fun v=>decide (X.nY v=m)) (xs.map (·.2.1))
        have h3:=p.len
        have h4:=hX.op
        rw [List.length_map] at h2
        omega
      have rest:∀ (hp:Hp),lk hp 5=some (.iter (some 1) X.co (xs.map (·.1)++[x.1]) X.co)→lk hp 0=some (.box 110 [.any,.mp 1,.mp 2,.mp 3])→lk hp 1=some (.map (aq Dt.cells ov X.ops) X.co)→lk hp 2=some (.map (aq Dt.cells dn X.ch) X.cc)→lk hp 3=some (.map (aq Dt.cells dn X.jP) X.cf)→lk hp a1=some (.arr 31 1 (G1.set m (k1,L++[d])).length (RG.cells (G1.set m (k1,L++[d]))))→lk hp k1=some (dY (L++[d]))→
          (∀ z:Nat×List Dt,z.1<kk→6≤z.1→z.1≠a1→(L≠[]→z.1≠n)→lk (RG.tl G1) z.1=some (dY z.2)→lk hp z.1=some (dY z.2))→∀ y,y∈LZ X (xs.map (·.1)++[x.1]) (G1.set m (k1,L++[d])) a1→lk hp y.1=some y.2:=fun hp r5 r0 r1 r2 r3 ra rk ro=>
        Ie r5 r0 r1 r2 r3 (p3.E6 hg ra rk fun z hz hzn _ h2 h3 h4=>ro z (hj.nr z hz hzn) (hj.hi z hz hzn) h2 h3 h4)
      cases L with
      | nil=>
        have gc:(RG.cells G1)[m]? =some (.d .aD):=gc
        have gs:cR (RG.cells G1) m [SV.gs k1 1]=RG.cells (G1.set m (k1,[d])):=gs
        refine SW.gK [0,2,3,4,5,6,8,13,15,28,43,44,45] mixed (And.intro (w0) (And.intro (w5) (And.intro (wk) (And.intro (wa) (And.intro (y0) (And.intro (y5) (And.intro (yk) (And.intro (z0) (And.intro (z5) (And.intro (t0) (And.intro (ta) (And.intro (gc) (And.intro (gs) (And.intro (Int.toNat_natCast) (Nat.mul_one))))))))))))))) (And.intro w0 (And.intro w5 (And.intro wk (And.intro wa (And.intro y0 (And.intro y5 (And.intro yk (And.intro z0 z5)))))))) True.intro ?_
        refine fin _ _ _ (rest _ ?_ ?_ ?_ ?_ ?_ ?_ ?_ fun z h1 h2 h3 h4 h5=> ?_) (by simp [aP,List.lookup,SV.aB,SV.ok,SV.av,hlen];omega)
        · simp [aa,w5,z5]
        · simp [aa,w0,z0]
        · simp [aa,w0,z0]
        · simp [aa,w0,z0]
        · simp [aa,w0,z0]
        · simp [aa,y0,y5,yk,wa]
        · simp [aa,dY]
        · rw [aa,if_neg (show z.1≠k1 by omega),aa,if_neg (show z.1≠kk by omega),aa,if_neg (show z.1≠5 by omega),aa,if_neg (show z.1≠0 by omega),aa,if_neg (show z.1≠1 by omega),aa,if_neg (show z.1≠2 by omega),aa,if_neg (show z.1≠3 by omega),aa,if_neg h3]
          exact h5
      | cons d0 L0=>
        obtain ⟨L,hLe⟩:∃ L,d0::L0=L:=⟨_,rfl⟩
        have hLn:L≠[]:=by rw [← hLe];simp
        rw [hLe] at gc gs hLI fin hlen hLl hg rest
        rw [jd hLn] at gc
        rw [jd (show L++[d]≠[] by simp),show (L++[d]).length=L.length+1 by simp] at gs
        have hgm:=List.mem_of_getElem? hg
        have hnb:=hj.nr _ hgm hLn
        have hnh:=hj.hi _ hgm hLn
        have hna:=p3.na _ hgm hLn
        dsimp only at hnb hna hnh
        have n1:=bt hna
        have n2:=bt (show n≠k1 by omega)
        have n3:=bt (show n≠kk by omega)
        have n5:=bt (show n≠5 by omega)
        have n0:=pN (k:=n) ⟨by omega,by omega,by omega,by omega⟩
        have t3:List.lookup n (RG.tl G1)=some (.arr 37 2 L.length ((L.flatMap Dt.ds).map .d)):=p3.ok.yH hgm hLn
        have t4:List.lookup k1 (bS (RG.tl G1) n)=none:=by
          show lk (bS (RG.tl G1) n) k1=none
          rw [bT,if_neg (by omega)];exact t0
        refine SW.gK [0,2,3,4,5,6,8,13,15,28,43,44,45] mixed (And.intro (w0) (And.intro (w5) (And.intro (wk) (And.intro (wa) (And.intro (y0) (And.intro (y5) (And.intro (yk) (And.intro (z0) (And.intro (z5) (And.intro (n0) (And.intro (n1) (And.intro (n2) (And.intro (n3) (And.intro (n5) (And.intro (t0) (And.intro (ta) (And.intro (t3) (And.intro (t4) (And.intro (gc) (And.intro (gs) (And.intro (Int.toNat_natCast) (Nat.mul_one)))))))))))))))))))))) (And.intro w0 (And.intro w5 (And.intro wk (And.intro wa (And.intro y0 (And.intro y5 (And.intro yk (And.intro z0 (And.intro z5 (And.intro n0 (And.intro n1 (And.intro n2 (And.intro n3 n5))))))))))))) True.intro ?_
        refine fin _ _ _ (rest _ ?_ ?_ ?_ ?_ ?_ ?_ ?_ fun z h1 h2 h3 h4 h5=> ?_) (by simp [aP,List.lookup,SV.aB,SV.ok,SV.av,hlen];omega)
        · simp [aa,w5,z5]
        · simp [aa,w0,z0]
        · simp [aa,w0,z0]
        · simp [aa,w0,z0]
        · simp [aa,w0,z0]
        · simp [aa,y0,y5,yk,wa]
        · simp [aa,dY,Dt.jr]
        · rw [aa,if_neg (show z.1≠k1 by omega),aa,if_neg (show z.1≠kk by omega),aa,if_neg (show z.1≠5 by omega),aa,if_neg (show z.1≠0 by omega),aa,if_neg (show z.1≠1 by omega),aa,if_neg (show z.1≠2 by omega),aa,if_neg (show z.1≠3 by omega),aa,if_neg h3,bT,if_neg (h4 hLn)]
          exact h5
end
end Go.Proofs.YtaelhkkjgfobhaaGreat
