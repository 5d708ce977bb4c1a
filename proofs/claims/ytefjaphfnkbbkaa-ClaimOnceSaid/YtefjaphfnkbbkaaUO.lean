/-
 Spends: the document's charges.
-/
import Derived.Test.YtefjaphfnkbbkaaUI
import Derived.Test.YtefjaphfnkbbkaaUJ
set_option linter.unusedSectionVars false
set_option linter.unusedVariables false
set_option linter.unusedSimpArgs false
namespace Go.Proofs.Ytefjaphfnkbbkaa
open Go.Sl Go.Proofs
section
attribute [local irreducible] SW RW bp SC af aa
def uS (l:List Sp)(d:Dt):List Sp:=l.filter fun x=>decide (x.d≠d)
theorem Bk (l:List Sp)(d:Dt):(uS l d).length≤l.length:=List.length_filter_le _ _
def xF (aB:Nat)(l:List Sp)(d:Dt):List Sp:=uS l d++[⟨d,aU l d+aB⟩]
def lU (aB:Nat)(s:List Sp)(D:List Dt):List Sp:=D.foldl (xF aB) (fM s)
theorem tv (aB:Nat)(s:List Sp)(D:List Dt)(d:Dt):lU aB s (D++[d])=xF aB (lU aB s D) d:=by
 unfold lU;rw [List.foldl_append];rfl
theorem Bl (aB:Nat)(s:List Sp)(D:List Dt):(lU aB s D).length≤s.length+D.length:=by
 induction D using ez with
 | nil=>exact oq s
 | snoc D d ih=>
  rw [tv]
  unfold xF
  have:=Bk (lU aB s D) d
  simp;omega
def rz (f:Dt→Nat)(aB:Nat)(s:List Sp):List Dt→SV
 | []=> .cg [.d .ay,.d (.int .i64 7)]
 | d::r=>if f (bP f d r)<aB then .cg [cF (fM s),.d (.int .i64 279)] else .cg [cF (fM (lU aB s (d::r))),.d (.int .i64 0)]
section
variable {l:List aq} (hlen:l.length<4611686018427387904) (hl:∀ x,x∈l→x.bn<256) {T:Tr} (h:iT l T)
include hlen hl h
end
end
section
structure jG (f:Dt→Nat)(X:List Sp):Prop where
 IL:X.Pairwise fun x y=>Dt.cmp x.d y.d<0
 val:∀ x,x∈X→x.n=f x.d∧0<x.n
 all:∀ d,0<f d→∃ x,x∈X∧x.d=d
theorem jG.mem {f:Dt→Nat}{X:List Sp}(h:jG f X)(x:Sp):x∈X↔x.n=f x.d∧0<x.n:=by
 refine ⟨h.val x,fun ⟨h1,h2⟩=> ?_⟩
 obtain ⟨y,hy,e⟩:=h.all x.d (by omega)
 obtain ⟨h3,_⟩:=h.val y hy
 have:y=x:=by
  obtain ⟨d,n⟩:=x
  obtain ⟨d',n'⟩:=y
  simp only at*
  subst e
  rw [h1,h3]
 rw [← this];exact hy
theorem jG.nd {f:Dt→Nat}{X:List Sp}(h:jG f X):X.Nodup:=by
 refine List.Pairwise.imp (fun {x y} (hxy:Dt.cmp x.d y.d<0)=> ?_) h.IL
 intro e
 have e2:x.d=y.d:=by rw [e]
 rw [(Dt.td _ _).2 e2] at hxy
 exact absurd hxy (by decide)
theorem jG.uniq {f:Dt→Nat}{X Y:List Sp}(h:jG f X)(k:jG f Y):X=Y:=by
 have hp:X.Perm Y:=(List.perm_ext_iff_of_nodup h.nd k.nd).2 fun x=>(h.mem x).trans (k.mem x).symm
 refine List.Perm.eq_of_pairwise (le:=fun x y:Sp=>Dt.cmp x.d y.d<0) ?_ h.IL k.IL hp
 intro x y _ _ h1 h2
 have e:=Dt.tc x.d y.d
 have h1:Dt.cmp x.d y.d<0:=h1
 have h2:Dt.cmp y.d x.d<0:=h2
 generalize Dt.cmp x.d y.d=p at*
 generalize Dt.cmp y.d x.d=q at*
 omega
theorem jG.congr {f g:Dt→Nat}{X:List Sp}(h:jG f X)(e:∀ d,f d=g d):jG g X:=
 ⟨h.IL,fun x hx=>by rw [← e];exact h.val x hx,fun d hd=>h.all d (by rw [e];exact hd)⟩
theorem jG.FM {f:Dt→Nat}{X:List Sp}(h:jG f X)(d:Dt):aU X d=f d:=by
 unfold aU
 cases hs:bL X d with
 | some x=>
  obtain ⟨hx,e⟩:=iC hs
  show x.n=f d
  rw [← e];exact (h.val x hx).1
 | none=>
  show 0=f d
  refine Classical.byContradiction fun hn=> ?_
  obtain ⟨x,hx,e⟩:=h.all d (by omega)
  unfold bL at hs
  rw [List.find?_eq_none] at hs
  exact hs x hx (by simpa using e)
theorem y_ (f:Dt→Nat)(D:List Dt)(hD:Dt.nA D)(hall:∀ d,0<f d→d∈D):jG f (oh f D):=by
 unfold oh
 refine ⟨?_,fun x hx=> ?_,fun d hd=> ?_⟩
 ·rw [List.pairwise_map]
  exact List.Pairwise.filter _ hD
 ·obtain ⟨d,hd,rfl⟩:=List.mem_map.1 hx
  exact ⟨rfl,by simpa using (List.mem_filter.1 hd).2⟩
 ·exact ⟨⟨d,f d⟩,List.mem_map.2 ⟨d,List.mem_filter.2 ⟨hall d hd,by simpa using hd⟩,rfl⟩,rfl⟩
theorem xG {l:List Sp}{d:Dt}(h:0<aU l d):d∈l.map (·.d):=by
 unfold aU at h
 cases hs:bL l d with
 | none=>rw [hs] at h;exact absurd h (by decide)
 | some x=>
  obtain ⟨hx,e⟩:=iC hs
  exact List.mem_map.2 ⟨x,hx,e⟩
theorem jH (l:List Sp):jG (aU l) (fM l):=
 y_ _ _ (Dt.uN _) fun d hd=>Dt.mem_set.2 (xG hd)
theorem Aa {M:MM Dt Nat}{c:Nat}(hw:MM.wf M c):jG (fun d=>(MM.get M d).getD 0) (E6 M):=by
 have hperm:=Sp.sorted_perm (lX M)
 refine ⟨?_,fun x hx=> ?_,fun d hd=> ?_⟩
 ·have h1:=Sp.e_ (lX M)
  have h2:(E6 M).Pairwise fun x y=>x≠y:=by
   show (Sp.sorted (lX M)).Nodup
   rw [hperm.nodup_iff]
   unfold lX
   refine List.pairwise_map.2 ((List.Pairwise.filter _ (List.pairwise_map.1 hw.keys)).imp fun {x y} hxy e=>hxy ?_)
   injection e
  refine ((h1.and h2).imp_of_mem fun {x y} hx hy hxy=> ?_)
  obtain ⟨e1,e2⟩:=hxy
  unfold Sp.le at e1
  rw [Dt.le_iff] at e1
  have e3:x.d≠y.d:=fun e=>e2 (tn hw.keys x y (hperm.mem_iff.1 hx) (hperm.mem_iff.1 hy) e)
  rw [Dt.s_]
  have e4: ¬ (x.d.r=y.d.r∧x.d.n=y.d.n):=fun ⟨h1,h2⟩=>e3 (by
   cases hx1:x.d
   cases hy1:y.d
   rw [hx1,hy1] at h1 h2
   simp only at h1 h2
   rw [h1,h2])
  omega
 ·obtain ⟨⟨t,h1⟩,h2⟩:=pE.1 (hperm.mem_iff.1 hx)
  refine ⟨?_,h2⟩
  show x.n=(MM.get M x.d).getD 0
  rw [MM.get_of_mem hw.keys h1];rfl
 ·have hd:0<(MM.get M d).getD 0:=hd
  cases hg:MM.get M d with
  | none=>rw [hg] at hd;exact absurd hd (by decide)
  | some n=>
   obtain ⟨t,ht⟩:=MM.get_mem hg
   rw [hg] at hd
   exact ⟨⟨d,n⟩,hperm.mem_iff.2 (pE.2 ⟨⟨t,ht⟩,hd⟩),rfl⟩
theorem Bm (s:List Sp):E6 (iI s).1=fM s:=
 ((Aa (ot s)).congr fun d=>mW s d).uniq (jH s)
theorem xH (l:List Sp)(d0 d:Dt):bL (uS l d0) d=if d=d0 then none else bL l d:=by
 induction l with
 | nil=>simp [uS,bL]
 | cons x l ih=>
  unfold uS at ih ⊢
  rw [List.filter_cons,gU]
  by_cases hx:x.d=d0
  ·rw [if_neg (by simp [hx]),ih]
   by_cases hd:d=d0
   ·rw [if_pos hd,if_pos hd]
   ·rw [if_neg hd,if_neg hd,if_neg (fun e=>hd (by rw [← e];exact hx))]
  ·rw [if_pos (by simpa using hx),gU,ih]
   by_cases hd:d=d0
   ·rw [if_pos hd,if_pos hd,if_neg (fun e=>hx (by rw [e];exact hd))]
   ·rw [if_neg hd,if_neg hd]
theorem xI (aB:Nat)(l:List Sp)(d0 d:Dt):aU (xF aB l d0) d=if d=d0 then aU l d0+aB else aU l d:=by
 unfold xF
 show ((bL (uS l d0++[⟨d0,aU l d0+aB⟩]) d).map (·.n)).getD 0=_
 rw [tf,xH,gU,og]
 by_cases hd:d=d0
 ·rw [if_pos hd,if_pos hd.symm,if_pos hd];rfl
 ·rw [if_neg hd,if_neg (fun e=>hd e.symm),if_neg hd]
  unfold aU
  cases bL l d <;> rfl
theorem mH (aB:Nat)(s:List Sp)(d:Dt):∀ D:List Dt,D.Nodup→aU (lU aB s D) d=aU s d+if d∈D then aB else 0:=fun D=>by
 induction D using ez with
 | nil=>intro _;exact (jH s).FM d
 | snoc D x ih=>
  intro hn
  rw [List.nodup_append] at hn
  obtain ⟨h1,_,h3⟩:=hn
  rw [tv,xI]
  have hx:x∉D:=fun hm=>h3 x hm x (by simp) rfl
  by_cases hd:d=x
  ·subst hd
   rw [if_pos rfl,if_pos (by simp),ih h1,if_neg hx,Nat.add_zero]
  ·rw [if_neg hd,ih h1]
   by_cases hm:d∈D
   ·rw [if_pos hm,if_pos (by simp [hm])]
   ·rw [if_neg hm,if_neg (by simp [hm,hd])]
def jI (aB:Nat)(M:MM Dt Nat×Nat)(D:List Dt):MM Dt Nat×Nat:=D.foldl (fun M d=>(MM.put M.1 M.2 d ((MM.get M.1 d).getD 0+aB),MM.nO M.1 M.2 d)) M
theorem mX (aB:Nat)(M:MM Dt Nat×Nat)(D:List Dt)(d:Dt):jI aB M (D++[d])=(MM.put (jI aB M D).1 (jI aB M D).2 d ((MM.get (jI aB M D).1 d).getD 0+aB),MM.nO (jI aB M D).1 (jI aB M D).2 d):=by
 unfold jI;rw [List.foldl_append];rfl
theorem rA (aB:Nat){M:MM Dt Nat×Nat}(hw:MM.wf M.1 M.2):∀ D:List Dt,MM.wf (jI aB M D).1 (jI aB M D).2:=fun D=>by
 induction D using ez with
 | nil=>exact hw
 | snoc D x ih=>rw [mX];exact MM.pV ih _ _
theorem xJ (aB:Nat)(M:MM Dt Nat×Nat)(d:Dt):∀ D:List Dt,D.Nodup→(MM.get (jI aB M D).1 d).getD 0=(MM.get M.1 d).getD 0+if d∈D then aB else 0:=fun D=>by
 induction D using ez with
 | nil=>intro _;rfl
 | snoc D x ih=>
  intro hn
  rw [List.nodup_append] at hn
  obtain ⟨h1,_,h3⟩:=hn
  have hx:x∉D:=fun hm=>h3 x hm x (by simp) rfl
  rw [mX]
  show (MM.get (MM.put _ _ _ _) d).getD 0=_
  rw [MM.jR]
  by_cases hd:d=x
  ·subst hd
   rw [if_pos rfl,if_pos (by simp)]
   show (MM.get (jI aB M D).1 d).getD 0+aB=_
   rw [ih h1,if_neg hx,Nat.add_zero]
  ·rw [if_neg hd,ih h1]
   by_cases hm:d∈D
   ·rw [if_pos hm,if_pos (by simp [hm])]
   ·rw [if_neg hm,if_neg (by simp [hm,hd])]
theorem vQ (aB:Nat)(s:List Sp)(D:List Dt)(hD:D.Nodup):E6 (jI aB (iI s) D).1=fM (lU aB s D):=by
 refine ((Aa (rA aB (ot s) D)).congr fun d=> ?_).uniq (jH _)
 rw [mH aB s d D hD]
 show (MM.get (jI aB (iI s) D).1 d).getD 0=_
 rw [xJ aB (iI s) d D hD,mW]
end
section
attribute [local irreducible] SW RW bp SC af aa
theorem xK {f g:Dt→Nat}(a:Dt)(D:List Dt)(h:∀ x,x∈a::D→f x=g x):bP f a D=bP g a D:=by
 induction D using ez with
 | nil=>rfl
 | snoc D x ih=>
  have hih:=ih fun y hy=>h y (by rcases List.mem_cons.1 hy with e | e;exact e ▸ List.mem_cons_self ..;exact List.mem_cons_of_mem _ (List.mem_append_left _ e))
  rw [iE,iE,hih,h x (by simp)]
  have hm:bP g a D∈a::D:=qm g a D
  rw [h (bP g a D) (by rcases List.mem_cons.1 hm with e | e;rw [e];simp;exact List.mem_cons_of_mem _ (List.mem_append_left _ e))]
abbrev HW (a:MM Dt Cr)(ca:Nat)(m:MM Dt aq)(cm:Nat)(n:Nat)(M:MM Dt Nat)(cM:Nat):Hp:=(n,.map (aH Dt.cells uv M) cM)::fB a ca m cm
section
variable (a:MM Dt Cr) (ca:Nat) (m:MM Dt aq) (cm:Nat)
theorem G4 (hcap:∀ d c,MM.get a d=some c→c.cap≤1099511627776)(M:MM Dt Nat)(cM n:Nat)(hn:3≤n)(d0:Dt)(r:List Dt)(hr:r.length<1000000)(k:Nat):bp Try.prog charge_tight.f [.ptr 0 0,.mp n,ic (d0::r)] (HW a ca m cm n M cM) k 0 (.cg [.agg (bP (kH a M) d0 r).cells,.d (.int .u64 ((kH a M (bP (kH a M) d0 r):Nat):Int))]) (HW a ca m cm n M cM):=by
 have h:=SB.ej [0,1,2,n] (Dk a ca m cm M cM hcap d0 r hr) (by simp;omega) (fun i hi=>by
  match i,hi with
  | 0,_ | 1,_ | 2,_ | 3,_=>simp [ag]
  | i+4,hi=>exact absurd hi (by simp)) k
 have e0:Hp.aV (iq [0,1,2,n] k) (Ht a ca m cm M cM)=HW a ca m cm n M cM:=by
  simp [Hp.aV,Ob.aV,SV.bh,SV.aV,iq,eY,jA,jy]
 rw [e0] at h
 have a3:iq [0,1,2,n] k 3=n:=by simp [iq]
 have a0:iq [0,1,2,n] k 0=0:=rfl
 simp only [SV.bh,SV.aV,Dt.aD,a3,a0] at h
 exact h
theorem FN (M:MM Dt Nat)(cM:Nat)(hw:MM.wf M cM)(hM:M.length<1000000)(n k:Nat):bp Try.prog charge_spends_list.f [.mp n] [(n,.map (aH Dt.cells uv M) cM)] k 0 (cF (E6 M)) [(n,.map (aH Dt.cells uv M) cM)]:=by
 have h:=SB.ej [n] (E7 M cM hw hM) (by simp) (fun i hi=>by
   have:i=0:=by simpa using hi
   subst this;simp [ag]) k
 simpa [SV.bh,SV.aV,iq,Hp.aV,Ob.aV,eY] using h
end
section
variable {l:List aq} {a:MM Dt Cr} {ca:Nat} {m:MM Dt aq} {cm:Nat} (ht:iT l (ir a ca m cm))
include ht
theorem Bn (s:List Sp){d:Dt}{c:Cr}(hg:MM.get a d=some c):kH a (iI s).1 d=bM a s d:=by
 unfold kH
 rw [lM hg,hg,mW];rfl
end
end
end Go.Proofs.Ytefjaphfnkbbkaa
