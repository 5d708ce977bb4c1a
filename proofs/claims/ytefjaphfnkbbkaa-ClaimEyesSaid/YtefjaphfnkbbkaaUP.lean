/-
 Spends: the law that charges are the document's.
-/
import Derived.Test.YtefjaphfnkbbkaaUO
import Derived.Test.YtefjaphfnkbbkaaUH
import Derived.Test.YtefjaphfnkbbkaaUK
set_option linter.unusedSectionVars false
set_option linter.unusedVariables false
set_option linter.unusedSimpArgs false
namespace Go.Proofs.Ytefjaphfnkbbkaa
open Go.Sl Go.Proofs
section
attribute [local irreducible] SW RW bp SC af aa
def rV (f:Dt→Nat):List Dt→Nat
 | []=>0
 | d::r=>f (bP f d r)
def tD (f:Dt→Nat):List Dt→Dt
 | []=>⟨0,0⟩
 | d::r=>bP f d r
def eV:List Dt→Int
 | []=>7
 | _::_=>0
def cS (f:Dt→Nat)(aB:Nat)(s:List Sp):List Dt→SV
 | []=> .d .ay
 | d::r=>if f (bP f d r)<aB then cF (fM s) else cF (fM (lU aB s (d::r)))
def cE (f:Dt→Nat)(aB:Nat):List Dt→Int
 | []=>7
 | d::r=>if f (bP f d r)<aB then 279 else 0
theorem vR (f:Dt→Nat)(D:List Dt):y7 f D= .cg [.agg (tD f D).cells,.d (.int .u64 ((rV f D:Nat):Int)),.d (.int .i64 (eV D))]:=by cases D <;> rfl
theorem xL (f:Dt→Nat)(aB:Nat)(s:List Sp)(D:List Dt):rz f aB s D= .cg [cS f aB s D,.d (.int .i64 (cE f aB D))]:=by
 cases D with
 | nil=>rfl
 | cons d r=>by_cases h:f (bP f d r)<aB <;> simp only [rz,cS,cE,h,if_true,if_false]
theorem Is (f:Dt→Nat)(aB:Nat)(s:List Sp)(D:List Dt)(q:Nat→Bool):(cS f aB s D).ok q=true:=by
 cases D with
 | nil=>rfl
 | cons d r=>by_cases h:f (bP f d r)<aB <;> simp only [cS,h,if_true,if_false] <;> rfl
theorem za (f:Dt→Nat)(aB:Nat)(s:List Sp)(D:List Dt)(r:Nat→Nat):(cS f aB s D).aV r=cS f aB s D:=by
 cases D with
 | nil=>rfl
 | cons d r'=>by_cases h:f (bP f d r')<aB <;> simp only [cS,h,if_true,if_false] <;> rfl
end
section
attribute [local irreducible] SW RW bp SC af aa
theorem Bo (aB:Nat)(s:List Sp)(D:List Dt)(e:Dt)(h:MM.has (jI aB (iI s) D).1 e=true):e∈s.map (·.d)++D:=by
 induction D using ez with
 | nil=>
  have h:MM.has (iI s).1 e=true:=h
  unfold MM.has at h
  rw [vN] at h
  cases hx:bL s e with
  | none=>rw [hx] at h;cases h
  | some x=>obtain ⟨q1,q2⟩:=iC hx;exact List.mem_append_left _ (List.mem_map.2 ⟨x,q1,q2⟩)
 | snoc D x ih=>
  rw [mX] at h
  have h:MM.has (MM.put _ _ _ _) e=true:=h
  rw [MM.zB,Bool.or_eq_true,decide_eq_true_eq] at h
  rcases h with h | h
  ·rw [h];simp
  ·have:=ih h
   rw [← List.append_assoc]
   exact List.mem_append_left _ this
section
variable {l:List aq} {a:MM Dt Cr} {ca:Nat} {m:MM Dt aq} {cm:Nat} (ht:iT l (ir a ca m cm))
include ht
theorem lN (s:List Sp)(hn:∀ x,x∈s→x.n<18446744073709551616){d:Dt}{c:Cr}(hg:MM.get a d=some c){aB:Nat}(h:aB≤bM a s d):aU s d+aB<18446744073709551616:=by
 rw [lM hg] at h
 have hc:=ht.cap (d:=d) hg
 have hs:aU s d<18446744073709551616:=by
  unfold aU
  cases hx:bL s d with
  | none=>show (0:Nat)<_;omega
  | some x=>exact hn x (iC hx).1
 by_cases h0:aB=0
 ·omega
 ·omega
set_option maxHeartbeats 8000000 in
theorem Bp (s : List Sp)(hs:s.length<10000)(hn:∀ x,x∈s→x.n<18446744073709551616)(d:Dt)(L:List Cr)(hL:lZ a (MM.get a d) L)(xX:L.length<10000)(aB:Nat):
    SB Try.prog charge_Charge.f [.ptr 0 0,cF s,.agg d.cells,.d (.int .u64 (aB:Int))] (fB a ca m cm) 3 0 (fun v F'=>v=rz (bM a s) aB s (L.map (·.dot))∧F'=fB a ca m cm):=by
  have hc:∀ k,bp Try.prog tree_Tree_Chain.f [.ptr 0 0,.agg d.cells] (fB a ca m cm) k (6+L.length*(1+2)) (hU a d L) (fB a ca m cm):=fun k=>C7 (lI a ca m cm) d L hL (by omega) k
  refine charge_Charge.enter (by simp [SV.aI,SV.ok]) (cN a ca m cm (Nat.le_refl 3)) (by simp) ?_
  dsimp only [charge_Charge.s,Co.M,Co.G,Co.J,Co.H,Co.N,Co.F,Co.C,Co.Z,Co.B,Co.b8,Co.aA,Co.bz,Co.i6,Co.z8,Co.dm]
  cases hg:MM.get a d with
  | none=>
    rw [vL hg] at hc
    have e0:L=[]:=by rw [hg] at hL;cases hL;rfl
    rw [e0]
    refine SW.seq ?_
    refine SW.g1 [0,1,2,3,6,8,9,10,11,12,14,16,24,37,40,41,42,43] mixed U hc ?_
    refine SW.seq ?_
    refine SW.g1 [0,1,2,3,6,8,9,10,11,12,14,16,24,37,40,41,42,43] mixed U hc ?_
    refine SW.weak id (st1:=⟨[(11,.d (.int .i64 7))],fB a ca m cm,3⟩) (bg.mk (pq a m)) ?_
    (repeat (first | refine SW.seq ?_ | refine SW.block ?_ | refine SW.g0 [0,1,2,3,6,8,9,10,11,12,14,16,24,37,40,41,42,43] mixed U ?_ | refine SW.skip ?_ | refine SW.exit ?_ | refine SW.ret ?_ | refine SW.au rfl ?_ | refine SW.ak rfl ?_))
    exact End.mk (fB a ca m cm) (h3:=fun _ _ h=>h) (h4:=⟨rfl,rfl⟩) (h6:=cN a ca m cm (by omega))
  | some c=>
    rw [pn hg] at hc
    have hall:∀ x,x∈L.map (·.dot)→∃ y,MM.get a x=some y:=fun x hx=>by
      obtain ⟨y,hy,rfl⟩:=List.mem_map.1 hx
      exact ⟨y,ht.jE (d:=d) hL y hy⟩
    have hD:(L.map (·.dot)).length=L.length:=List.length_map ..
    have hL0:0<L.length:=by
      rw [hg] at hL
      exact bq hL.head
    have hlm:∀ x,x∈L.map (·.dot)→kH a (iI s).1 x=bM a s x:=fun x hx=>by
      obtain ⟨y,hy⟩:=hall x hx
      exact Bn ht s hy
    have hnd:(L.map (·.dot)).Nodup:=by
      rw [List.nodup_iff_pairwise_ne,List.pairwise_iff_getElem]
      intro i j hi hj hij e
      rw [List.length_map] at hi hj
      have:=ht.C_ (d:=d) hL (List.getElem?_eq_getElem hi) (List.getElem?_eq_getElem hj) (by simpa using e)
      omega
    have hsame:=vQ aB s (L.map (·.dot)) hnd
    have hbnd:∀ x,x∈L.map (·.dot)→aB≤bM a s x→aU s x+aB<18446744073709551616:=fun x hx h=>by
      obtain ⟨y,hy⟩:=hall x hx
      exact lN ht s hn hy h
    have f_:(iI s).1.length≤s.length:=by
      have h1:=(ot s).keys.length_le_of_subset (l₂:=s.map (·.d)) (fun d hd=>by
        have hh:MM.has (iI s).1 d=true:=MM.jQ.2 hd
        unfold MM.has at hh
        rw [vN] at hh
        cases hx:bL s d with
        | none=>rw [hx] at hh;cases hh
        | some x=>obtain ⟨q1,q2⟩:=iC hx;exact List.mem_map.2 ⟨x,q1,q2⟩)
      simpa [MM.keys] using h1
    generalize L.map (·.dot)=D at hc hall hD hlm hnd hsame hbnd
    cases D with
    | nil=>simp at hD;omega
    | cons d0 r =>
      have hm:=xK d0 r hlm
      have htg:=G4 a ca m cm (fun d c h=>ht.cap h) (iI s).1 (iI s).2 4 (by omega) d0 r (by simp at hD;omega) 5
      rw [hm,hlm _ (qm _ d0 r)] at htg
      have hle:=xz (bM a s) d0 r
      rw [show rz (bM a s) aB s (d0::r)=(if bM a s (bP (bM a s) d0 r)<aB then .cg [cF (fM s),.d (.int .i64 279)] else .cg [cF (fM (lU aB s (d0::r))),.d (.int .i64 0)]) from rfl]
      have hls:=FN (iI s).1 (iI s).2 (ot s) (by omega) 4
      rw [Bm] at hls
      generalize bM a s (bP (bM a s) d0 r)=rm at htg hle ⊢
      generalize bP (bM a s) d0 r=at_ at htg
      have hsp:=xB s (by omega) 4
      refine SW.seq ?_
      refine SW.g1 [0,1,2,3,6,8,9,10,11,12,14,16,24,37,40,41,42,43] mixed U hc ?_
      refine SW.seq ?_
      refine SW.g1 [0,1,2,3,6,8,9,10,11,12,14,16,24,37,40,41,42,43] mixed U hc ?_
      refine SW.weak id (st1:=⟨[(11,.d (.int .i64 0)),(10,ic (d0::r)),(0,.ptr 0 0),(1,cF s),(3,.d (.int .u64 (aB:Int)))],fB a ca m cm,4⟩) (bg.mk (pq a m)) ?_
      refine SW.seq (SW.seq ?_)
      refine SW.g0 [0,1,2,3,6,8,9,10,11,12,14,16,24,37,40,41,42,43] mixed U ?_
      refine SW.ak rfl (SW.skip ?_)
      refine SW.seq ?_
      refine SW.g4 [0,1,2,3,6,8,9,10,11,12,14,16,24,37,40,41,42,43] mixed U hsp htg hls trivial ?_
      refine SW.seq (SW.seq ?_)
      refine SW.g4 [0,1,2,3,6,8,9,10,11,12,14,16,24,37,40,41,42,43] mixed U hsp htg hls trivial ?_
      by_cases hov:rm<aB
      · have h1:decide ((aB:Int)>(rm:Int))=true:=by simp;omega
        rw [if_pos hov]
        refine SW.seq ?_
        refine SW.g4 [0,1,2,3,6,8,9,10,11,12,14,16,24,37,40,41,42,43] mixed (h1) hsp htg hls trivial ?_
        refine SW.au rfl (SW.seq ?_)
        refine SW.g4 [0,1,2,3,6,8,9,10,11,12,14,16,24,37,40,41,42,43] mixed U hsp htg hls trivial ?_
        refine SW.ret ?_
        exact End.mk (fB a ca m cm) (h3:=by intro n ob hn;match n with | 0 | 1 | 2=>simpa [ag] using hn | n+3=>simp [ag,bA] at hn) (h4:=⟨rfl,rfl⟩) (h6:=cN a ca m cm (by omega))
      · have h1 :decide ((aB:Int)>(rm:Int))=false:=by simp;omega
        rw [if_neg hov]
        refine SW.seq ?_
        refine SW.g4 [0,1,2,3,6,8,9,10,11,12,14,16,24,37,40,41,42,43] mixed (h1) hsp htg hls trivial ?_
        refine SW.ak rfl (SW.skip ?_)
        have hDl:(d0::r).length<1000000:=by simp at hD ⊢;omega
        have DL:∀ x,x∈d0::r→aU s x+aB<18446744073709551616:=fun x hx=>hbnd x hx (by have:=hle x hx;omega)
        have hMl:(jI aB (iI s) (d0::r)).1.length<1000000:=by
          have hk:=(rA aB (ot s) (d0::r)).keys
          have:=hk.length_le_of_subset (l₂:=s.map (·.d)++(d0::r)) (fun e he=>by
            have hh:MM.has (jI aB (iI s) (d0::r)).1 e=true:=MM.jQ.2 he
            exact Bo aB s (d0::r) e hh)
          simp only [MM.keys,List.length_map,List.length_append] at this
          omega
        have hls2:=FN (jI aB (iI s) (d0::r)).1 (jI aB (iI s) (d0::r)).2 (rA aB (ot s) _) hMl 4
        rw [hsame] at hls2
        generalize hDD:d0::r=D at*
        refine SW.seq (SW.seq ?_)
        refine SW.g0 [0,1,2,3,6,8,9,10,11,12,14,16,24,37,40,41,42,43] mixed U ?_
        refine SW.block ?_
        refine SW.c8 (α:={i:Nat // i≤D.length}) (fun i=>⟨[(42,i64 i.1),(40,ic D),(41,i64 D.length),(12,.mp 4),(3,.d (.int .u64 (aB:Int)))],(4,.map (aH Dt.cells uv (jI aB (iI s) (D.take i.1)).1) (jI aB (iI s) (D.take i.1)).2)::fB a ca m cm,5⟩) (fun i=>D.length - i.1) ⟨0,by omega⟩ id (And.intro (show jI aB (iI s) []=iI s from rfl) (xE a m (iI s).1)) (round:= ?_)
        rintro ⟨i,hi⟩
        dsimp only
        by_cases hil:i<D.length
        · obtain ⟨x,hx⟩:=aL hil
          have h2:decide ((i:Int)<D.length)=true:=by simp;exact hil
          have e1:D.take (i+1)=D.take i++[x]:=bQ hx
          have e2:IntKind.i64.wrap ((i:Int)+1)=((i+1:Nat):Int):=wrap_i64 _ (by omega)
          have hw:=rA aB (ot s) (D.take i)
          have jJ:=mX aB (iI s) (D.take i) x
          rw [← e1] at jJ
          have hv:(MM.get (jI aB (iI s) (D.take i)).1 x).getD 0=aU s x:=by
            have hnt:(D.take i).Nodup:=hnd.sublist (List.take_sublist _ _)
            rw [xJ aB (iI s) x _ hnt,mW,if_neg,Nat.add_zero]
            intro hm
            have hn2:(D.take (i+1)).Nodup:=hnd.sublist (List.take_sublist _ _)
            rw [e1,List.nodup_append] at hn2
            exact hn2.2.2 x hm x (by simp) rfl
          have hb3:=DL x (List.mem_of_getElem? hx)
          generalize jI aB (iI s) (D.take i)=Mi at hw jJ hv
          obtain ⟨Mi,ci⟩:=Mi
          dsimp only at hw jJ hv ⊢
          rw [hv] at jJ
          generalize aU s x=v at hv hb3 jJ
          have e3:IntKind.u64.wrap ((v:Int)+(aB:Int))=((v+aB:Nat):Int):=by rw [ff _ (by omega)];omega
          have fe:=qV (vs:=uv) (kc:=Dt.cells) hw x 0
          have e3':(MM.get (MM.vV Mi ci x 0) x).getD 0=v:=by
            rw [← hv]
            unfold MM.vV
            cases hh:MM.idx Mi x with
            | none=>
              have h1:=MM.iP.1 hh
              have h2:Mi.find? (fun y=>decide (x=y.2.1))=none:=by
                unfold MM.get at h1
                simpa using h1
              rw [h1]
              simp [MM.get,List.find?_append,h2]
            | some i=>rfl
          refine SW.seq ?_
          refine SW.g0 [0,1,2,3,6,8,9,10,11,12,14,16,24,37,40,41,42,43] mixed (h2) ?_
          refine SW.seq (SW.au rfl (SW.skip ?_))
          refine SW.seq (SW.block (SW.seq ?_))
          refine SW.g0 [0,1,2,3,6,8,9,10,11,12,14,16,24,37,40,41,42,43] mixed (gf hx) ?_
          refine SW.mono (Q:=fun e st'=>e= .normal∧bg 3 st' ⟨[(42,i64 i),(40,ic D),(41,i64 D.length),(12,.mp 4),(3,.d (.int .u64 (aB:Int)))],(4,.map (aH Dt.cells uv (MM.put Mi ci x (v+aB))) (MM.nO Mi ci x))::fB a ca m cm,6⟩ id) (SW.tree mixed ?_) ?_
          · repeat' (first
              | refine qY.s1 _ (h1:= ?_)
              | refine qY.s2 _ _ (h1:= ?_) (h2:= ?_)
              | refine qY.s3 _ _ _ (h1:= ?_) (h2:= ?_) (h3:= ?_)
              | refine Oa.mk (And.intro fe (And.intro hv (And.intro e3 e3'))) (h:= ?_))
            all_goals (refine qY.done (by kernel_rfl) (And.intro rfl <| bg.same (by simp) (by simp [dL,List.lookup,SV.aV,SV.ok]) (bU (by simp) (by simp only [Ob.ok];exact eu _ _) (cN a ca m cm (by show 3≤6;omega))) (fun x hx=> ?_)))
            all_goals (simp only [List.mem_cons,List.not_mem_nil,or_false] at hx;rcases hx with rfl | rfl | rfl | rfl <;> rfl)
          rintro _ st' ⟨rfl,hwk⟩
          refine SW.weak id hwk ?_
          refine SW.g0 [0,1,2,3,6,8,9,10,11,12,14,16,24,37,40,41,42,43] mixed (e2) ?_
          dsimp only
          exact ⟨⟨i+1,by omega⟩,id,by show D.length - (i+1)<_;omega,bg.mk (And.intro jJ (xE a m (MM.put Mi ci x (v+aB))))⟩
        · have h2:decide ((i:Int)<D.length)=false:=by simp;omega
          have h3:i=D.length:=by omega
          subst h3
          rw [List.take_length]
          refine SW.seq ?_
          refine SW.g1 [0,1,2,3,6,8,9,10,11,12,14,16,24,37,40,41,42,43] mixed (h2) hls2 ?_
          refine SW.seq (SW.ak rfl (SW.exit ?_))
          refine SW.seq ?_
          refine SW.g1 [0,1,2,3,6,8,9,10,11,12,14,16,24,37,40,41,42,43] mixed U hls2 ?_
          refine SW.ret ?_
          exact End.mk (fB a ca m cm) (h3:=by intro n ob hn;match n with | 0 | 1 | 2=>simpa [ag] using hn | n+3=>simp [ag,bA] at hn) (h4:=⟨rfl,rfl⟩) (h6:=cN a ca m cm (by omega))
end
end
section
attribute [local irreducible] SW RW bp SC af aa
section
variable {l:List aq} {a:MM Dt Cr} {ca:Nat} {m:MM Dt aq} {cm:Nat} (h:Tn l a ca m cm)
include h
theorem Tn.xM:iT l (ir a ca m cm):=⟨h.tok.cr,h.tok.no⟩
variable (s:List Sp) (hs:s.length<10000) (d:Dt) (L:List Cr) (hL:lZ a (MM.get a d) L) (xX:L.length<10000)
include hs hL xX
theorem Tn.E8 (hn:∀ x,x∈s→x.n<18446744073709551616)(aB:Nat)(k:Nat):bp Try.prog charge_Charge.f [.ptr 2 0,cF s,.agg d.cells,.d (.int .u64 (aB:Int))] (H2 a ca m cm) k 0 (.cg [cS (bM a s) aB s (L.map (·.dot)),.d (.int .i64 (cE (bM a s) aB (L.map (·.dot))))]) (H2 a ca m cm):=by
 have:=SB.ej [2,0,1] (Bp h.xM s hs hn d L hL xX aB) (by decide) (qg _ _ _ _) k
 rw [show Hp.aV (iq [2,0,1] k) (fB a ca m cm)=H2 a ca m cm from lJ (Hs a ca m cm) k,xL] at this
 simpa [SV.bh,SV.aV,iq,Dt.aD,za] using this
end
end
section
attribute [local irreducible] SW RW bp SC af aa
theorem iT.FO {l:List aq}{T:Tr}(h:iT l T){d:Dt}{L:List Cr}(hL:lZ T.at_ (MM.get T.at_ d) L):(L.map (·.dot)).Nodup:=by
 rw [List.nodup_iff_pairwise_ne,List.pairwise_iff_getElem]
 intro i j hi hj hij e
 rw [List.length_map] at hi hj
 have:=h.C_ (d:=d) hL (List.getElem?_eq_getElem hi) (List.getElem?_eq_getElem hj) (by simpa using e)
 omega
section
variable {l:List aq} (hlen:l.length<4611686018427387904) (hl:∀ x,x∈l→x.bn<256) (Jz:∀ o,o∈l→o.dot.wf) {a:MM Dt Cr} {ca:Nat} {m:MM Dt aq} {cm:Nat} (h:Tn l a ca m cm)
include hlen hl Jz h
theorem Tn.Du (s:List Sp)(hs:s.length<10000)(d:Dt)(L:List Cr)(hL:lZ a (MM.get a d) L)(xX:L.length<10000)(k:Nat):
  bp Try.prog ref22_Tight.f [ops l,cF s,.agg d.cells] [] k 0 (.cg [.agg (tD (bM a s) (L.map (·.dot))).cells,.d (.int .u64 ((rV (bM a s) (L.map (·.dot)):Nat):Int)),.d (.int .i64 (eV (L.map (·.dot))))]) []:=by
 have:=Bd hlen hl h.xM s (by omega) d L hL (by omega) k
 rwa [show (ir a ca m cm).at_=a from rfl,vR] at this
end
end
section
theorem xN (f:Dt→Nat){D:List Dt}{x:Dt}(hx:x∈D):rV f D≤f x:=by
 cases D with
 | nil=>cases hx
 | cons d r=>exact xz f d r x hx
theorem Dv (f:Dt→Nat){D:List Dt}(h:D≠[]):∃ x,x∈D∧rV f D=f x:=by
 cases D with
 | nil=>exact absurd rfl h
 | cons d r=>exact ⟨bP f d r,qm f d r,rfl⟩
theorem G5 {f g:Dt→Nat}{D:List Dt}{n:Nat}(h:∀ x,x∈D→g x=f x - n):rV g D=rV f D - n:=by
 by_cases hD:D=[]
 ·subst hD;show 0=0 - n;omega
 ·obtain ⟨x,hx,ex⟩:=Dv f hD
  obtain ⟨y,hy,ey⟩:=Dv g hD
  have h1:=xN g hx
  have h2:=xN f hy
  rw [h x hx] at h1
  rw [h y hy] at ey
  omega
theorem Jn {f:Dt→Nat}{n:Nat}{D:List Dt}(hD:D≠[])(h:n≤rV f D):cE f n D=0:=by
 cases D with
 | nil=>exact absurd rfl hD
 | cons d r=>exact if_neg (by show ¬ rV f (d::r)<n;omega)
theorem E9 {f:Dt→Nat}{n:Nat}{D:List Dt}(hD:D≠[])(h:rV f D<n):cE f n D=279:=by
 cases D with
 | nil=>exact absurd rfl hD
 | cons d r=>exact if_pos h
def xO (n:Nat)(s:List Sp)(D:List Dt):List Sp:=fM (lU n s D)
theorem rB {f:Dt→Nat}{n:Nat}{s:List Sp}{D:List Dt}(hD:D≠[])(h:n≤rV f D):cS f n s D=cF (xO n s D):=by
 cases D with
 | nil=>exact absurd rfl hD
 | cons d r=>exact if_neg (by show ¬ rV f (d::r)<n;omega)
theorem uT (n:Nat)(s:List Sp){D:List Dt}(hD:D.Nodup)(x:Dt):aU (xO n s D) x=aU s x+if x∈D then n else 0:=by
 unfold xO;rw [(jH _).FM x,mH n s x D hD]
theorem Ab (n:Nat)(s:List Sp)(D:List Dt):(xO n s D).length≤s.length+D.length:=
 Nat.le_trans (oq _) (Bl n s D)
theorem zb {s:List Sp}(hs:∀ y,y∈s→y.n<18446744073709551616)(x:Dt):aU s x<18446744073709551616:=by
 unfold aU
 cases hx:bL s x with
 | none=>show (0:Nat)<_;omega
 | some y=>exact hs y (iC hx).1
theorem G6 {l:List aq}{a:MM Dt Cr}{ca:Nat}{m:MM Dt aq}{cm:Nat}(ht:iT l (ir a ca m cm)){n:Nat}{s:List Sp}(hs:∀ y,y∈s→y.n<18446744073709551616){d:Dt}{L:List Cr}(hL:lZ a (MM.get a d) L)
  (hn:n≤rV (bM a s) (L.map (·.dot))):∀ y,y∈xO n s (L.map (·.dot))→y.n<18446744073709551616:=fun y hy=>by
 have hnd:=ht.FO hL
 unfold xO at hy
 have h1:=(jH (lU n s (L.map (·.dot)))).val y hy
 rw [mH n s y.d _ hnd] at h1
 rw [h1.1]
 by_cases hm:y.d∈L.map (·.dot)
 ·rw [if_pos hm]
  obtain ⟨z,hz,e⟩:=List.mem_map.1 hm
  have hg:=ht.jE (d:=d) hL z hz
  rw [e] at hg
  exact lN ht s hs hg (Nat.le_trans hn (xN _ hm))
 ·rw [if_neg hm]
  exact zb hs _
theorem Dw {a:MM Dt Cr}{n:Nat}{s:List Sp}{D:List Dt}(hD:D.Nodup)(x:Dt):bM a (xO n s D) x=bM a s x - if x∈D then n else 0:=by
 unfold bM
 cases MM.get a x with
 | none=>show 0=0 - _;omega
 | some c=>
  show c.cap - aU (xO n s D) x=c.cap - aU s x - _
  rw [uT n s hD];omega
theorem zc {a:MM Dt Cr}{n:Nat}{s:List Sp}{D:List Dt}(hD:D.Nodup):rV (bM a (xO n s D)) D=rV (bM a s) D - n:=
 G5 fun x hx=>by rw [Dw hD,if_pos hx]
end
end Go.Proofs.Ytefjaphfnkbbkaa
