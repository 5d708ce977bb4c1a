/-
 Revoke: the document's chains, those that are well-formed, levels.
-/
import Derived.Test.YtaelhkkjgfobhaaGreatU6
import Derived.Test.YtaelhkkjgfobhaaGreatUS
import Derived.Test.YtaelhkkjgfobhaaGreatUM
set_option linter.unusedSectionVars false
set_option linter.unusedVariables false
set_option linter.unusedSimpArgs false
namespace Go.Proofs.YtaelhkkjgfobhaaGreat
open Go.Sl Go.Proofs
section
attribute [local irreducible] SW RW aG SC aj an
theorem BN {a:MM Dt Cr}{d:Dt}{L:List Cr}(hL:mZ a (MM.get a d) L):fT a d L= .cN [dn (L.map (·.dot)),.d (.int .i64 (if MM.has a d then 0 else 7))]:=by
 unfold fT MM.has
 cases hg:MM.get a d with
 | none=>
  rw [hg] at hL
  cases hL
  rfl
 | some c=>
  rw [hg] at hL
  cases L with
  | nil=>cases hL
  | cons x L=>simp [dn,aU]
noncomputable def dZ (l:List ag)(d:Dt):Bool:=match aT l d with
 | some o=>decide (g_ l o=0)
 | none=>false
theorem SC.Md {P:Program}{f:FuncId}{a b:List SV}{F:Hp}{k nk:Nat}{Q:SV→Hp→Prop}(L:List Dt)(h:SC P f (a++aU L::b) F k nk Q):SC P f (a++dn L::b) F k nk Q:=by
 cases L with
 | cons d L=>exact h
 | nil=>
  refine SC.args (fun p μ M vs hv=> ?_) h
  clear h
  induction a generalizing vs with
  | nil=>
   obtain ⟨u,us,e,h1,h2⟩:=aS.aC.1 hv
   exact aS.aC.2 ⟨u,us,e,me _ _ _ _ h1,h2⟩
  | cons x a ih=>
   obtain ⟨u,us,e,h1,h2⟩:=aS.aC.1 hv
   exact aS.aC.2 ⟨u,us,e,h1,ih us h2⟩
theorem Hi (L:List Dt)(d:Dt)(hl:L.length<1000000000)(k:Nat):aG Tryz.prog ref03_In.f [dn L,.agg d.cells] [] k 0 (.d (.bool (decide (d∈L)))) []:=by
 have:=iG L d hl k
 unfold aG at this ⊢
 exact SC.Md (a:=[]) L this
section
variable {l:List ag} (hl:l.length≤80) (hd:∀ x,x∈l→x.aN<256∧x.nw∧x.dot.wf)
include hl hd
theorem JA (o:ag):Go.Sl.Pure Tryz.prog ref18_Chain.f [ops l,.agg o.cells] (dn (oP l o)):=by
 obtain ⟨L,hL,GK,_⟩:=(eN l).uG o.aV
 have hc:=vF (by omega) (fun x hx=>(hd x hx).1) (eN l) o.aV L hL (by omega)
 rw [BN hL] at hc
 have e1:oP l o=if o.kind=0 then [] else L.map (·.dot):=by unfold oP;rw [iD hL]
 obtain ⟨e,he⟩:∃ e:Int,(if MM.has (aA l).at_ o.aV then (0:Int) else 7)=e:=⟨_,rfl⟩
 rw [he] at hc
 rw [e1]
 have o14:o.cells[14]? =some (.d (.int .u8 o.kind)):=rfl
 have o15:List.take 2 (List.drop 15 o.cells)=o.aV.cells:=rfl
 refine ref18_Chain.enter (by first | rfl | simp [SV.ok,SV.av]) (by first | rfl | simp [Hp.ok,Ob.ok,SV.ok,SV.av,aJ.ah]) (by simp) ?_
 dsimp only [ref18_Chain.s,Co.M,Co.G,Co.J,Co.H,Co.N,Co.F,Co.C,Co.Z,Co.B,Co.b8,Co.ay,Co.bz,Co.i6,Co.z8,Co.bC]
 by_cases hk:o.kind=0
 ·have z:(((o.kind:Nat):Int) == 0)=true:=by rw [hk];rfl
  rw [if_pos hk]
  (repeat (first | refine SW.seq ?_ | refine SW.block ?_ | refine SW.g0 [0,1,3,4,5,9] mixed (And.intro (o14) (z)) ?_ | refine SW.skip ?_ | refine SW.exit ?_ | refine SW.ret ?_ | refine SW.ak rfl ?_ | refine SW.ai rfl ?_))
  exact End.mk [] (h4:=⟨rfl,rfl⟩)
 ·have z:(((o.kind:Nat):Int) == 0)=false:=by simpa using hk
  rw [if_neg hk]
  (repeat (first | refine SW.seq ?_ | refine SW.block ?_ | refine SW.g1 [0,1,3,4,5,9] mixed (And.intro (o14) (And.intro (o15) (z))) hc ?_ | refine SW.skip ?_ | refine SW.exit ?_ | refine SW.ret ?_ | refine SW.ak rfl ?_ | refine SW.ai rfl ?_))
  exact End.mk [] (h4:=⟨rfl,rfl⟩) (h5:=yt _ _)
theorem EY (o:ag)(k:Nat):aG Tryz.prog ref18_Chain.f [ops l,.agg o.cells] [] k 0 (dn (oP l o)) []:=(JA hl hd o).sc (yt _ _) k
theorem nW (o:ag):(oP l o).length≤9:=by
 obtain ⟨L,hL,GK,_⟩:=(eN l).uG o.aV
 unfold oP
 rw [iD hL]
 split
 ·simp
 ·rw [List.length_map];exact GK
theorem qE (d:Dt)(k:Nat):aG Tryz.prog ref17_Good.f [ops l,.agg d.cells] [] k 0 (bl (dZ l d)) []:=BC l hl hd d k
noncomputable def qF (l:List ag)(r o:ag):Bool:=decide (r.kind=2) && (decide (r.at_∈oP l o) && !o.before r)
theorem EZ (r o:ag):Go.Sl.Pure Tryz.prog ref18_Threatens.f [ops l,.agg r.cells,.agg o.cells] (bl (qF l r o)):=by
 have r14:r.cells[14]? =some (.d (.int .u8 r.kind)):=rfl
 have HW:List.take 2 (List.drop 21 r.cells)=r.at_.cells:=rfl
 have hc:=EY hl hd o
 have hi:=Hi (oP l o) r.at_ (by have:=nW hl hd o;omega)
 have hb:=bV o r
 refine ref18_Threatens.enter (by first | rfl | simp [SV.ok,SV.av]) (by first | rfl | simp [Hp.ok,Ob.ok,SV.ok,SV.av,aJ.ah]) (by simp) ?_
 dsimp only [ref18_Threatens.s,Co.M,Co.G,Co.J,Co.H,Co.N,Co.F,Co.C,Co.Z,Co.B,Co.b8,Co.ay,Co.bz,Co.i6,Co.z8,Co.bC]
 refine SW.seq ?_
 refine SW.g0 [0,1,2,4,5,6] mixed af ?_
 refine SW.seq ?_
 by_cases hk:r.kind=2
 ·have z:(((r.kind:Nat):Int) == 2)=true:=by rw [hk];rfl
  have e1:qF l r o=(decide (r.at_∈oP l o) && !o.before r):=by unfold qF;rw [hk];rfl
  rw [e1]
  rcases hx:decide (r.at_∈oP l o) with _ | _
  ·rw [hx] at hi
   refine SW.g2 [0,1,2,4,5,6] mixed (And.intro (r14) (And.intro (HW) (z))) hc hi ?_
   refine SW.ret ?_
   exact End.mk [] (h4:=⟨rfl,rfl⟩)
  ·rw [hx] at hi
   refine SW.g4 [0,1,2,4,5,6] mixed (And.intro (r14) (And.intro (HW) (z))) hc hi hb trivial ?_
   refine SW.ret ?_
   exact End.mk [] (h4:=⟨rfl,rfl⟩)
 ·have z:(((r.kind:Nat):Int) == 2)=false:=by simp;omega
  have e1:qF l r o=false:=by unfold qF;rw [decide_eq_false hk];rfl
  rw [e1]
  refine SW.g0 [0,1,2,4,5,6] mixed (And.intro (r14) (z)) ?_
  refine SW.ret ?_
  exact End.mk [] (h4:=⟨rfl,rfl⟩)
theorem qG (r o:ag)(k:Nat):aG Tryz.prog ref18_Threatens.f [ops l,.agg r.cells,.agg o.cells] [] k 0 (bl (qF l r o)) []:=(EZ hl hd r o).sc rfl k
end
end
section
attribute [local irreducible] SW RW aG SC aj an
theorem sR (s:List Dt)(x:Dt):(s++[x]).length=s.length+ [x].length:=by simp
theorem wW (s:List Dt)(x:Dt):List.map SV.d ((s++[x]).flatMap Dt.ds)=List.map SV.d (s.flatMap Dt.ds)++List.map SV.d ([x].flatMap Dt.ds):=by simp
noncomputable def qH (l:List ag):List Dt:=(l.filter fun o=>dZ l o.dot).map (·.dot)
noncomputable def aI (l:List ag):List Dt:=Dt.set (qH l)
theorem oJ {l:List ag}{d:Dt}:d∈aI l↔dZ l d=true:=by
 unfold aI qH
 rw [Dt.mem_set,List.mem_map]
 constructor
 ·rintro ⟨o,ho,rfl⟩
  exact (List.mem_filter.1 ho).2
 ·intro h
  unfold dZ at h
  cases hf:aT l d with
  | none=>rw [hf] at h;cases h
  | some o=>
   have hd:=gi hf
   refine ⟨o,List.mem_filter.2 ⟨rC hf,?_⟩,hd⟩
   rw [hd]
   unfold dZ
   rw [hf] at h ⊢
   exact h
section
variable {l:List ag} (hl:l.length≤80) (hd:∀ x,x∈l→x.aN<256∧x.nw∧x.dot.wf)
include hl hd
theorem jQ:(aI l).length≤80:=by
 have h1:=Dt.EX (qH l)
 have h2:(qH l).length≤l.length:=by unfold qH;rw [List.length_map];exact List.length_filter_le _ _
 unfold aI
 omega
set_option maxHeartbeats 4000000 in
theorem BO:Go.Sl.Pure Tryz.prog ref18_Good.f [ops l] (aU (aI l)):=by
 refine ref18_Good.enter (by first | rfl | simp [SV.ok,SV.av]) (by first | rfl | simp [Hp.ok,Ob.ok,SV.ok,SV.av,aJ.ah]) (by simp) ?_
 dsimp only [ref18_Good.s,Co.M,Co.G,Co.J,Co.H,Co.N,Co.F,Co.C,Co.Z,Co.B,Co.b8,Co.ay,Co.bz,Co.i6,Co.z8,Co.bC]
 refine SW.seq ?_
 refine SW.g0 [0,2,3,4,8,17] mixed af ?_
 refine SW.seq ?_
 refine SW.g0 [0,2,3,4,8,17] mixed af ?_
 refine SW.js 3 37 2 rfl ?_
 refine SW.seq (SW.seq ?_)
 refine SW.g0 [0,2,3,4,8,17] mixed af ?_
 refine SW.block ?_
 refine SW.kg (α:={i:Nat // i≤l.length}) (fun i=>⟨[(4,i64 i.1),(3,.gs 0 (((l.take i.1).filter fun o=>dZ l o.dot).map (·.dot)).length),(0,ops l)],[(0,.arr 37 2 (((l.take i.1).filter fun o=>dZ l o.dot).map (·.dot)).length (((((l.take i.1).filter fun o=>dZ l o.dot).map (·.dot)).flatMap Dt.ds).map .d))],1⟩) (fun i=>l.length - i.1) ⟨0,by omega⟩ id af (round:= ?_)
 rintro ⟨i,hi⟩
 dsimp only
 by_cases h:i<l.length
 ·obtain ⟨x,hx⟩:=bq h
  have h1:decide ((i:Int)<l.length)=true:=by simp only [decide_eq_true_eq];omega
  have e2:IntKind.i64.wrap ((i:Int)+1)=((i+1:Nat):Int):=wrap_i64 _ (by omega)
  have hg:=qE hl hd x.dot
  have eY:(((l.take i).filter fun o=>dZ l o.dot).map (·.dot)).length≤80:=by
   rw [List.length_map]
   have:=List.length_filter_le (fun o=>dZ l o.dot) (l.take i)
   have h3:(l.take i).length≤l.length:=by rw [List.length_take];omega
   omega
  refine SW.seq (SW.seq ?_)
  refine SW.g0 [0,2,3,4,8,17] mixed (h1) ?_
  refine SW.ak rfl (SW.skip ?_)
  refine SW.seq (SW.block (SW.seq ?_))
  rcases hgx:dZ l x.dot with _ | _
  ·rw [hgx] at hg
   have hsn:(((l.take (i+1)).filter fun o=>dZ l o.dot).map (·.dot))=((l.take i).filter fun o=>dZ l o.dot).map (·.dot):=by rw [bR hx,List.filter_append,List.map_append];simp [hgx]
   generalize ((l.take i).filter fun o=>dZ l o.dot).map (·.dot)=s at hsn eY ⊢
   refine SW.g1 [0,2,3,4,8,17] mixed (And.intro (ox hx) (lM hx)) hg ?_
   refine SW.ai rfl (SW.skip ?_)
   refine SW.g0 [0,2,3,4,8,17] mixed (e2) ?_
   refine ⟨⟨i+1,by omega⟩,id,by show l.length - (i+1)<_;omega,?_⟩
   dsimp only
   rw [hsn]
   exact aK.mk af
  ·rw [hgx] at hg
   have hsn:(((l.take (i+1)).filter fun o=>dZ l o.dot).map (·.dot))=((l.take i).filter fun o=>dZ l o.dot).map (·.dot)++[x.dot]:=by rw [bR hx,List.filter_append,List.map_append];simp [hgx]
   generalize ((l.take i).filter fun o=>dZ l o.dot).map (·.dot)=s at hsn eY ⊢
   refine SW.g1 [0,2,3,4,8,17] mixed (And.intro (ox hx) (lM hx)) hg ?_
   refine SW.ak rfl ?_
   refine SW.g0 [0,2,3,4,8,17] mixed (And.intro (ox hx) (lM hx)) ?_
   refine SW.g0 [0,2,3,4,8,17] mixed (e2) ?_
   refine ⟨⟨i+1,by omega⟩,fun n=>if n=0 then 1 else n,by show l.length - (i+1)<_;omega,?_⟩
   dsimp only
   rw [hsn]
   exact aK.mk (And.intro (sR s x.dot) (wW s x.dot))
 ·have h1:decide ((i:Int)<l.length)=false:=by simp only [decide_eq_false_iff_not];omega
  have h2:i=l.length:=by omega
  subst h2
  rw [List.take_length]
  have hs:=Eg (qH l) (by unfold qH;rw [List.length_map];have:=List.length_filter_le (fun o=>dZ l o.dot) l;omega) (fun v hv=>by
   unfold qH at hv
   obtain ⟨o,ho,rfl⟩:=List.mem_map.1 hv
   exact (hd o (List.mem_filter.1 ho).1).2.2)
  refine SW.seq (SW.seq ?_)
  refine SW.g0 [0,2,3,4,8,17] mixed (h1) ?_
  refine SW.ai rfl (SW.exit ?_)
  refine SW.freeze 0 ((qH l).flatMap Dt.ds) rfl rfl ?_
  simp only [iP,SV.gp,List.map_cons,List.map_nil,if_true,if_false,reduceIte,bS,Nat.reduceEqDiff]
  refine SW.seq ?_
  refine SW.g1 [0,2,3,4,8,17] mixed af hs ?_
  refine SW.ret ?_
  exact End.mk [] (h4:=⟨rfl,rfl⟩)
theorem oK (k:Nat):aG Tryz.prog ref18_Good.f [ops l] [] k 0 (aU (aI l)) []:=(BO hl hd).sc rfl k
end
end
section
attribute [local irreducible] SW RW aG SC aj an
noncomputable def nt (l:List ag)(d:Dt)(v:Dt):Bool:=decide ((jx l v).kind=2) && decide ((jx l v).at_=d)
noncomputable def mU (l:List ag)(d:Dt)(v:Dt):Bool:=qF l (jx l v) (jx l d)
noncomputable def nX (l:List ag)(d:Dt)(v:Dt):Bool:=qF l (jx l d) (jx l v)
noncomputable def jf (l:List ag)(d:Dt):SV:=if dZ l d then .cN [.d (.int .i64 (((oP l (jx l d)).length:Int) - 1)),bl true] else .cN [i64 0,bl false]
noncomputable def qI (l:List ag)(d:Dt):SV:=if dZ l d then .cN [aU ((aI l).filter (mU l d)),bl true] else .cN [.d .aD,bl false]
noncomputable def qJ (l:List ag)(d:Dt):SV:=if dZ l d then aU ((aI l).filter (nX l d)) else .d .aD
theorem lT (l:List ag)(hl:l.length<4611686018427387904)(d:Dt)(k:Nat):aG Tryz.prog ref10_Find.f [ops l,.agg d.cells] [] k 0 (.cN [.agg (jx l d).cells,bl (aT l d).isSome]) []:=oy l hl d k
section
variable {l:List ag} (hl:l.length≤80) (hd:∀ x,x∈l→x.aN<256∧x.nw∧x.dot.wf)
include hl hd
theorem BP (d:Dt):Go.Sl.Pure Tryz.prog ref18_Level.f [ops l,.agg d.cells] (jf l d):=by
 have hg:=qE hl hd d
 have hf:=lT l (by omega) d
 have hc:=EY hl hd (jx l d)
 have kZ:=nW hl hd (jx l d)
 refine ref18_Level.enter (by first | rfl | simp [SV.ok,SV.av]) (by first | rfl | simp [Hp.ok,Ob.ok,SV.ok,SV.av,aJ.ah]) (by simp) ?_
 dsimp only [ref18_Level.s,Co.M,Co.G,Co.J,Co.H,Co.N,Co.F,Co.C,Co.Z,Co.B,Co.b8,Co.ay,Co.bz,Co.i6,Co.z8,Co.bC]
 refine SW.seq ?_
 refine SW.g0 [0,1,3,4,5,6,11] mixed af ?_
 refine SW.seq (SW.seq ?_)
 rcases hgd:dZ l d with _ | _
 ·rw [hgd] at hg
  have e1:jf l d= .cN [i64 0,bl false]:=by unfold jf;rw [hgd];rfl
  rw [e1]
  refine SW.g1 [0,1,3,4,5,6,11] mixed af hg ?_
  refine SW.ak rfl (SW.seq ?_)
  refine SW.g0 [0,1,3,4,5,6,11] mixed af ?_
  refine SW.ret ?_
  exact End.mk [] (h4:=⟨rfl,rfl⟩)
 ·rw [hgd] at hg
  have e1:jf l d= .cN [.d (.int .i64 (((oP l (jx l d)).length:Int) - 1)),bl true]:=by unfold jf;rw [hgd];rfl
  rw [e1]
  generalize jx l d=o at hf hc kZ ⊢
  generalize oP l o=L at hc kZ ⊢
  refine SW.g1 [0,1,3,4,5,6,11] mixed af hg ?_
  refine SW.ai rfl (SW.skip ?_)
  refine SW.seq ?_
  refine SW.g1 [0,1,3,4,5,6,11] mixed af hf ?_
  refine SW.seq ?_
  have hw:IntKind.i64.wrap ((L.length:Int) - 1)=(L.length:Int) - 1:=wrap_i64 _ (by omega)
  cases L with
  | nil=>
   change ∀ k,aG Tryz.prog ref18_Chain.f [ops l,.agg o.cells] [] k 0 (.d .aD) [] at hc
   refine SW.g1 [0,1,3,4,5,6,11] mixed af hc ?_
   refine SW.ret ?_
   exact End.mk [] (h4:=⟨by simp [ej],rfl⟩)
  | cons c L=>
   change ∀ k,aG Tryz.prog ref18_Chain.f [ops l,.agg o.cells] [] k 0 (aU (c::L)) [] at hc
   refine SW.g1 [0,1,3,4,5,6,11] mixed (hw) hc ?_
   refine SW.ret ?_
   exact End.mk [] (h4:=⟨by simp [ej],rfl⟩)
theorem vL (d:Dt)(k:Nat):aG Tryz.prog ref18_Level.f [ops l,.agg d.cells] [] k 0 (jf l d) []:=(BP hl hd d).sc (by unfold jf;split <;> rfl) k
set_option maxHeartbeats 4000000 in
theorem zM (d:Dt):Go.Sl.Pure Tryz.prog ref18_Revokes.f [ops l,.agg d.cells] (aU ((aI l).filter (nt l d))):=by
  refine ref18_Revokes.enter (by first | rfl | simp [SV.ok,SV.av]) (by first | rfl | simp [Hp.ok,Ob.ok,SV.ok,SV.av,aJ.ah]) (by simp) ?_
  dsimp only [ref18_Revokes.s,Co.M,Co.G,Co.J,Co.H,Co.N,Co.F,Co.C,Co.Z,Co.B,Co.b8,Co.ay,Co.bz,Co.i6,Co.z8,Co.bC]
  refine SW.seq ?_
  refine SW.g0 [0,1,3,4,5,6,7,8,15,35] mixed af ?_
  refine SW.seq ?_
  have p0:=oK hl hd
  refine SW.g1 [0,1,3,4,5,6,7,8,15,35] mixed af p0 ?_
  refine SW.seq ?_
  refine SW.g0 [0,1,3,4,5,6,7,8,15,35] mixed af ?_
  refine SW.js 6 37 2 rfl ?_
  refine SW.seq (SW.seq ?_)
  refine SW.g0 [0,1,3,4,5,6,7,8,15,35] mixed af ?_
  refine SW.block ?_
  have hgl:=jQ hl hd
  refine SW.kg (α:={i:Nat // i≤(aI l).length}) (fun i=>⟨[(7,i64 i.1),(6,.gs 1 (((aI l).take i.1).filter (nt l d)).length),(5,aU (aI l)),(3,.ptr 0 0),(0,ops l)],[(1,.arr 37 2 (((aI l).take i.1).filter (nt l d)).length (((((aI l).take i.1).filter (nt l d)).flatMap Dt.ds).map .d)),(0,.box 37 d.cells)],2⟩) (fun i=>(aI l).length - i.1) ⟨0,by omega⟩ id af (round:= ?_)
  rintro ⟨i,hi⟩
  dsimp only
  by_cases h:i<(aI l).length
  · obtain ⟨v,hx⟩:=bq h
    have h1:decide ((i:Int)<(aI l).length)=true:=by simp only [decide_eq_true_eq];omega
    have e2:IntKind.i64.wrap ((i:Int)+1)=((i+1:Nat):Int):=wrap_i64 _ (by omega)
    have hfv:=lT l (by omega) v
    have eY:(((aI l).take i).filter (nt l d)).length≤80:=by
      have h2:=List.length_filter_le (nt l d) ((aI l).take i)
      have h3:((aI l).take i).length≤(aI l).length:=by rw [List.length_take];omega
      omega
    refine SW.seq (SW.seq ?_)
    refine SW.g0 [0,1,3,4,5,6,7,8,15,35] mixed (h1) ?_
    refine SW.ak rfl (SW.skip ?_)
    refine SW.seq (SW.block (SW.seq ?_))
    rcases hp:nt l d v with _ | _
    · have hsn:((aI l).take (i+1)).filter (nt l d)=((aI l).take i).filter (nt l d):=by rw [bR hx,List.filter_append];simp [hp]
      generalize ((aI l).take i).filter (nt l d)=s at hsn eY ⊢
      have hpe:(decide ((jx l v).kind=2) && decide ((jx l v).at_=d))=false:=hp
      generalize jx l v=r at hfv hpe
      have r14:r.cells[14]? =some (.d (.int .u8 r.kind)):=rfl
      have HW:List.take 2 (List.drop 21 r.cells)=r.at_.cells:=rfl
      refine SW.g1 [0,1,3,4,5,6,7,8,15,35] mixed (dA hx) hfv ?_
      refine SW.cut (stM:=⟨[(35,bl false),(7,i64 i),(6,.gs 1 s.length),(5,aU (aI l)),(3,.ptr 0 0),(0,ops l)],[(1,.arr 37 2 s.length ((s.flatMap Dt.ds).map .d)),(0,.box 37 d.cells)],3⟩) id ?_ ?_
      · by_cases hk:r.kind=2
        · have z:(((r.kind:Nat):Int) == 2)=true:=by rw [hk];rfl
          have f:decide (r.at_=d)=false:=by rw [hk] at hpe;exact hpe
          refine SW.g0 [0,1,3,4,5,6,7,8,15,35] mixed (And.intro (r14) (And.intro (HW) (And.intro (z) (f)))) ?_
          exact aK.mk af
        · have z:(((r.kind:Nat):Int) == 2)=false:=by simp;omega
          refine SW.g0 [0,1,3,4,5,6,7,8,15,35] mixed (And.intro (r14) (And.intro (HW) (z))) ?_
          exact aK.mk af
      refine SW.ai rfl (SW.skip ?_)
      refine SW.g0 [0,1,3,4,5,6,7,8,15,35] mixed (e2) ?_
      refine ⟨⟨i+1,by omega⟩,id,by show (aI l).length - (i+1)<_;omega,?_⟩
      dsimp only
      rw [hsn]
      exact aK.mk af
    · have hsn:((aI l).take (i+1)).filter (nt l d)=((aI l).take i).filter (nt l d)++[v]:=by rw [bR hx,List.filter_append];simp [hp]
      generalize ((aI l).take i).filter (nt l d)=s at hsn eY ⊢
      have hpe:(decide ((jx l v).kind=2) && decide ((jx l v).at_=d))=true:=hp
      generalize jx l v=r at hfv hpe
      have r14:r.cells[14]? =some (.d (.int .u8 r.kind)):=rfl
      have HW:List.take 2 (List.drop 21 r.cells)=r.at_.cells:=rfl
      refine SW.g1 [0,1,3,4,5,6,7,8,15,35] mixed (dA hx) hfv ?_
      refine SW.seq ?_
      rw [Bool.and_eq_true,decide_eq_true_eq] at hpe
      have z:(((r.kind:Nat):Int) == 2)=true:=by rw [hpe.1];rfl
      have f:=hpe.2
      refine SW.g0 [0,1,3,4,5,6,7,8,15,35] mixed (And.intro (r14) (And.intro (HW) (And.intro (z) (f)))) ?_
      refine SW.ak rfl ?_
      refine SW.g0 [0,1,3,4,5,6,7,8,15,35] mixed (dA hx) ?_
      refine SW.g0 [0,1,3,4,5,6,7,8,15,35] mixed (e2) ?_
      refine ⟨⟨i+1,by omega⟩,fun n=>if n=1 then 3 else n,by show (aI l).length - (i+1)<_;omega,?_⟩
      dsimp only
      rw [hsn]
      exact aK.mk (And.intro (sR s v) (wW s v))
  · have h1:decide ((i:Int)<(aI l).length)=false:=by simp only [decide_eq_false_iff_not];omega
    have h2:i=(aI l).length:=by omega
    subst h2
    rw [List.take_length]
    refine SW.seq (SW.seq ?_)
    refine SW.g0 [0,1,3,4,5,6,7,8,15,35] mixed (h1) ?_
    refine SW.ai rfl (SW.exit ?_)
    refine SW.freeze 1 (((aI l).filter (nt l d)).flatMap Dt.ds) rfl rfl ?_
    simp only [iP,SV.gp,List.map_cons,List.map_nil,if_true,if_false,reduceIte,bS,Nat.reduceEqDiff]
    refine SW.seq ?_
    refine SW.g0 [0,1,3,4,5,6,7,8,15,35] mixed af ?_
    refine SW.ret ?_
    exact End.mk [] (h4:=⟨rfl,rfl⟩)
theorem zN (d:Dt)(k:Nat):aG Tryz.prog ref18_Revokes.f [ops l,.agg d.cells] [] k 0 (aU ((aI l).filter (nt l d))) []:=(zM hl hd d).sc (rfl) k
set_option maxHeartbeats 4000000 in
theorem BQ (d:Dt):Go.Sl.Pure Tryz.prog ref18_Threats.f [ops l,.agg d.cells] (qI l d):=by
 have hg:=qE hl hd d
 have hf:=lT l (by omega) d
 refine ref18_Threats.enter (by first | rfl | simp [SV.ok,SV.av]) (by first | rfl | simp [Hp.ok,Ob.ok,SV.ok,SV.av,aJ.ah]) (by simp) ?_
 dsimp only [ref18_Threats.s,Co.M,Co.G,Co.J,Co.H,Co.N,Co.F,Co.C,Co.Z,Co.B,Co.b8,Co.ay,Co.bz,Co.i6,Co.z8,Co.bC]
 refine SW.seq ?_
 refine SW.g0 [0,1,3,4,5,6,8,9,10,11,16,28,43] mixed af ?_
 refine SW.seq (SW.seq ?_)
 rcases hgd:dZ l d with _ | _
 ·rw [hgd] at hg
  have e1:qI l d= .cN [.d .aD,bl false]:=by unfold qI;rw [hgd];rfl
  rw [e1]
  refine SW.g1 [0,1,3,4,5,6,8,9,10,11,16,28,43] mixed af hg ?_
  refine SW.ak rfl (SW.seq ?_)
  refine SW.g0 [0,1,3,4,5,6,8,9,10,11,16,28,43] mixed af ?_
  refine SW.ret ?_
  exact End.mk [] (h4:=⟨rfl,rfl⟩)
 rw [hgd] at hg
 have e1:qI l d= .cN [aU ((aI l).filter (mU l d)),bl true]:=by unfold qI;rw [hgd];rfl
 rw [e1]
 refine SW.g1 [0,1,3,4,5,6,8,9,10,11,16,28,43] mixed af hg ?_
 refine SW.ai rfl (SW.skip ?_)
 refine SW.seq ?_
 refine SW.g1 [0,1,3,4,5,6,8,9,10,11,16,28,43] mixed af hf ?_
 refine SW.seq ?_
 have p0:=oK hl hd
 refine SW.g1 [0,1,3,4,5,6,8,9,10,11,16,28,43] mixed af p0 ?_
 refine SW.seq ?_
 refine SW.g0 [0,1,3,4,5,6,8,9,10,11,16,28,43] mixed af ?_
 refine SW.js 9 37 2 rfl ?_
 refine SW.seq (SW.seq ?_)
 refine SW.g0 [0,1,3,4,5,6,8,9,10,11,16,28,43] mixed af ?_
 refine SW.block ?_
 have hgl:=jQ hl hd
 refine SW.kg (α:={i:Nat // i≤(aI l).length}) (fun i=>⟨[(10,i64 i.1),(9,.gs 2 (((aI l).take i.1).filter (mU l d)).length),(8,aU (aI l)),(6,.ptr 1 0),(0,ops l)],[(2,.arr 37 2 (((aI l).take i.1).filter (mU l d)).length (((((aI l).take i.1).filter (mU l d)).flatMap Dt.ds).map .d)),(1,.box 43 (jx l d).cells)],3⟩) (fun i=>(aI l).length - i.1) ⟨0,by omega⟩ id af (round:= ?_)
 rintro ⟨i,hi⟩
 dsimp only
 by_cases h:i<(aI l).length
 ·obtain ⟨v,hx⟩:=bq h
  have h1:decide ((i:Int)<(aI l).length)=true:=by simp only [decide_eq_true_eq];omega
  have e2:IntKind.i64.wrap ((i:Int)+1)=((i+1:Nat):Int):=wrap_i64 _ (by omega)
  have hfv:=lT l (by omega) v
  have eY:(((aI l).take i).filter (mU l d)).length≤80:=by
   have h2:=List.length_filter_le (mU l d) ((aI l).take i)
   have h3:((aI l).take i).length≤(aI l).length:=by rw [List.length_take];omega
   omega
  refine SW.seq (SW.seq ?_)
  refine SW.g0 [0,1,3,4,5,6,8,9,10,11,16,28,43] mixed (h1) ?_
  refine SW.ak rfl (SW.skip ?_)
  refine SW.seq (SW.block (SW.seq ?_))
  rcases hp:mU l d v with _ | _
  ·have hsn:((aI l).take (i+1)).filter (mU l d)=((aI l).take i).filter (mU l d):=by rw [bR hx,List.filter_append];simp [hp]
   generalize ((aI l).take i).filter (mU l d)=s at hsn eY ⊢
   have hT:=qG hl hd (jx l v) (jx l d)
   rw [show qF l (jx l v) (jx l d)=false from hp] at hT
   refine SW.g2 [0,1,3,4,5,6,8,9,10,11,16,28,43] mixed (dA hx) hfv hT ?_
   refine SW.seq ?_
   refine SW.g2 [0,1,3,4,5,6,8,9,10,11,16,28,43] mixed af hfv hT ?_
   refine SW.ai rfl (SW.skip ?_)
   refine SW.g0 [0,1,3,4,5,6,8,9,10,11,16,28,43] mixed (e2) ?_
   refine ⟨⟨i+1,by omega⟩,id,by show (aI l).length - (i+1)<_;omega,?_⟩
   dsimp only
   rw [hsn]
   exact aK.mk af
  ·have hsn:((aI l).take (i+1)).filter (mU l d)=((aI l).take i).filter (mU l d)++[v]:=by rw [bR hx,List.filter_append];simp [hp]
   generalize ((aI l).take i).filter (mU l d)=s at hsn eY ⊢
   have hT:=qG hl hd (jx l v) (jx l d)
   rw [show qF l (jx l v) (jx l d)=true from hp] at hT
   refine SW.g2 [0,1,3,4,5,6,8,9,10,11,16,28,43] mixed (dA hx) hfv hT ?_
   refine SW.seq ?_
   refine SW.g2 [0,1,3,4,5,6,8,9,10,11,16,28,43] mixed af hfv hT ?_
   refine SW.ak rfl ?_
   refine SW.g0 [0,1,3,4,5,6,8,9,10,11,16,28,43] mixed (dA hx) ?_
   refine SW.g0 [0,1,3,4,5,6,8,9,10,11,16,28,43] mixed (e2) ?_
   refine ⟨⟨i+1,by omega⟩,fun n=>if n=2 then 4 else n,by show (aI l).length - (i+1)<_;omega,?_⟩
   dsimp only
   rw [hsn]
   exact aK.mk (And.intro (sR s v) (wW s v))
 ·have h1:decide ((i:Int)<(aI l).length)=false:=by simp only [decide_eq_false_iff_not];omega
  have h2:i=(aI l).length:=by omega
  subst h2
  rw [List.take_length]
  refine SW.seq (SW.seq ?_)
  refine SW.g0 [0,1,3,4,5,6,8,9,10,11,16,28,43] mixed (h1) ?_
  refine SW.ai rfl (SW.exit ?_)
  refine SW.freeze 2 (((aI l).filter (mU l d)).flatMap Dt.ds) rfl rfl ?_
  simp only [iP,SV.gp,List.map_cons,List.map_nil,if_true,if_false,reduceIte,bS,Nat.reduceEqDiff]
  refine SW.seq ?_
  refine SW.g0 [0,1,3,4,5,6,8,9,10,11,16,28,43] mixed af ?_
  refine SW.ret ?_
  exact End.mk [] (h4:=⟨rfl,rfl⟩)
theorem BR (d:Dt)(k:Nat):aG Tryz.prog ref18_Threats.f [ops l,.agg d.cells] [] k 0 (qI l d) []:=(BQ hl hd d).sc (by unfold qI;split <;> rfl) k
set_option maxHeartbeats 4000000 in
theorem BS (d:Dt):Go.Sl.Pure Tryz.prog ref18_Threatened.f [ops l,.agg d.cells] (qJ l d):=by
 have hg:=qE hl hd d
 have hf:=lT l (by omega) d
 refine ref18_Threatened.enter (by first | rfl | simp [SV.ok,SV.av]) (by first | rfl | simp [Hp.ok,Ob.ok,SV.ok,SV.av,aJ.ah]) (by simp) ?_
 dsimp only [ref18_Threatened.s,Co.M,Co.G,Co.J,Co.H,Co.N,Co.F,Co.C,Co.Z,Co.B,Co.b8,Co.ay,Co.bz,Co.i6,Co.z8,Co.bC]
 refine SW.seq ?_
 refine SW.g0 [0,1,3,4,5,7,8,9,10,15,27,42] mixed af ?_
 refine SW.seq (SW.seq ?_)
 rcases hgd:dZ l d with _ | _
 ·rw [hgd] at hg
  have e1:qJ l d= .d .aD:=by unfold qJ;rw [hgd];rfl
  rw [e1]
  refine SW.g1 [0,1,3,4,5,7,8,9,10,15,27,42] mixed af hg ?_
  refine SW.ak rfl (SW.seq ?_)
  refine SW.g0 [0,1,3,4,5,7,8,9,10,15,27,42] mixed af ?_
  refine SW.ret ?_
  exact End.mk [] (h4:=⟨rfl,rfl⟩)
 rw [hgd] at hg
 have e1:qJ l d=aU ((aI l).filter (nX l d)):=by unfold qJ;rw [hgd];rfl
 rw [e1]
 refine SW.g1 [0,1,3,4,5,7,8,9,10,15,27,42] mixed af hg ?_
 refine SW.ai rfl (SW.skip ?_)
 refine SW.seq ?_
 refine SW.g1 [0,1,3,4,5,7,8,9,10,15,27,42] mixed af hf ?_
 refine SW.seq ?_
 have p0:=oK hl hd
 refine SW.g1 [0,1,3,4,5,7,8,9,10,15,27,42] mixed af p0 ?_
 refine SW.seq ?_
 refine SW.g0 [0,1,3,4,5,7,8,9,10,15,27,42] mixed af ?_
 refine SW.js 8 37 2 rfl ?_
 refine SW.seq (SW.seq ?_)
 refine SW.g0 [0,1,3,4,5,7,8,9,10,15,27,42] mixed af ?_
 refine SW.block ?_
 have hgl:=jQ hl hd
 refine SW.kg (α:={i:Nat // i≤(aI l).length}) (fun i=>⟨[(9,i64 i.1),(8,.gs 2 (((aI l).take i.1).filter (nX l d)).length),(7,aU (aI l)),(5,.ptr 1 0),(0,ops l)],[(2,.arr 37 2 (((aI l).take i.1).filter (nX l d)).length (((((aI l).take i.1).filter (nX l d)).flatMap Dt.ds).map .d)),(1,.box 43 (jx l d).cells)],3⟩) (fun i=>(aI l).length - i.1) ⟨0,by omega⟩ id af (round:= ?_)
 rintro ⟨i,hi⟩
 dsimp only
 by_cases h:i<(aI l).length
 ·obtain ⟨v,hx⟩:=bq h
  have h1:decide ((i:Int)<(aI l).length)=true:=by simp only [decide_eq_true_eq];omega
  have e2:IntKind.i64.wrap ((i:Int)+1)=((i+1:Nat):Int):=wrap_i64 _ (by omega)
  have hfv:=lT l (by omega) v
  have eY:(((aI l).take i).filter (nX l d)).length≤80:=by
   have h2:=List.length_filter_le (nX l d) ((aI l).take i)
   have h3:((aI l).take i).length≤(aI l).length:=by rw [List.length_take];omega
   omega
  refine SW.seq (SW.seq ?_)
  refine SW.g0 [0,1,3,4,5,7,8,9,10,15,27,42] mixed (h1) ?_
  refine SW.ak rfl (SW.skip ?_)
  refine SW.seq (SW.block (SW.seq ?_))
  rcases hp:nX l d v with _ | _
  ·have hsn:((aI l).take (i+1)).filter (nX l d)=((aI l).take i).filter (nX l d):=by rw [bR hx,List.filter_append];simp [hp]
   generalize ((aI l).take i).filter (nX l d)=s at hsn eY ⊢
   have hT:=qG hl hd (jx l d) (jx l v)
   rw [show qF l (jx l d) (jx l v)=false from hp] at hT
   refine SW.g2 [0,1,3,4,5,7,8,9,10,15,27,42] mixed (dA hx) hfv hT ?_
   refine SW.seq ?_
   refine SW.g2 [0,1,3,4,5,7,8,9,10,15,27,42] mixed af hfv hT ?_
   refine SW.ai rfl (SW.skip ?_)
   refine SW.g0 [0,1,3,4,5,7,8,9,10,15,27,42] mixed (e2) ?_
   refine ⟨⟨i+1,by omega⟩,id,by show (aI l).length - (i+1)<_;omega,?_⟩
   dsimp only
   rw [hsn]
   exact aK.mk af
  ·have hsn:((aI l).take (i+1)).filter (nX l d)=((aI l).take i).filter (nX l d)++[v]:=by rw [bR hx,List.filter_append];simp [hp]
   generalize ((aI l).take i).filter (nX l d)=s at hsn eY ⊢
   have hT:=qG hl hd (jx l d) (jx l v)
   rw [show qF l (jx l d) (jx l v)=true from hp] at hT
   refine SW.g2 [0,1,3,4,5,7,8,9,10,15,27,42] mixed (dA hx) hfv hT ?_
   refine SW.seq ?_
   refine SW.g2 [0,1,3,4,5,7,8,9,10,15,27,42] mixed af hfv hT ?_
   refine SW.ak rfl ?_
   refine SW.g0 [0,1,3,4,5,7,8,9,10,15,27,42] mixed (dA hx) ?_
   refine SW.g0 [0,1,3,4,5,7,8,9,10,15,27,42] mixed (e2) ?_
   refine ⟨⟨i+1,by omega⟩,fun n=>if n=2 then 4 else n,by show (aI l).length - (i+1)<_;omega,?_⟩
   dsimp only
   rw [hsn]
   exact aK.mk (And.intro (sR s v) (wW s v))
 ·have h1:decide ((i:Int)<(aI l).length)=false:=by simp only [decide_eq_false_iff_not];omega
  have h2:i=(aI l).length:=by omega
  subst h2
  rw [List.take_length]
  refine SW.seq (SW.seq ?_)
  refine SW.g0 [0,1,3,4,5,7,8,9,10,15,27,42] mixed (h1) ?_
  refine SW.ai rfl (SW.exit ?_)
  refine SW.freeze 2 (((aI l).filter (nX l d)).flatMap Dt.ds) rfl rfl ?_
  simp only [iP,SV.gp,List.map_cons,List.map_nil,if_true,if_false,reduceIte,bS,Nat.reduceEqDiff]
  refine SW.seq ?_
  refine SW.g0 [0,1,3,4,5,7,8,9,10,15,27,42] mixed af ?_
  refine SW.ret ?_
  exact End.mk [] (h4:=⟨rfl,rfl⟩)
theorem BT (d:Dt)(k:Nat):aG Tryz.prog ref18_Threatened.f [ops l,.agg d.cells] [] k 0 (qJ l d) []:=(BS hl hd d).sc (by unfold qJ;split <;> rfl) k
end
end
end Go.Proofs.YtaelhkkjgfobhaaGreat
