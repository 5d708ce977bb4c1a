/-
 Revoke: the document's chains, those that are well-formed, levels.
-/
import Derived.Test.YtaelhkkjgfobhaaGreatU6
import Derived.Test.YtaelhkkjgfobhaaGreatUS
import Derived.Test.YtaelhkkjgfobhaaGreatUM
set_option linter.unusedSectionVars false
set_option linter.unusedVariables false
set_option linter.unusedSimpArgs false
namespace Go.Proofs.YtaelhkkjgfobhaaGreat
open Go.Sl Go.Proofs
section
attribute [local irreducible] SW RW aG SC ai aq
theorem CH {a:MM Dt Cr}{d:Dt}{L:List Cr}(hL:mg a (MM.get a d) L):gD a d L= .dw [dn (L.map (·.dot)),.d (.int .i64 (if MM.has a d then 0 else 7))]:=by
 unfold gD MM.has;cases hg:MM.get a d with
 | none=>
  rw [hg] at hL;cases hL;rfl
 | some c=>
  rw [hg] at hL;cases L with
  | nil=>cases hL
  | cons x L=>simp [dn,bp]
noncomputable def dx (l:List ag)(d:Dt):Bool:=match aJ l d with
 | some o=>decide (gE l o=0)
 | none=>false
theorem SC.OE {P:Program}{f:FuncId}{a b:List SV}{F:Hp}{k nk:Nat}{Q:SV→Hp→Prop}(L:List Dt)(h:SC P f (a++bp L::b) F k nk Q):SC P f (a++dn L::b) F k nk Q:=by
 cases L with
 | cons d L=>exact h
 | nil=>
  refine SC.args (fun p μ M vs hv=> ?_) h
  clear h
  induction a generalizing vs with
  | nil=>
   obtain ⟨u,us,e,h1,h2⟩:=aW.aD.1 hv;exact aW.aD.2 ⟨u,us,e,lB _ _ _ _ h1,h2⟩
  | cons x a ih=>
   obtain ⟨u,us,e,h1,h2⟩:=aW.aD.1 hv;exact aW.aD.2 ⟨u,us,e,h1,ih us h2⟩
theorem Iw (L:List Dt)(d:Dt)(hl:L.length<1000000000)(k:Nat):aG Tryz.prog ref03_In.f [dn L,.agg d.cells] [] k 0 (.d (.bool (decide (d∈L)))) []:=by
 have:=gT L d hl k;unfold aG at this ⊢;exact SC.OE (a:=[]) L this
section
variable {l:List ag} (hl:l.length≤80) (hd:∀ x,x∈l→x.aQ<256∧x.nQ∧x.dot.wf)
include hl hd
theorem KV (o:ag):Go.Sl.Pure Tryz.prog ref18_Chain.f [ops l,.agg o.cells] (dn (gQ l o)):=by
 obtain ⟨L,hL,HY,_⟩:=(eA l).s4 o.aL;have hc:=wj (by omega) (fun x hx=>(hd x hx).1) (eA l) o.aL L hL (by omega)
 rw [CH hL] at hc;have e1:gQ l o=if o.kind=0 then [] else L.map (·.dot):=by unfold gQ;rw [gr hL]
 obtain ⟨e,he⟩:∃ e:Int,(if MM.has (aA l).at_ o.aL then (0:Int) else 7)=e:=⟨_,rfl⟩
 rw [he] at hc;rw [e1];have o14:o.cells[14]? =some (.d (.int .u8 o.kind)):=rfl;have o15:List.take 2 (List.drop 15 o.cells)=o.aL.cells:=rfl;refine ref18_Chain.enter (by first | rfl | simp [SV.ok,SV.ay]) (by first | rfl | simp [Hp.ok,Ob.ok,SV.ok,SV.ay,aB.aj]) (by simp) ?_
 dsimp only [ref18_Chain.s,Co.M,Co.G,Co.J,Co.H,Co.N,Co.F,Co.C,Co.Z,Co.B,Co.b8,Co.ax,Co.bC,Co.i6,Co.z8,Co.bF]
 by_cases hk:o.kind=0
 ·have z:(((o.kind:Nat):Int) == 0)=true:=by rw [hk];rfl
  rw [if_pos hk]
  (repeat (first | refine SW.seq ?_ | refine SW.block ?_ | refine SW.g0 [0,1,3,4,5,9] mixed (And.intro (o14) (z)) ?_ | refine SW.skip ?_ | refine SW.exit ?_ | refine SW.ret ?_ | refine SW.ak rfl ?_ | refine SW.ah rfl ?_))
  exact End.mk [] (h4:=⟨rfl,rfl⟩)
 ·have z:(((o.kind:Nat):Int) == 0)=false:=by simpa using hk
  rw [if_neg hk]
  (repeat (first | refine SW.seq ?_ | refine SW.block ?_ | refine SW.g1 [0,1,3,4,5,9] mixed (And.intro (o14) (And.intro (o15) (z))) hc ?_ | refine SW.skip ?_ | refine SW.exit ?_ | refine SW.ret ?_ | refine SW.ak rfl ?_ | refine SW.ah rfl ?_))
  exact End.mk [] (h4:=⟨rfl,rfl⟩) (h5:=FA _ _)
theorem FU (o:ag)(k:Nat):aG Tryz.prog ref18_Chain.f [ops l,.agg o.cells] [] k 0 (dn (gQ l o)) []:=(KV hl hd o).sc (FA _ _) k
theorem ze (o:ag):(gQ l o).length≤9:=by
 obtain ⟨L,hL,HY,_⟩:=(eA l).s4 o.aL;unfold gQ;rw [gr hL]
 split
 ·simp
 ·rw [List.length_map];exact HY
theorem uP (d:Dt)(k:Nat):aG Tryz.prog ref17_Good.f [ops l,.agg d.cells] [] k 0 (bl (dx l d)) []:=Cx l hl hd d k
noncomputable def uQ (l:List ag)(r o:ag):Bool:=decide (r.kind=2) && (decide (r.at_∈gQ l o) && !o.before r)
theorem FV (r o:ag):Go.Sl.Pure Tryz.prog ref18_Threatens.f [ops l,.agg r.cells,.agg o.cells] (bl (uQ l r o)):=by
 have r14:r.cells[14]? =some (.d (.int .u8 r.kind)):=rfl;have Ji:List.take 2 (List.drop 21 r.cells)=r.at_.cells:=rfl;have hc:=FU hl hd o;have hi:=Iw (gQ l o) r.at_ (by have:=ze hl hd o;omega)
 have hb:=cq o r;refine ref18_Threatens.enter (by first | rfl | simp [SV.ok,SV.ay]) (by first | rfl | simp [Hp.ok,Ob.ok,SV.ok,SV.ay,aB.aj]) (by simp) ?_
 dsimp only [ref18_Threatens.s,Co.M,Co.G,Co.J,Co.H,Co.N,Co.F,Co.C,Co.Z,Co.B,Co.b8,Co.ax,Co.bC,Co.i6,Co.z8,Co.bF];refine SW.seq ?_;refine SW.g0 [0,1,2,4,5,6] mixed af ?_;refine SW.seq ?_
 by_cases hk:r.kind=2
 ·have z:(((r.kind:Nat):Int) == 2)=true:=by rw [hk];rfl
  have e1:uQ l r o=(decide (r.at_∈gQ l o) && !o.before r):=by unfold uQ;rw [hk];rfl
  rw [e1];rcases hx:decide (r.at_∈gQ l o) with _ | _
  ·rw [hx] at hi
   refine SW.g2 [0,1,2,4,5,6] mixed (And.intro (r14) (And.intro (Ji) (z))) hc hi ?_;refine SW.ret ?_;exact End.mk [] (h4:=⟨rfl,rfl⟩)
  ·rw [hx] at hi
   refine SW.g4 [0,1,2,4,5,6] mixed (And.intro (r14) (And.intro (Ji) (z))) hc hi hb trivial ?_;refine SW.ret ?_;exact End.mk [] (h4:=⟨rfl,rfl⟩)
 ·have z:(((r.kind:Nat):Int) == 2)=false:=by simp;omega
  have e1:uQ l r o=false:=by unfold uQ;rw [decide_eq_false hk];rfl
  rw [e1];refine SW.g0 [0,1,2,4,5,6] mixed (And.intro (r14) (z)) ?_;refine SW.ret ?_;exact End.mk [] (h4:=⟨rfl,rfl⟩)
theorem zf (r o:ag)(k:Nat):aG Tryz.prog ref18_Threatens.f [ops l,.agg r.cells,.agg o.cells] [] k 0 (bl (uQ l r o)) []:=(FV hl hd r o).sc rfl k
end
end
section
attribute [local irreducible] SW RW aG SC ai aq
theorem tu (s:List Dt)(x:Dt):(s++[x]).length=s.length+ [x].length:=by simp
theorem xK (s:List Dt)(x:Dt):List.map SV.d ((s++[x]).flatMap Dt.ds)=List.map SV.d (s.flatMap Dt.ds)++List.map SV.d ([x].flatMap Dt.ds):=by simp
noncomputable def oJ (l:List ag):List Dt:=(l.filter fun o=>dx l o.dot).map (·.dot)
noncomputable def bD (l:List ag):List Dt:=Dt.set (oJ l)
theorem wv {l:List ag}{d:Dt}:d∈bD l↔dx l d=true:=by
 unfold bD oJ;rw [Dt.mem_set,List.mem_map];constructor
 ·rintro ⟨o,ho,rfl⟩
  exact (List.mem_filter.1 ho).2
 ·intro h
  unfold dx at h;cases hf:aJ l d with
  | none=>rw [hf] at h;cases h
  | some o=>
   have hd:=gP hf;refine ⟨o,List.mem_filter.2 ⟨r8 hf,?_⟩,hd⟩;rw [hd];unfold dx;rw [hf] at h ⊢;exact h
section
variable {l:List ag} (hl:l.length≤80) (hd:∀ x,x∈l→x.aQ<256∧x.nQ∧x.dot.wf)
include hl hd
theorem sq:(bD l).length≤80:=by
 have h1:=Dt.Ay (oJ l);have h2:(oJ l).length≤l.length:=by unfold oJ;rw [List.length_map];exact List.length_filter_le _ _
 unfold bD;omega
set_option maxHeartbeats 4000000 in
theorem CI:Go.Sl.Pure Tryz.prog ref18_Good.f [ops l] (bp (bD l)):=by
 refine ref18_Good.enter (by first | rfl | simp [SV.ok,SV.ay]) (by first | rfl | simp [Hp.ok,Ob.ok,SV.ok,SV.ay,aB.aj]) (by simp) ?_
 dsimp only [ref18_Good.s,Co.M,Co.G,Co.J,Co.H,Co.N,Co.F,Co.C,Co.Z,Co.B,Co.b8,Co.ax,Co.bC,Co.i6,Co.z8,Co.bF];refine SW.seq ?_;refine SW.g0 [0,2,3,4,8,17] mixed af ?_;refine SW.seq ?_;refine SW.g0 [0,2,3,4,8,17] mixed af ?_;refine SW.lM 3 37 2 rfl ?_;refine SW.seq (SW.seq ?_);refine SW.g0 [0,2,3,4,8,17] mixed af ?_;refine SW.block ?_;refine SW.jN (α:={i:Nat // i≤l.length}) (fun i=>⟨[(4,i64 i.1),(3,.gs 0 (((l.take i.1).filter fun o=>dx l o.dot).map (·.dot)).length),(0,ops l)],[(0,.arr 37 2 (((l.take i.1).filter fun o=>dx l o.dot).map (·.dot)).length (((((l.take i.1).filter fun o=>dx l o.dot).map (·.dot)).flatMap Dt.ds).map .d))],1⟩) (fun i=>l.length - i.1) ⟨0,by omega⟩ id af (round:= ?_)
 rintro ⟨i,hi⟩;dsimp only
 by_cases h:i<l.length
 ·obtain ⟨x,hx⟩:=br h
  have h1:decide ((i:Int)<l.length)=true:=by simp only [decide_eq_true_eq];omega
  have e2:IntKind.i64.wrap ((i:Int)+1)=((i+1:Nat):Int):=wrap_i64 _ (by omega)
  have hg:=uP hl hd x.dot;have fI:(((l.take i).filter fun o=>dx l o.dot).map (·.dot)).length≤80:=by
   rw [List.length_map];have:=List.length_filter_le (fun o=>dx l o.dot) (l.take i)
   have h3:(l.take i).length≤l.length:=by rw [List.length_take];omega
   omega
  refine SW.seq (SW.seq ?_);refine SW.g0 [0,2,3,4,8,17] mixed (h1) ?_;refine SW.ak rfl (SW.skip ?_);refine SW.seq (SW.block (SW.seq ?_));rcases hgx:dx l x.dot with _ | _
  ·rw [hgx] at hg
   have hsn:(((l.take (i+1)).filter fun o=>dx l o.dot).map (·.dot))=((l.take i).filter fun o=>dx l o.dot).map (·.dot):=by rw [cQ hx,List.filter_append,List.map_append];simp [hgx]
   generalize ((l.take i).filter fun o=>dx l o.dot).map (·.dot)=s at hsn fI ⊢
   refine SW.g1 [0,2,3,4,8,17] mixed (And.intro (pq hx) (mc hx)) hg ?_;refine SW.ah rfl (SW.skip ?_);refine SW.g0 [0,2,3,4,8,17] mixed (e2) ?_;refine ⟨⟨i+1,by omega⟩,id,by show l.length - (i+1)<_;omega,?_⟩
   dsimp only;rw [hsn];exact aP.mk af
  ·rw [hgx] at hg
   have hsn:(((l.take (i+1)).filter fun o=>dx l o.dot).map (·.dot))=((l.take i).filter fun o=>dx l o.dot).map (·.dot)++[x.dot]:=by rw [cQ hx,List.filter_append,List.map_append];simp [hgx]
   generalize ((l.take i).filter fun o=>dx l o.dot).map (·.dot)=s at hsn fI ⊢
   refine SW.g1 [0,2,3,4,8,17] mixed (And.intro (pq hx) (mc hx)) hg ?_;refine SW.ak rfl ?_;refine SW.g0 [0,2,3,4,8,17] mixed (And.intro (pq hx) (mc hx)) ?_;refine SW.g0 [0,2,3,4,8,17] mixed (e2) ?_;refine ⟨⟨i+1,by omega⟩,fun n=>if n=0 then 1 else n,by show l.length - (i+1)<_;omega,?_⟩
   dsimp only;rw [hsn];exact aP.mk (And.intro (tu s x.dot) (xK s x.dot))
 ·have h1:decide ((i:Int)<l.length)=false:=by simp only [decide_eq_false_iff_not];omega
  have h2:i=l.length:=by omega
  subst h2;rw [List.take_length];have hs:=Fo (oJ l) (by unfold oJ;rw [List.length_map];have:=List.length_filter_le (fun o=>dx l o.dot) l;omega) (fun v hv=>by
   unfold oJ at hv;obtain ⟨o,ho,rfl⟩:=List.mem_map.1 hv;exact (hd o (List.mem_filter.1 ho).1).2.2)
  refine SW.seq (SW.seq ?_);refine SW.g0 [0,2,3,4,8,17] mixed (h1) ?_;refine SW.ah rfl (SW.exit ?_);refine SW.freeze 0 ((oJ l).flatMap Dt.ds) rfl rfl ?_;simp only [jS,SV.iT,List.map_cons,List.map_nil,if_true,if_false,reduceIte,cZ,Nat.reduceEqDiff];refine SW.seq ?_;refine SW.g1 [0,2,3,4,8,17] mixed af hs ?_;refine SW.ret ?_;exact End.mk [] (h4:=⟨rfl,rfl⟩)
theorem wz (k:Nat):aG Tryz.prog ref18_Good.f [ops l] [] k 0 (bp (bD l)) []:=(CI hl hd).sc rfl k
end
end
section
attribute [local irreducible] SW RW aG SC ai aq
noncomputable def rC (l:List ag)(d:Dt)(v:Dt):Bool:=decide ((j0 l v).kind=2) && decide ((j0 l v).at_=d)
noncomputable def mA (l:List ag)(d:Dt)(v:Dt):Bool:=uQ l (j0 l v) (j0 l d)
noncomputable def rD (l:List ag)(d:Dt):SV:=if dx l d then .dw [.d (.int .i64 (((gQ l (j0 l d)).length:Int) - 1)),bl true] else .dw [i64 0,bl false]
noncomputable def sO (l:List ag)(d:Dt):SV:=if dx l d then .dw [bp ((bD l).filter (mA l d)),bl true] else .dw [.d .aK,bl false]
theorem oK (l:List ag)(hl:l.length<4611686018427387904)(d:Dt)(k:Nat):aG Tryz.prog ref10_Find.f [ops l,.agg d.cells] [] k 0 (.dw [.agg (j0 l d).cells,bl (aJ l d).isSome]) []:=pz l hl d k
section
variable {l:List ag} (hl:l.length≤80) (hd:∀ x,x∈l→x.aQ<256∧x.nQ∧x.dot.wf)
include hl hd
theorem Lp (d:Dt):Go.Sl.Pure Tryz.prog ref18_Level.f [ops l,.agg d.cells] (rD l d):=by
 have hg:=uP hl hd d;have hf:=oK l (by omega) d
 have hc:=FU hl hd (j0 l d);have lg:=ze hl hd (j0 l d);refine ref18_Level.enter (by first | rfl | simp [SV.ok,SV.ay]) (by first | rfl | simp [Hp.ok,Ob.ok,SV.ok,SV.ay,aB.aj]) (by simp) ?_
 dsimp only [ref18_Level.s,Co.M,Co.G,Co.J,Co.H,Co.N,Co.F,Co.C,Co.Z,Co.B,Co.b8,Co.ax,Co.bC,Co.i6,Co.z8,Co.bF];refine SW.seq ?_;refine SW.g0 [0,1,3,4,5,6,11] mixed af ?_;refine SW.seq (SW.seq ?_);rcases hgd:dx l d with _ | _
 ·rw [hgd] at hg
  have e1:rD l d= .dw [i64 0,bl false]:=by unfold rD;rw [hgd];rfl
  rw [e1];refine SW.g1 [0,1,3,4,5,6,11] mixed af hg ?_;refine SW.ak rfl (SW.seq ?_);refine SW.g0 [0,1,3,4,5,6,11] mixed af ?_;refine SW.ret ?_;exact End.mk [] (h4:=⟨rfl,rfl⟩)
 ·rw [hgd] at hg
  have e1:rD l d= .dw [.d (.int .i64 (((gQ l (j0 l d)).length:Int) - 1)),bl true]:=by unfold rD;rw [hgd];rfl
  rw [e1];generalize j0 l d=o at hf hc lg ⊢;generalize gQ l o=L at hc lg ⊢;refine SW.g1 [0,1,3,4,5,6,11] mixed af hg ?_;refine SW.ah rfl (SW.skip ?_);refine SW.seq ?_;refine SW.g1 [0,1,3,4,5,6,11] mixed af hf ?_;refine SW.seq ?_;have hw:IntKind.i64.wrap ((L.length:Int) - 1)=(L.length:Int) - 1:=wrap_i64 _ (by omega)
  cases L with
  | nil=>
   change ∀ k,aG Tryz.prog ref18_Chain.f [ops l,.agg o.cells] [] k 0 (.d .aK) [] at hc;refine SW.g1 [0,1,3,4,5,6,11] mixed af hc ?_;refine SW.ret ?_;exact End.mk [] (h4:=⟨by simp [eD],rfl⟩)
  | cons c L=>
   change ∀ k,aG Tryz.prog ref18_Chain.f [ops l,.agg o.cells] [] k 0 (bp (c::L)) [] at hc;refine SW.g1 [0,1,3,4,5,6,11] mixed (hw) hc ?_;refine SW.ret ?_;exact End.mk [] (h4:=⟨by simp [eD],rfl⟩)
set_option maxHeartbeats 4000000 in
theorem KW (d:Dt):Go.Sl.Pure Tryz.prog ref18_Revokes.f [ops l,.agg d.cells] (bp ((bD l).filter (rC l d))):=by
  refine ref18_Revokes.enter (by first | rfl | simp [SV.ok,SV.ay]) (by first | rfl | simp [Hp.ok,Ob.ok,SV.ok,SV.ay,aB.aj]) (by simp) ?_
  dsimp only [ref18_Revokes.s,Co.M,Co.G,Co.J,Co.H,Co.N,Co.F,Co.C,Co.Z,Co.B,Co.b8,Co.ax,Co.bC,Co.i6,Co.z8,Co.bF];refine SW.seq ?_;refine SW.g0 [0,1,3,4,5,6,7,8,15,35] mixed af ?_;refine SW.seq ?_;have va:=wz hl hd;refine SW.g1 [0,1,3,4,5,6,7,8,15,35] mixed af va ?_;refine SW.seq ?_;refine SW.g0 [0,1,3,4,5,6,7,8,15,35] mixed af ?_;refine SW.lM 6 37 2 rfl ?_;refine SW.seq (SW.seq ?_);refine SW.g0 [0,1,3,4,5,6,7,8,15,35] mixed af ?_;refine SW.block ?_;have hgl:=sq hl hd;refine SW.jN (α:={i:Nat // i≤(bD l).length}) (fun i=>⟨[(7,i64 i.1),(6,.gs 1 (((bD l).take i.1).filter (rC l d)).length),(5,bp (bD l)),(3,.ptr 0 0),(0,ops l)],[(1,.arr 37 2 (((bD l).take i.1).filter (rC l d)).length (((((bD l).take i.1).filter (rC l d)).flatMap Dt.ds).map .d)),(0,.box 37 d.cells)],2⟩) (fun i=>(bD l).length - i.1) ⟨0,by omega⟩ id af (round:= ?_)
  rintro ⟨i,hi⟩;dsimp only
  by_cases h:i<(bD l).length
  · obtain ⟨v,hx⟩:=br h
    have h1:decide ((i:Int)<(bD l).length)=true:=by simp only [decide_eq_true_eq];omega
    have e2:IntKind.i64.wrap ((i:Int)+1)=((i+1:Nat):Int):=wrap_i64 _ (by omega)
    have hfv:=oK l (by omega) v
    have fI:(((bD l).take i).filter (rC l d)).length≤80:=by
      have h2:=List.length_filter_le (rC l d) ((bD l).take i);have h3:((bD l).take i).length≤(bD l).length:=by rw [List.length_take];omega
      omega
    refine SW.seq (SW.seq ?_);refine SW.g0 [0,1,3,4,5,6,7,8,15,35] mixed (h1) ?_;refine SW.ak rfl (SW.skip ?_);refine SW.seq (SW.block (SW.seq ?_));rcases hp:rC l d v with _ | _
    · have hsn:((bD l).take (i+1)).filter (rC l d)=((bD l).take i).filter (rC l d):=by rw [cQ hx,List.filter_append];simp [hp]
      generalize ((bD l).take i).filter (rC l d)=s at hsn fI ⊢;have hpe:(decide ((j0 l v).kind=2) && decide ((j0 l v).at_=d))=false:=hp;generalize j0 l v=r at hfv hpe;have r14:r.cells[14]? =some (.d (.int .u8 r.kind)):=rfl;have Ji:List.take 2 (List.drop 21 r.cells)=r.at_.cells:=rfl;refine SW.g1 [0,1,3,4,5,6,7,8,15,35] mixed (dP hx) hfv ?_;refine SW.cut (stM:=⟨[(35,bl false),(7,i64 i),(6,.gs 1 s.length),(5,bp (bD l)),(3,.ptr 0 0),(0,ops l)],[(1,.arr 37 2 s.length ((s.flatMap Dt.ds).map .d)),(0,.box 37 d.cells)],3⟩) id ?_ ?_
      · by_cases hk:r.kind=2
        · have z:(((r.kind:Nat):Int) == 2)=true:=by rw [hk];rfl
          have f:decide (r.at_=d)=false:=by rw [hk] at hpe;exact hpe
          refine SW.g0 [0,1,3,4,5,6,7,8,15,35] mixed (And.intro (r14) (And.intro (Ji) (And.intro (z) (f)))) ?_;exact aP.mk af
        · have z:(((r.kind:Nat):Int) == 2)=false:=by simp;omega
          refine SW.g0 [0,1,3,4,5,6,7,8,15,35] mixed (And.intro (r14) (And.intro (Ji) (z))) ?_;exact aP.mk af
      refine SW.ah rfl (SW.skip ?_);refine SW.g0 [0,1,3,4,5,6,7,8,15,35] mixed (e2) ?_;refine ⟨⟨i+1,by omega⟩,id,by show (bD l).length - (i+1)<_;omega,?_⟩
      dsimp only;rw [hsn];exact aP.mk af
    · have hsn:((bD l).take (i+1)).filter (rC l d)=((bD l).take i).filter (rC l d)++[v]:=by rw [cQ hx,List.filter_append];simp [hp]
      generalize ((bD l).take i).filter (rC l d)=s at hsn fI ⊢;have hpe:(decide ((j0 l v).kind=2) && decide ((j0 l v).at_=d))=true:=hp;generalize j0 l v=r at hfv hpe;have r14:r.cells[14]? =some (.d (.int .u8 r.kind)):=rfl;have Ji:List.take 2 (List.drop 21 r.cells)=r.at_.cells:=rfl;refine SW.g1 [0,1,3,4,5,6,7,8,15,35] mixed (dP hx) hfv ?_;refine SW.seq ?_;rw [Bool.and_eq_true,decide_eq_true_eq] at hpe;have z:(((r.kind:Nat):Int) == 2)=true:=by rw [hpe.1];rfl
      have f:=hpe.2;refine SW.g0 [0,1,3,4,5,6,7,8,15,35] mixed (And.intro (r14) (And.intro (Ji) (And.intro (z) (f)))) ?_;refine SW.ak rfl ?_;refine SW.g0 [0,1,3,4,5,6,7,8,15,35] mixed (dP hx) ?_;refine SW.g0 [0,1,3,4,5,6,7,8,15,35] mixed (e2) ?_;refine ⟨⟨i+1,by omega⟩,fun n=>if n=1 then 3 else n,by show (bD l).length - (i+1)<_;omega,?_⟩
      dsimp only;rw [hsn];exact aP.mk (And.intro (tu s v) (xK s v))
  · have h1:decide ((i:Int)<(bD l).length)=false:=by simp only [decide_eq_false_iff_not];omega
    have h2:i=(bD l).length:=by omega
    subst h2;rw [List.take_length];refine SW.seq (SW.seq ?_);refine SW.g0 [0,1,3,4,5,6,7,8,15,35] mixed (h1) ?_;refine SW.ah rfl (SW.exit ?_);refine SW.freeze 1 (((bD l).filter (rC l d)).flatMap Dt.ds) rfl rfl ?_;simp only [jS,SV.iT,List.map_cons,List.map_nil,if_true,if_false,reduceIte,cZ,Nat.reduceEqDiff];refine SW.seq ?_;refine SW.g0 [0,1,3,4,5,6,7,8,15,35] mixed af ?_;refine SW.ret ?_;exact End.mk [] (h4:=⟨rfl,rfl⟩)
set_option maxHeartbeats 4000000 in
theorem CJ (d:Dt):Go.Sl.Pure Tryz.prog ref18_Threats.f [ops l,.agg d.cells] (sO l d):=by
 have hg:=uP hl hd d;have hf:=oK l (by omega) d
 refine ref18_Threats.enter (by first | rfl | simp [SV.ok,SV.ay]) (by first | rfl | simp [Hp.ok,Ob.ok,SV.ok,SV.ay,aB.aj]) (by simp) ?_
 dsimp only [ref18_Threats.s,Co.M,Co.G,Co.J,Co.H,Co.N,Co.F,Co.C,Co.Z,Co.B,Co.b8,Co.ax,Co.bC,Co.i6,Co.z8,Co.bF];refine SW.seq ?_;refine SW.g0 [0,1,3,4,5,6,8,9,10,11,16,28,43] mixed af ?_;refine SW.seq (SW.seq ?_);rcases hgd:dx l d with _ | _
 ·rw [hgd] at hg
  have e1:sO l d= .dw [.d .aK,bl false]:=by unfold sO;rw [hgd];rfl
  rw [e1];refine SW.g1 [0,1,3,4,5,6,8,9,10,11,16,28,43] mixed af hg ?_;refine SW.ak rfl (SW.seq ?_);refine SW.g0 [0,1,3,4,5,6,8,9,10,11,16,28,43] mixed af ?_;refine SW.ret ?_;exact End.mk [] (h4:=⟨rfl,rfl⟩)
 rw [hgd] at hg;have e1:sO l d= .dw [bp ((bD l).filter (mA l d)),bl true]:=by unfold sO;rw [hgd];rfl
 rw [e1];refine SW.g1 [0,1,3,4,5,6,8,9,10,11,16,28,43] mixed af hg ?_;refine SW.ah rfl (SW.skip ?_);refine SW.seq ?_;refine SW.g1 [0,1,3,4,5,6,8,9,10,11,16,28,43] mixed af hf ?_;refine SW.seq ?_;have va:=wz hl hd;refine SW.g1 [0,1,3,4,5,6,8,9,10,11,16,28,43] mixed af va ?_;refine SW.seq ?_;refine SW.g0 [0,1,3,4,5,6,8,9,10,11,16,28,43] mixed af ?_;refine SW.lM 9 37 2 rfl ?_;refine SW.seq (SW.seq ?_);refine SW.g0 [0,1,3,4,5,6,8,9,10,11,16,28,43] mixed af ?_;refine SW.block ?_;have hgl:=sq hl hd;refine SW.jN (α:={i:Nat // i≤(bD l).length}) (fun i=>⟨[(10,i64 i.1),(9,.gs 2 (((bD l).take i.1).filter (mA l d)).length),(8,bp (bD l)),(6,.ptr 1 0),(0,ops l)],[(2,.arr 37 2 (((bD l).take i.1).filter (mA l d)).length (((((bD l).take i.1).filter (mA l d)).flatMap Dt.ds).map .d)),(1,.box 43 (j0 l d).cells)],3⟩) (fun i=>(bD l).length - i.1) ⟨0,by omega⟩ id af (round:= ?_)
 rintro ⟨i,hi⟩;dsimp only
 by_cases h:i<(bD l).length
 ·obtain ⟨v,hx⟩:=br h
  have h1:decide ((i:Int)<(bD l).length)=true:=by simp only [decide_eq_true_eq];omega
  have e2:IntKind.i64.wrap ((i:Int)+1)=((i+1:Nat):Int):=wrap_i64 _ (by omega)
  have hfv:=oK l (by omega) v
  have fI:(((bD l).take i).filter (mA l d)).length≤80:=by
   have h2:=List.length_filter_le (mA l d) ((bD l).take i);have h3:((bD l).take i).length≤(bD l).length:=by rw [List.length_take];omega
   omega
  refine SW.seq (SW.seq ?_);refine SW.g0 [0,1,3,4,5,6,8,9,10,11,16,28,43] mixed (h1) ?_;refine SW.ak rfl (SW.skip ?_);refine SW.seq (SW.block (SW.seq ?_));rcases hp:mA l d v with _ | _
  ·have hsn:((bD l).take (i+1)).filter (mA l d)=((bD l).take i).filter (mA l d):=by rw [cQ hx,List.filter_append];simp [hp]
   generalize ((bD l).take i).filter (mA l d)=s at hsn fI ⊢;have hT:=zf hl hd (j0 l v) (j0 l d);rw [show uQ l (j0 l v) (j0 l d)=false from hp] at hT;refine SW.g2 [0,1,3,4,5,6,8,9,10,11,16,28,43] mixed (dP hx) hfv hT ?_;refine SW.seq ?_;refine SW.g2 [0,1,3,4,5,6,8,9,10,11,16,28,43] mixed af hfv hT ?_;refine SW.ah rfl (SW.skip ?_);refine SW.g0 [0,1,3,4,5,6,8,9,10,11,16,28,43] mixed (e2) ?_;refine ⟨⟨i+1,by omega⟩,id,by show (bD l).length - (i+1)<_;omega,?_⟩
   dsimp only;rw [hsn];exact aP.mk af
  ·have hsn:((bD l).take (i+1)).filter (mA l d)=((bD l).take i).filter (mA l d)++[v]:=by rw [cQ hx,List.filter_append];simp [hp]
   generalize ((bD l).take i).filter (mA l d)=s at hsn fI ⊢;have hT:=zf hl hd (j0 l v) (j0 l d);rw [show uQ l (j0 l v) (j0 l d)=true from hp] at hT;refine SW.g2 [0,1,3,4,5,6,8,9,10,11,16,28,43] mixed (dP hx) hfv hT ?_;refine SW.seq ?_;refine SW.g2 [0,1,3,4,5,6,8,9,10,11,16,28,43] mixed af hfv hT ?_;refine SW.ak rfl ?_;refine SW.g0 [0,1,3,4,5,6,8,9,10,11,16,28,43] mixed (dP hx) ?_;refine SW.g0 [0,1,3,4,5,6,8,9,10,11,16,28,43] mixed (e2) ?_;refine ⟨⟨i+1,by omega⟩,fun n=>if n=2 then 4 else n,by show (bD l).length - (i+1)<_;omega,?_⟩
   dsimp only;rw [hsn];exact aP.mk (And.intro (tu s v) (xK s v))
 ·have h1:decide ((i:Int)<(bD l).length)=false:=by simp only [decide_eq_false_iff_not];omega
  have h2:i=(bD l).length:=by omega
  subst h2;rw [List.take_length];refine SW.seq (SW.seq ?_);refine SW.g0 [0,1,3,4,5,6,8,9,10,11,16,28,43] mixed (h1) ?_;refine SW.ah rfl (SW.exit ?_);refine SW.freeze 2 (((bD l).filter (mA l d)).flatMap Dt.ds) rfl rfl ?_;simp only [jS,SV.iT,List.map_cons,List.map_nil,if_true,if_false,reduceIte,cZ,Nat.reduceEqDiff];refine SW.seq ?_;refine SW.g0 [0,1,3,4,5,6,8,9,10,11,16,28,43] mixed af ?_;refine SW.ret ?_;exact End.mk [] (h4:=⟨rfl,rfl⟩)
theorem CK (d:Dt)(k:Nat):aG Tryz.prog ref18_Threats.f [ops l,.agg d.cells] [] k 0 (sO l d) []:=(CJ hl hd d).sc (by unfold sO;split <;> rfl) k
end
end
end Go.Proofs.YtaelhkkjgfobhaaGreat
