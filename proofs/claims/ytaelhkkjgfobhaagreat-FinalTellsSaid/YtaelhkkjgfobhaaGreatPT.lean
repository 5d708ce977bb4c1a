/-
 Revoke: the document's chains, those that are well-formed, levels.
-/
import Derived.Test.YtaelhkkjgfobhaaGreatP6
import Derived.Test.YtaelhkkjgfobhaaGreatPS
import Derived.Test.YtaelhkkjgfobhaaGreatPM
set_option linter.unusedSectionVars false
set_option linter.unusedVariables false
set_option linter.unusedSimpArgs false
namespace Go.Proofs.YtaelhkkjgfobhaaGreat
open Go.Sl Go.Proofs
section
attribute [local irreducible] SW RW aF SC ai aq
theorem C' {a:MM Dt Cr}{d:Dt}{L:List Cr}(hL:mE a (MM.get a d) L):gH a d L= .dm [dn (L.map (·.dot)),.d (.int .i64 (if MM.has a d then 0 else 7))]:=by
 unfold gH MM.has;cases hg:MM.get a d with
 | none=>
  rw [hg] at hL;cases hL;rfl
 | some c=>
  rw [hg] at hL;cases L with
  | nil=>cases hL
  | cons x L=>simp [dn,aW]
noncomputable def di (l:List ag)(d:Dt):Bool:=match aS l d with
 | some o=>decide (gI l o=0)
 | none=>false
theorem SC.Od {P:Program}{f:FuncId}{a b:List SV}{F:Hp}{k nk:Nat}{Q:SV→Hp→Prop}(L:List Dt)(h:SC P f (a++aW L::b) F k nk Q):SC P f (a++dn L::b) F k nk Q:=by
 cases L with
 | cons d L=>exact h
 | nil=>
  refine SC.args (fun p μ M vs hv=> ?_) h;clear h
  induction a generalizing vs with
  | nil=>
   obtain ⟨u,us,e,h1,h2⟩:=aU.aD.1 hv;exact aU.aD.2 ⟨u,us,e,m_ _ _ _ _ h1,h2⟩
  | cons x a ih=>
   obtain ⟨u,us,e,h1,h2⟩:=aU.aD.1 hv;exact aU.aD.2 ⟨u,us,e,h1,ih us h2⟩
theorem I7 (L:List Dt)(d:Dt)(hl:L.length<1000000000)(k:Nat):aF Tryz.prog ref03_In.f [dn L,.agg d.cells] [] k 0 (.d (.bool (decide (d∈L)))) []:=by
 have:=h_ L d hl k;unfold aF at this ⊢;exact SC.Od (a:=[]) L this
section
variable {l:List ag} (hl:l.length≤80) (hd:∀ x,x∈l→x.aP<256∧x.mN∧x.dot.wf)
include hl hd
theorem Ls (o:ag):Go.Sl.Pure Tryz.prog ref18_Chain.f [ops l,.agg o.cells] (dn (gX l o)):=by
 obtain ⟨L,hL,ID,_⟩:=(eE l).tn o.aN;have hc:=wO (by omega) (fun x hx=>(hd x hx).1) (eE l) o.aN L hL (by omega);rw [C' hL] at hc;have e1:gX l o=if o.kind=0 then [] else L.map (·.dot):=by unfold gX;rw [gy hL]
 obtain ⟨e,he⟩:∃ e:Int,(if MM.has (aA l).at_ o.aN then (0:Int) else 7)=e:=⟨_,rfl⟩;rw [he] at hc;rw [e1];have o14:o.cells[14]? =some (.d (.int .u8 o.kind)):=rfl;have o15:List.take 2 (List.drop 15 o.cells)=o.aN.cells:=rfl;refine ref18_Chain.enter (by first | rfl | simp [SV.ok,SV.ax]) (by first | rfl | simp [Hp.ok,Ob.ok,SV.ok,SV.ax,aB.ak]) (by simp) ?_;dsimp only [ref18_Chain.s,Co.M,Co.J,Co.F,Co.b8,Co.T,Co.K,Co.E,Co.Q,Co.x,Co.D,Co.S]
 by_cases hk:o.kind=0
 ·have z:(((o.kind:Nat):Int) == 0)=true:=by rw [hk];rfl
  rw [if_pos hk];(repeat (first | refine SW.seq ?_ | refine SW.block ?_ | refine SW.g0 [0,1,3,4,5,9] mixed (And.intro (o14) (z)) ?_ | refine SW.skip ?_ | refine SW.exit ?_ | refine SW.ret ?_ | refine SW.aj rfl ?_ | refine SW.ah rfl ?_));exact End.mk [] (h4:=⟨rfl,rfl⟩)
 ·have z:(((o.kind:Nat):Int) == 0)=false:=by simpa using hk
  rw [if_neg hk];(repeat (first | refine SW.seq ?_ | refine SW.block ?_ | refine SW.g1 [0,1,3,4,5,9] mixed (And.intro (o14) (And.intro (o15) (z))) hc ?_ | refine SW.skip ?_ | refine SW.exit ?_ | refine SW.ret ?_ | refine SW.aj rfl ?_ | refine SW.ah rfl ?_));exact End.mk [] (h4:=⟨rfl,rfl⟩) (h5:=F4 _ _)
theorem Gm (o:ag)(k:Nat):aF Tryz.prog ref18_Chain.f [ops l,.agg o.cells] [] k 0 (dn (gX l o)) []:=(Ls hl hd o).sc (F4 _ _) k
theorem zD (o:ag):(gX l o).length≤9:=by
 obtain ⟨L,hL,ID,_⟩:=(eE l).tn o.aN;unfold gX;rw [gy hL]
 split
 ·simp
 ·rw [List.length_map];exact ID
theorem rM (d:Dt)(k:Nat):aF Tryz.prog ref17_Good.f [ops l,.agg d.cells] [] k 0 (bl (di l d)) []:=CX l hl hd d k
noncomputable def u_ (l:List ag)(r o:ag):Bool:=decide (r.kind=2) && (decide (r.at_∈gX l o) && !o.before r)
theorem Gn (r o:ag):Go.Sl.Pure Tryz.prog ref18_Threatens.f [ops l,.agg r.cells,.agg o.cells] (bl (u_ l r o)):=by
 have r14:r.cells[14]? =some (.d (.int .u8 r.kind)):=rfl;have JN:List.take 2 (List.drop 21 r.cells)=r.at_.cells:=rfl;have hc:=Gm hl hd o;have hi:=I7 (gX l o) r.at_ (by have:=zD hl hd o;omega);have hb:=cL o r;refine ref18_Threatens.enter (by first | rfl | simp [SV.ok,SV.ax]) (by first | rfl | simp [Hp.ok,Ob.ok,SV.ok,SV.ax,aB.ak]) (by simp) ?_;dsimp only [ref18_Threatens.s,Co.M,Co.G,Co.J,Co.H,Co.F,Co.C,Co.B,Co.b8,Co.T,Co.x,Co.U,Co.D,Co.S];refine SW.seq ?_;refine SW.g0 [0,1,2,4,5,6] mixed af ?_;refine SW.seq ?_
 by_cases hk:r.kind=2
 ·have z:(((r.kind:Nat):Int) == 2)=true:=by rw [hk];rfl
  have e1:u_ l r o=(decide (r.at_∈gX l o) && !o.before r):=by unfold u_;rw [hk];rfl
  rw [e1];rcases hx:decide (r.at_∈gX l o) with _ | _
  ·rw [hx] at hi
   refine SW.g2 [0,1,2,4,5,6] mixed (And.intro (r14) (And.intro (JN) (z))) hc hi ?_;refine SW.ret ?_;exact End.mk [] (h4:=⟨rfl,rfl⟩)
  ·rw [hx] at hi
   refine SW.g4 [0,1,2,4,5,6] mixed (And.intro (r14) (And.intro (JN) (z))) hc hi hb trivial ?_;refine SW.ret ?_;exact End.mk [] (h4:=⟨rfl,rfl⟩)
 ·have z:(((r.kind:Nat):Int) == 2)=false:=by simp;omega
  have e1:u_ l r o=false:=by unfold u_;rw [decide_eq_false hk];rfl
  rw [e1];refine SW.g0 [0,1,2,4,5,6] mixed (And.intro (r14) (z)) ?_;refine SW.ret ?_;exact End.mk [] (h4:=⟨rfl,rfl⟩)
theorem zF (r o:ag)(k:Nat):aF Tryz.prog ref18_Threatens.f [ops l,.agg r.cells,.agg o.cells] [] k 0 (bl (u_ l r o)) []:=(Gn hl hd r o).sc rfl k
end
end
section
attribute [local irreducible] SW RW aF SC ai aq
theorem tM (s:List Dt)(x:Dt):(s++[x]).length=s.length+ [x].length:=by simp
theorem yc (s:List Dt)(x:Dt):List.map SV.d ((s++[x]).flatMap Dt.ds)=List.map SV.d (s.flatMap Dt.ds)++List.map SV.d ([x].flatMap Dt.ds):=by simp
noncomputable def oN (l:List ag):List Dt:=(l.filter fun o=>di l o.dot).map (·.dot)
noncomputable def bI (l:List ag):List Dt:=Dt.set (oN l)
theorem wT {l:List ag}{d:Dt}:d∈bI l↔di l d=true:=by
 unfold bI oN;rw [Dt.mem_set,List.mem_map];constructor
 ·rintro ⟨o,ho,rfl⟩
  exact (List.mem_filter.1 ho).2
 ·intro h
  unfold di at h;cases hf:aS l d with
  | none=>rw [hf] at h;cases h
  | some o=>
   have hd:=gW hf;refine ⟨o,List.mem_filter.2 ⟨pL hf,?_⟩,hd⟩;rw [hd];unfold di;rw [hf] at h ⊢;exact h
section
variable {l:List ag} (hl:l.length≤80) (hd:∀ x,x∈l→x.aP<256∧x.mN∧x.dot.wf)
include hl hd
theorem sM:(bI l).length≤80:=by
 have h1:=Dt.AY (oN l);have h2:(oN l).length≤l.length:=by unfold oN;rw [List.length_map];exact List.length_filter_le _ _
 unfold bI;omega
set_option maxHeartbeats 4000000 in
theorem Da:Go.Sl.Pure Tryz.prog ref18_Good.f [ops l] (aW (bI l)):=by
 refine ref18_Good.enter (by first | rfl | simp [SV.ok,SV.ax]) (by first | rfl | simp [Hp.ok,Ob.ok,SV.ok,SV.ax,aB.ak]) (by simp) ?_;dsimp only [ref18_Good.s,Co.M,Co.J,Co.F,Co.Z,Co.b8,Co.av,Co.K,Co.L,Co.P,Co.Q,Co.Y,Co.V,Co.D,Co.I,Co.S];refine SW.seq ?_;refine SW.g0 [0,2,3,4,8,17] mixed af ?_;refine SW.seq ?_;refine SW.g0 [0,2,3,4,8,17] mixed af ?_;refine SW.jb 3 37 2 rfl ?_;refine SW.seq (SW.seq ?_);refine SW.g0 [0,2,3,4,8,17] mixed af ?_;refine SW.block ?_;refine SW.gY (α:={i:Nat // i≤l.length}) (fun i=>⟨[(4,i64 i.1),(3,.gs 0 (((l.take i.1).filter fun o=>di l o.dot).map (·.dot)).length),(0,ops l)],[(0,.arr 37 2 (((l.take i.1).filter fun o=>di l o.dot).map (·.dot)).length (((((l.take i.1).filter fun o=>di l o.dot).map (·.dot)).flatMap Dt.ds).map .d))],1⟩) (fun i=>l.length - i.1) ⟨0,by omega⟩ id af (round:= ?_);rintro ⟨i,hi⟩;dsimp only
 by_cases h:i<l.length
 ·obtain ⟨x,hx⟩:=aZ h
  have h1:decide ((i:Int)<l.length)=true:=by simp only [decide_eq_true_eq];omega
  have e2:IntKind.i64.wrap ((i:Int)+1)=((i+1:Nat):Int):=wrap_i64 _ (by omega);have hg:=rM hl hd x.dot;have fc:(((l.take i).filter fun o=>di l o.dot).map (·.dot)).length≤80:=by
   rw [List.length_map];have:=List.length_filter_le (fun o=>di l o.dot) (l.take i);have h3:(l.take i).length≤l.length:=by rw [List.length_take];omega
   omega
  refine SW.seq (SW.seq ?_);refine SW.g0 [0,2,3,4,8,17] mixed (h1) ?_;refine SW.aj rfl (SW.skip ?_);refine SW.seq (SW.block (SW.seq ?_));rcases hgx:di l x.dot with _ | _
  ·rw [hgx] at hg
   have hsn:(((l.take (i+1)).filter fun o=>di l o.dot).map (·.dot))=((l.take i).filter fun o=>di l o.dot).map (·.dot):=by rw [bH hx,List.filter_append,List.map_append];simp [hgx]
   generalize ((l.take i).filter fun o=>di l o.dot).map (·.dot)=s at hsn fc ⊢;refine SW.g1 [0,2,3,4,8,17] mixed (And.intro (nO hx) (lg hx)) hg ?_;refine SW.ah rfl (SW.skip ?_);refine SW.g0 [0,2,3,4,8,17] mixed (e2) ?_;refine ⟨⟨i+1,by omega⟩,id,by show l.length - (i+1)<_;omega,?_⟩;dsimp only;rw [hsn];exact aK.mk af
  ·rw [hgx] at hg
   have hsn:(((l.take (i+1)).filter fun o=>di l o.dot).map (·.dot))=((l.take i).filter fun o=>di l o.dot).map (·.dot)++[x.dot]:=by rw [bH hx,List.filter_append,List.map_append];simp [hgx]
   generalize ((l.take i).filter fun o=>di l o.dot).map (·.dot)=s at hsn fc ⊢;refine SW.g1 [0,2,3,4,8,17] mixed (And.intro (nO hx) (lg hx)) hg ?_;refine SW.aj rfl ?_;refine SW.g0 [0,2,3,4,8,17] mixed (And.intro (nO hx) (lg hx)) ?_;refine SW.g0 [0,2,3,4,8,17] mixed (e2) ?_;refine ⟨⟨i+1,by omega⟩,fun n=>if n=0 then 1 else n,by show l.length - (i+1)<_;omega,?_⟩;dsimp only;rw [hsn];exact aK.mk (And.intro (tM s x.dot) (yc s x.dot))
 ·have h1:decide ((i:Int)<l.length)=false:=by simp only [decide_eq_false_iff_not];omega
  have h2:i=l.length:=by omega
  subst h2;rw [List.take_length];have hs:=uX (oN l) (by unfold oN;rw [List.length_map];have:=List.length_filter_le (fun o=>di l o.dot) l;omega) (fun v hv=>by
   unfold oN at hv;obtain ⟨o,ho,rfl⟩:=List.mem_map.1 hv;exact (hd o (List.mem_filter.1 ho).1).2.2)
  refine SW.seq (SW.seq ?_);refine SW.g0 [0,2,3,4,8,17] mixed (h1) ?_;refine SW.ah rfl (SW.exit ?_);refine SW.freeze 0 ((oN l).flatMap Dt.ds) rfl rfl ?_;simp only [iZ,SV.iw,List.map_cons,List.map_nil,if_true,if_false,reduceIte,cM,Nat.reduceEqDiff];refine SW.seq ?_;refine SW.g1 [0,2,3,4,8,17] mixed af hs ?_;refine SW.ret ?_;exact End.mk [] (h4:=⟨rfl,rfl⟩)
theorem wU (k:Nat):aF Tryz.prog ref18_Good.f [ops l] [] k 0 (aW (bI l)) []:=(Da hl hd).sc rfl k
end
end
section
attribute [local irreducible] SW RW aF SC ai aq
noncomputable def rN (l:List ag)(d:Dt)(v:Dt):Bool:=decide ((i_ l v).kind=2) && decide ((i_ l v).at_=d)
noncomputable def mK (l:List ag)(d:Dt)(v:Dt):Bool:=u_ l (i_ l v) (i_ l d)
noncomputable def rO (l:List ag)(d:Dt):SV:=if di l d then .dm [.d (.int .i64 (((gX l (i_ l d)).length:Int) - 1)),bl true] else .dm [i64 0,bl false]
noncomputable def s6 (l:List ag)(d:Dt):SV:=if di l d then .dm [aW ((bI l).filter (mK l d)),bl true] else .dm [.d .aJ,bl false]
theorem lz (l:List ag)(hl:l.length<4611686018427387904)(d:Dt)(k:Nat):aF Tryz.prog ref10_Find.f [ops l,.agg d.cells] [] k 0 (.dm [.agg (i_ l d).cells,bl (aS l d).isSome]) []:=pI l hl d k
section
variable {l:List ag} (hl:l.length≤80) (hd:∀ x,x∈l→x.aP<256∧x.mN∧x.dot.wf)
include hl hd
theorem LV (d:Dt):Go.Sl.Pure Tryz.prog ref18_Level.f [ops l,.agg d.cells] (rO l d):=by
 have hg:=rM hl hd d;have hf:=lz l (by omega) d;have hc:=Gm hl hd (i_ l d);have lJ:=zD hl hd (i_ l d);refine ref18_Level.enter (by first | rfl | simp [SV.ok,SV.ax]) (by first | rfl | simp [Hp.ok,Ob.ok,SV.ok,SV.ax,aB.ak]) (by simp) ?_;dsimp only [ref18_Level.s,Co.M,Co.J,Co.F,Co.Z,Co.B,Co.bF,Co.K,Co.E,Co.L,Co.Q,Co.x,Co.W,Co.Y,Co.O,Co.S];refine SW.seq ?_;refine SW.g0 [0,1,3,4,5,6,11] mixed af ?_;refine SW.seq (SW.seq ?_);rcases hgd:di l d with _ | _
 ·rw [hgd] at hg
  have e1:rO l d= .dm [i64 0,bl false]:=by unfold rO;rw [hgd];rfl
  rw [e1];refine SW.g1 [0,1,3,4,5,6,11] mixed af hg ?_;refine SW.aj rfl (SW.seq ?_);refine SW.g0 [0,1,3,4,5,6,11] mixed af ?_;refine SW.ret ?_;exact End.mk [] (h4:=⟨rfl,rfl⟩)
 ·rw [hgd] at hg
  have e1:rO l d= .dm [.d (.int .i64 (((gX l (i_ l d)).length:Int) - 1)),bl true]:=by unfold rO;rw [hgd];rfl
  rw [e1];generalize i_ l d=o at hf hc lJ ⊢;generalize gX l o=L at hc lJ ⊢;refine SW.g1 [0,1,3,4,5,6,11] mixed af hg ?_;refine SW.ah rfl (SW.skip ?_);refine SW.seq ?_;refine SW.g1 [0,1,3,4,5,6,11] mixed af hf ?_;refine SW.seq ?_;have hw:IntKind.i64.wrap ((L.length:Int) - 1)=(L.length:Int) - 1:=wrap_i64 _ (by omega);cases L with
  | nil=>
   change ∀ k,aF Tryz.prog ref18_Chain.f [ops l,.agg o.cells] [] k 0 (.d .aJ) [] at hc;refine SW.g1 [0,1,3,4,5,6,11] mixed af hc ?_;refine SW.ret ?_;exact End.mk [] (h4:=⟨by simp [eH],rfl⟩)
  | cons c L=>
   change ∀ k,aF Tryz.prog ref18_Chain.f [ops l,.agg o.cells] [] k 0 (aW (c::L)) [] at hc;refine SW.g1 [0,1,3,4,5,6,11] mixed (hw) hc ?_;refine SW.ret ?_;exact End.mk [] (h4:=⟨by simp [eH],rfl⟩)
set_option maxHeartbeats 4000000 in
theorem Lt (d:Dt):Go.Sl.Pure Tryz.prog ref18_Revokes.f [ops l,.agg d.cells] (aW ((bI l).filter (rN l d))):=by
  refine ref18_Revokes.enter (by first | rfl | simp [SV.ok,SV.ax]) (by first | rfl | simp [Hp.ok,Ob.ok,SV.ok,SV.ax,aB.ak]) (by simp) ?_;dsimp only [ref18_Revokes.s,Co.M,Co.J,Co.H,Co.F,Co.Z,Co.b8,Co.av,Co.bF,Co.T,Co.K,Co.E,Co.L,Co.P,Co.Q,Co.x,Co.W,Co.Y,Co.V,Co.U,Co.D,Co.I,Co.S];refine SW.seq ?_;refine SW.g0 [0,1,3,4,5,6,7,8,15,35] mixed af ?_;refine SW.seq ?_;have vz:=wU hl hd;refine SW.g1 [0,1,3,4,5,6,7,8,15,35] mixed af vz ?_;refine SW.seq ?_;refine SW.g0 [0,1,3,4,5,6,7,8,15,35] mixed af ?_;refine SW.jb 6 37 2 rfl ?_;refine SW.seq (SW.seq ?_);refine SW.g0 [0,1,3,4,5,6,7,8,15,35] mixed af ?_;refine SW.block ?_;have hgl:=sM hl hd;refine SW.gY (α:={i:Nat // i≤(bI l).length}) (fun i=>⟨[(7,i64 i.1),(6,.gs 1 (((bI l).take i.1).filter (rN l d)).length),(5,aW (bI l)),(3,.ptr 0 0),(0,ops l)],[(1,.arr 37 2 (((bI l).take i.1).filter (rN l d)).length (((((bI l).take i.1).filter (rN l d)).flatMap Dt.ds).map .d)),(0,.box 37 d.cells)],2⟩) (fun i=>(bI l).length - i.1) ⟨0,by omega⟩ id af (round:= ?_);rintro ⟨i,hi⟩;dsimp only
  by_cases h:i<(bI l).length
  · obtain ⟨v,hx⟩:=aZ h
    have h1:decide ((i:Int)<(bI l).length)=true:=by simp only [decide_eq_true_eq];omega
    have e2:IntKind.i64.wrap ((i:Int)+1)=((i+1:Nat):Int):=wrap_i64 _ (by omega);have hfv:=lz l (by omega) v;have fc:(((bI l).take i).filter (rN l d)).length≤80:=by
      have h2:=List.length_filter_le (rN l d) ((bI l).take i);have h3:((bI l).take i).length≤(bI l).length:=by rw [List.length_take];omega
      omega
    refine SW.seq (SW.seq ?_);refine SW.g0 [0,1,3,4,5,6,7,8,15,35] mixed (h1) ?_;refine SW.aj rfl (SW.skip ?_);refine SW.seq (SW.block (SW.seq ?_));rcases hp:rN l d v with _ | _
    · have hsn:((bI l).take (i+1)).filter (rN l d)=((bI l).take i).filter (rN l d):=by rw [bH hx,List.filter_append];simp [hp]
      generalize ((bI l).take i).filter (rN l d)=s at hsn fc ⊢;have hpe:(decide ((i_ l v).kind=2) && decide ((i_ l v).at_=d))=false:=hp;generalize i_ l v=r at hfv hpe;have r14:r.cells[14]? =some (.d (.int .u8 r.kind)):=rfl;have JN:List.take 2 (List.drop 21 r.cells)=r.at_.cells:=rfl;refine SW.g1 [0,1,3,4,5,6,7,8,15,35] mixed (bW hx) hfv ?_;refine SW.cut (stM:=⟨[(35,bl false),(7,i64 i),(6,.gs 1 s.length),(5,aW (bI l)),(3,.ptr 0 0),(0,ops l)],[(1,.arr 37 2 s.length ((s.flatMap Dt.ds).map .d)),(0,.box 37 d.cells)],3⟩) id ?_ ?_
      · by_cases hk:r.kind=2
        · have z:(((r.kind:Nat):Int) == 2)=true:=by rw [hk];rfl
          have f:decide (r.at_=d)=false:=by rw [hk] at hpe;exact hpe
          refine SW.g0 [0,1,3,4,5,6,7,8,15,35] mixed (And.intro (r14) (And.intro (JN) (And.intro (z) (f)))) ?_;exact aK.mk af
        · have z:(((r.kind:Nat):Int) == 2)=false:=by simp;omega
          refine SW.g0 [0,1,3,4,5,6,7,8,15,35] mixed (And.intro (r14) (And.intro (JN) (z))) ?_;exact aK.mk af
      refine SW.ah rfl (SW.skip ?_);refine SW.g0 [0,1,3,4,5,6,7,8,15,35] mixed (e2) ?_;refine ⟨⟨i+1,by omega⟩,id,by show (bI l).length - (i+1)<_;omega,?_⟩;dsimp only;rw [hsn];exact aK.mk af
    · have hsn:((bI l).take (i+1)).filter (rN l d)=((bI l).take i).filter (rN l d)++[v]:=by rw [bH hx,List.filter_append];simp [hp]
      generalize ((bI l).take i).filter (rN l d)=s at hsn fc ⊢;have hpe:(decide ((i_ l v).kind=2) && decide ((i_ l v).at_=d))=true:=hp;generalize i_ l v=r at hfv hpe;have r14:r.cells[14]? =some (.d (.int .u8 r.kind)):=rfl;have JN:List.take 2 (List.drop 21 r.cells)=r.at_.cells:=rfl;refine SW.g1 [0,1,3,4,5,6,7,8,15,35] mixed (bW hx) hfv ?_;refine SW.seq ?_;rw [Bool.and_eq_true,decide_eq_true_eq] at hpe;have z:(((r.kind:Nat):Int) == 2)=true:=by rw [hpe.1];rfl
      have f:=hpe.2;refine SW.g0 [0,1,3,4,5,6,7,8,15,35] mixed (And.intro (r14) (And.intro (JN) (And.intro (z) (f)))) ?_;refine SW.aj rfl ?_;refine SW.g0 [0,1,3,4,5,6,7,8,15,35] mixed (bW hx) ?_;refine SW.g0 [0,1,3,4,5,6,7,8,15,35] mixed (e2) ?_;refine ⟨⟨i+1,by omega⟩,fun n=>if n=1 then 3 else n,by show (bI l).length - (i+1)<_;omega,?_⟩;dsimp only;rw [hsn];exact aK.mk (And.intro (tM s v) (yc s v))
  · have h1:decide ((i:Int)<(bI l).length)=false:=by simp only [decide_eq_false_iff_not];omega
    have h2:i=(bI l).length:=by omega
    subst h2;rw [List.take_length];refine SW.seq (SW.seq ?_);refine SW.g0 [0,1,3,4,5,6,7,8,15,35] mixed (h1) ?_;refine SW.ah rfl (SW.exit ?_);refine SW.freeze 1 (((bI l).filter (rN l d)).flatMap Dt.ds) rfl rfl ?_;simp only [iZ,SV.iw,List.map_cons,List.map_nil,if_true,if_false,reduceIte,cM,Nat.reduceEqDiff];refine SW.seq ?_;refine SW.g0 [0,1,3,4,5,6,7,8,15,35] mixed af ?_;refine SW.ret ?_;exact End.mk [] (h4:=⟨rfl,rfl⟩)
set_option maxHeartbeats 4000000 in
theorem Db (d:Dt):Go.Sl.Pure Tryz.prog ref18_Threats.f [ops l,.agg d.cells] (s6 l d):=by
 have hg:=rM hl hd d;have hf:=lz l (by omega) d;refine ref18_Threats.enter (by first | rfl | simp [SV.ok,SV.ax]) (by first | rfl | simp [Hp.ok,Ob.ok,SV.ok,SV.ax,aB.ak]) (by simp) ?_;dsimp only [ref18_Threats.s,Co.M,Co.J,Co.F,Co.Z,Co.B,Co.b8,Co.av,Co.bF,Co.K,Co.E,Co.L,Co.P,Co.Q,Co.R,Co.x,Co.W,Co.Y,Co.V,Co.O,Co.I,Co.S];refine SW.seq ?_;refine SW.g0 [0,1,3,4,5,6,8,9,10,11,16,28,43] mixed af ?_;refine SW.seq (SW.seq ?_);rcases hgd:di l d with _ | _
 ·rw [hgd] at hg
  have e1:s6 l d= .dm [.d .aJ,bl false]:=by unfold s6;rw [hgd];rfl
  rw [e1];refine SW.g1 [0,1,3,4,5,6,8,9,10,11,16,28,43] mixed af hg ?_;refine SW.aj rfl (SW.seq ?_);refine SW.g0 [0,1,3,4,5,6,8,9,10,11,16,28,43] mixed af ?_;refine SW.ret ?_;exact End.mk [] (h4:=⟨rfl,rfl⟩)
 rw [hgd] at hg;have e1:s6 l d= .dm [aW ((bI l).filter (mK l d)),bl true]:=by unfold s6;rw [hgd];rfl
 rw [e1];refine SW.g1 [0,1,3,4,5,6,8,9,10,11,16,28,43] mixed af hg ?_;refine SW.ah rfl (SW.skip ?_);refine SW.seq ?_;refine SW.g1 [0,1,3,4,5,6,8,9,10,11,16,28,43] mixed af hf ?_;refine SW.seq ?_;have vz:=wU hl hd;refine SW.g1 [0,1,3,4,5,6,8,9,10,11,16,28,43] mixed af vz ?_;refine SW.seq ?_;refine SW.g0 [0,1,3,4,5,6,8,9,10,11,16,28,43] mixed af ?_;refine SW.jb 9 37 2 rfl ?_;refine SW.seq (SW.seq ?_);refine SW.g0 [0,1,3,4,5,6,8,9,10,11,16,28,43] mixed af ?_;refine SW.block ?_;have hgl:=sM hl hd;refine SW.gY (α:={i:Nat // i≤(bI l).length}) (fun i=>⟨[(10,i64 i.1),(9,.gs 2 (((bI l).take i.1).filter (mK l d)).length),(8,aW (bI l)),(6,.ptr 1 0),(0,ops l)],[(2,.arr 37 2 (((bI l).take i.1).filter (mK l d)).length (((((bI l).take i.1).filter (mK l d)).flatMap Dt.ds).map .d)),(1,.box 43 (i_ l d).cells)],3⟩) (fun i=>(bI l).length - i.1) ⟨0,by omega⟩ id af (round:= ?_);rintro ⟨i,hi⟩;dsimp only
 by_cases h:i<(bI l).length
 ·obtain ⟨v,hx⟩:=aZ h
  have h1:decide ((i:Int)<(bI l).length)=true:=by simp only [decide_eq_true_eq];omega
  have e2:IntKind.i64.wrap ((i:Int)+1)=((i+1:Nat):Int):=wrap_i64 _ (by omega);have hfv:=lz l (by omega) v;have fc:(((bI l).take i).filter (mK l d)).length≤80:=by
   have h2:=List.length_filter_le (mK l d) ((bI l).take i);have h3:((bI l).take i).length≤(bI l).length:=by rw [List.length_take];omega
   omega
  refine SW.seq (SW.seq ?_);refine SW.g0 [0,1,3,4,5,6,8,9,10,11,16,28,43] mixed (h1) ?_;refine SW.aj rfl (SW.skip ?_);refine SW.seq (SW.block (SW.seq ?_));rcases hp:mK l d v with _ | _
  ·have hsn:((bI l).take (i+1)).filter (mK l d)=((bI l).take i).filter (mK l d):=by rw [bH hx,List.filter_append];simp [hp]
   generalize ((bI l).take i).filter (mK l d)=s at hsn fc ⊢;have hT:=zF hl hd (i_ l v) (i_ l d);rw [show u_ l (i_ l v) (i_ l d)=false from hp] at hT;refine SW.g2 [0,1,3,4,5,6,8,9,10,11,16,28,43] mixed (bW hx) hfv hT ?_;refine SW.seq ?_;refine SW.g2 [0,1,3,4,5,6,8,9,10,11,16,28,43] mixed af hfv hT ?_;refine SW.ah rfl (SW.skip ?_);refine SW.g0 [0,1,3,4,5,6,8,9,10,11,16,28,43] mixed (e2) ?_;refine ⟨⟨i+1,by omega⟩,id,by show (bI l).length - (i+1)<_;omega,?_⟩;dsimp only;rw [hsn];exact aK.mk af
  ·have hsn:((bI l).take (i+1)).filter (mK l d)=((bI l).take i).filter (mK l d)++[v]:=by rw [bH hx,List.filter_append];simp [hp]
   generalize ((bI l).take i).filter (mK l d)=s at hsn fc ⊢;have hT:=zF hl hd (i_ l v) (i_ l d);rw [show u_ l (i_ l v) (i_ l d)=true from hp] at hT;refine SW.g2 [0,1,3,4,5,6,8,9,10,11,16,28,43] mixed (bW hx) hfv hT ?_;refine SW.seq ?_;refine SW.g2 [0,1,3,4,5,6,8,9,10,11,16,28,43] mixed af hfv hT ?_;refine SW.aj rfl ?_;refine SW.g0 [0,1,3,4,5,6,8,9,10,11,16,28,43] mixed (bW hx) ?_;refine SW.g0 [0,1,3,4,5,6,8,9,10,11,16,28,43] mixed (e2) ?_;refine ⟨⟨i+1,by omega⟩,fun n=>if n=2 then 4 else n,by show (bI l).length - (i+1)<_;omega,?_⟩;dsimp only;rw [hsn];exact aK.mk (And.intro (tM s v) (yc s v))
 ·have h1:decide ((i:Int)<(bI l).length)=false:=by simp only [decide_eq_false_iff_not];omega
  have h2:i=(bI l).length:=by omega
  subst h2;rw [List.take_length];refine SW.seq (SW.seq ?_);refine SW.g0 [0,1,3,4,5,6,8,9,10,11,16,28,43] mixed (h1) ?_;refine SW.ah rfl (SW.exit ?_);refine SW.freeze 2 (((bI l).filter (mK l d)).flatMap Dt.ds) rfl rfl ?_;simp only [iZ,SV.iw,List.map_cons,List.map_nil,if_true,if_false,reduceIte,cM,Nat.reduceEqDiff];refine SW.seq ?_;refine SW.g0 [0,1,3,4,5,6,8,9,10,11,16,28,43] mixed af ?_;refine SW.ret ?_;exact End.mk [] (h4:=⟨rfl,rfl⟩)
theorem Dc (d:Dt)(k:Nat):aF Tryz.prog ref18_Threats.f [ops l,.agg d.cells] [] k 0 (s6 l d) []:=(Db hl hd d).sc (by unfold s6;split <;> rfl) k
end
end
end Go.Proofs.YtaelhkkjgfobhaaGreat
