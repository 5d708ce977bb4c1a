/-
 Spends: the iterator over a map of spends.
-/
import Derived.Test.YtefjaphfnkbbkaaUK
import Derived.Test.YtefjaphfnkbbkaaUI
import Derived.Test.YtefjaphfnkbbkaaUL
import Derived.Test.YtefjaphfnkbbkaaChecked
import Derived.Shelf.SlSortCmp.NoneTotal
set_option linter.unusedSectionVars false
set_option linter.unusedVariables false
set_option linter.unusedSimpArgs false
namespace Go.Proofs.Ytefjaphfnkbbkaa
open Go.Sl Go.Proofs
attribute [local irreducible] SW RW bp SC af aa
def tj (xs:MM Dt Nat):List (Dt×Nat):=xs.map fun e=>(e.2.1,e.2.2)
structure Dl {σ:Type}(Fh:σ→Hp)(Step:σ→Dt×Nat→σ→Prop)(go:σ→Bool)(bV b m k:Nat)(L:MM Dt Nat)(s0 s:σ)(xs:MM Dt Nat)(kk:Nat):Prop where
 p1:mw Step s0 (tj xs) s
 p2:go s=true
 p3:∀ x,x∈xs→x∈L
 p4:(xs.map (·.1)).Nodup
 p5:k+1≤kk
 p6:kk≤k+1+xs.length*(1+bV)
 p7:(Fh s).ok (fun n=>decide (n<kk))=true
 p8:lk (Fh s) b=none
 p9:lk (Fh s) m=none
 Hu:lk (Fh s) k=none
set_option maxHeartbeats 1000000 in
theorem E5 {σ:Type}{Fh:σ→Hp}{Step:σ→Dt×Nat→σ→Prop}{go:σ→Bool}{bV y b m k c:Nat}{L:MM Dt Nat}(hwf:MM.wf L c)(s0:σ)(hy:wV Try.prog y (fun x:Dt×Nat=>[.agg x.1.cells,uv x.2]) bV Fh Step go s0 L.length)(h0:(Fh s0).ok (fun n=>decide (n<k))=true)
  (hb:b<k) (hm:m<k) (JD:b≠m) (hdb:lk (Fh s0) b=none) (IK:lk (Fh s0) m=none) (D5:go s0=true):
  SB Try.prog maps_All_charge_spends_api_Dot_uint64_1.f [.yl y,.ptr b 0] ((b,.box 106 [.mp m])::(m,.map (aH Dt.cells uv L) c)::Fh s0) k (1+L.length*(1+bV))
   fun r F=>r= .cg []∧∃ (xs:MM Dt Nat) (s':σ),mw Step s0 (tj xs) s'∧(∀ x,x∈xs→x∈L)∧(xs.map (·.1)).Nodup∧(go s'=true→∀ x,x∈L→x∈xs)∧(lk (Fh s') b=none∧lk (Fh s') m=none)∧F=(b,.box 106 [.mp m])::(m,.map (aH Dt.cells uv L) c)::Fh s':=by
 have hyk:y<k:=by
  obtain ⟨ob,ho⟩:=Option.ne_none_iff_exists'.1 (hy.Cd s0)
  simpa using (Hp.fJ h0 ho).1
 refine maps_All_charge_spends_api_Dot_uint64_1.enter (by simp [SV.ok,SV.aI];omega) (by simp only [Hp.ok,List.all_cons,Ob.ok,SV.aI,SV.ok,eu,Bool.and_true,Bool.and_eq_true,decide_eq_true_eq];exact ⟨⟨hb,hm⟩,hm,h0⟩) (by simp) ?_
 dsimp only [maps_All_charge_spends_api_Dot_uint64_1.s,Co.M,Co.G,Co.J,Co.H,Co.N,Co.F,Co.C,Co.Z,Co.B,Co.b8,Co.aA,Co.bz,Co.i6,Co.z8,Co.dm]
 have f1:=bX (show m≠b by omega)
 have f2:=bX (show k≠b by omega)
 have f3:=bX (show k≠m by omega)
 have f4:List.lookup k (Fh s0)=none:=by
  cases hh:lk (Fh s0) k with
  | none=>exact hh
  | some ob=>have:=(Hp.fJ h0 hh).1;simp at this
 refine SW.seq ?_
 refine SW.g0 [0,1,3,4,6,8,16] mixed (And.intro (f1) (And.intro (f2) (And.intro (f3) (f4)))) ?_
 refine SW.block (SW.Eo (es:=fun _=>aH Dt.cells uv L) (c:=fun _=>c) (vt:=fun _=>k) (nm:=fun _=>m) (since:=fun _=>c) (DO:=fun _=>c)
  (α:={i:σ×MM Dt Nat×Nat // Dl Fh Step go bV b m k L s0 i.1 i.2.1 i.2.2})
  (fun i=>⟨[(6,.it k),(0,.yl y),(1,.ptr b 0)],(k,.iter (some m) c (i.1.2.1.map (·.1)) c)::(b,.box 106 [.mp m])::(m,.map (aH Dt.cells uv L) c)::Fh i.1.1,i.1.2.2⟩)
  (fun i=>mu (aH Dt.cells uv L) (i.1.2.1.map (·.1))) ⟨(s0,[],k+1),⟨.nil,D5,by simp,by simp,by simp,by simp,Hp.dK (by simp) h0,hdb,IK,f4⟩⟩ id (seen:=fun i=>i.1.2.1.map (·.1)) ?_ (fun i=>by simp [List.lookup]) (fun i=>by simp [ag]) (fun i=> ?_) (fun i=>by omega) (fun i e he=> ?_) (fun i=>Nat.le_refl _) (fun i hall=> ?_) (fun i e he hs=> ?_))
 ·refine bg.same (by simp) (by simp [dL,jX,List.lookup,SV.aV,SV.ok];omega) ?_ ?_
  ·simp only [Hp.ok,List.all_cons,Ob.ok,SV.aI,SV.ok,eu,Bool.and_true,Bool.and_eq_true,decide_eq_true_eq]
   exact ⟨⟨by omega,by omega⟩,⟨by omega,by omega⟩,by omega,Hp.dK (by simp) h0⟩
  ·intro x hx
   simp only [List.mem_cons] at hx
   rcases hx with rfl | rfl | rfl | hx
   ·simp [ag]
   ·simp [ag,f1,f2,f3]
   ·simp [ag,f1,f2,f3]
   ·have:=hy.nd s0 x hx
    have h1:x.1≠k:=fun e=>by rw [e] at this;rw [show lk (Fh s0) k=none from f4] at this;cases this
    have h2:x.1≠b:=fun e=>by rw [e,hdb] at this;cases this
    have h3:x.1≠m:=fun e=>by rw [e,IK] at this;cases this
    simp [ag,h1,h2,h3,this]
 ·simp [ag,f1,f2,f3]
 ·obtain ⟨x,hx,rfl⟩:=wJ he
  exact hwf.old x hx
 ·obtain ⟨⟨s,xs,kk⟩,hi⟩:=i
  have hi:Dl Fh Step go bV b m k L s0 s xs kk:=hi
  have hi':=hi
  obtain ⟨p1,p2,p3,p4,p5,p6,p7,p8,p9,Hu⟩:=hi'
  dsimp only at*
  have hsub:xs.length≤L.length:=by
   have:=p4.length_le_of_subset (l₂:=L.map (·.1)) (fun t ht=>by
    obtain ⟨x,hx,rfl⟩:=List.mem_map.1 ht
    exact List.mem_map.2 ⟨x,p3 x hx,rfl⟩)
   simpa using this
  have hmul:xs.length*(1+bV)≤L.length*(1+bV):=Nat.mul_le_mul_right _ hsub
  have hhp:∀ kx,kk≤kx→Hp.ok (fun n=>decide (n<kx)) ((b,Ob.box 106 [.mp m])::(m,.map (aH Dt.cells uv L) c)::Fh s)=true:=fun kx hkx=>by
   simp only [Hp.ok,List.all_cons,Ob.ok,SV.aI,SV.ok,eu,Bool.and_true,Bool.and_eq_true,decide_eq_true_eq]
   exact ⟨⟨by omega,by omega⟩,by omega,Hp.dK hkx p7⟩
  refine ⟨⟨[],(b,.box 106 [.mp m])::(m,.map (aH Dt.cells uv L) c)::Fh s,k+(1+L.length*(1+bV))⟩,id,bg.same (Nat.le_add_right _ _) trivial (hhp _ (by show kk≤k+(1+L.length*(1+bV));omega)) ?_,?_⟩
  ·intro x hx
   simp only [List.mem_cons] at hx
   rcases hx with rfl | rfl | hx
   ·simp [ag,f1,f2,f3]
   ·simp [ag,f1,f2,f3]
   ·have:=hy.nd s x hx
    have h1:x.1≠k:=fun e=>by rw [e,Hu] at this;cases this
    have h2:x.1≠b:=fun e=>by rw [e,p8] at this;cases this
    have h3:x.1≠m:=fun e=>by rw [e,p9] at this;cases this
    simp [ag,h1,h2,h3,this]
  ·rw [if_pos rfl]
   refine End.mk ((b,.box 106 [.mp m])::(m,.map (aH Dt.cells uv L) c)::Fh s) (h3:=fun _ _ h=>h) (h4:=⟨rfl,xs,s,p1,p3,p4,fun _ x hx=> ?_,⟨p8,p9⟩,rfl⟩) (h6:=hhp _ (by omega)) (h7:=Nat.le_refl _)
   have:=hall _ (List.mem_map.2 ⟨x,hx,rfl⟩)
   simp only [List.contains_iff_mem] at this
   obtain ⟨z,hz,e⟩:=List.mem_map.1 this
   have:z=x:=MM.B1 hwf.times (p3 z hz) hx e
   rw [← this];exact hz
 ·obtain ⟨⟨s,xs,kk⟩,hi⟩:=i
  have hi:Dl Fh Step go bV b m k L s0 s xs kk:=hi
  have hi':=hi
  obtain ⟨p1,p2,p3,p4,p5,p6,p7,p8,p9,Hu⟩:=hi'
  dsimp only at*
  obtain ⟨x,hx,rfl⟩:=wJ he
  dsimp only at hs
  have g1:=bX (show kk≠k by omega)
  have g2:=bX (show kk≠b by omega)
  have g3:=bX (show kk≠m by omega)
  have g4:List.lookup kk (Fh s)=none:=Hp.out p7 (Nat.le_refl _)
  have g5:(xs.map (·.1)++[x.1]).getLast? =some x.1:=by simp
  have g6:=Ao (kc:=Dt.cells) (vs:=uv) hwf.times hx
  rw [uz]
  dsimp only
  refine SW.block (SW.seq ?_)
  have euv:∀ n,uv n= .d (.int .u64 (n:Int)):=fun _=>rfl
  refine SW.g0 [0,1,3,4,6,8,16] mixed (And.intro (f1) (And.intro (f2) (And.intro (f3) (And.intro (g1) (And.intro (g2) (And.intro (g3) (And.intro (g4) (And.intro (g5) (And.intro (g6) (euv)))))))))) ?_
  refine SW.seq (SW.IC ?_)
  (repeat (first | refine dX.op (And.intro (g1) (And.intro (g2) (g3))) (h:= ?_) | refine dX.aF (And.intro (g1) (And.intro (g2) (g3))) (h:= ?_) | refine dX.skip (h:= ?_)))
  have hokk:(Fh s).ok (fun n=>decide (n<kk+1))=true:=Hp.dK (by omega) p7
  have hnd:∀ s',(∀ n,lk (Fh s') n≠none→lk (Fh s) n≠none∨(kk+1≤n∧n<kk+1+bV))→lk (Fh s') b=none∧lk (Fh s') m=none∧lk (Fh s') k=none:=fun s' h=>by
   refine ⟨?_,?_,?_⟩
   ·exact Classical.byContradiction fun hn=>(h b hn).elim (fun h=>h p8) (fun h=>by omega)
   ·exact Classical.byContradiction fun hn=>(h m hn).elim (fun h=>h p9) (fun h=>by omega)
   ·exact Classical.byContradiction fun hn=>(h k hn).elim (fun h=>h Hu) (fun h=>by omega)
  have hxs:x∉xs:=fun h=>by
   have:(xs.map (·.1)).contains x.1=true:=by simp only [List.contains_iff_mem];exact List.mem_map.2 ⟨x,h,rfl⟩
   rw [this] at hs;cases hs
  have hxt:x.1∉xs.map (·.1):=fun h=>by
   have:(xs.map (·.1)).contains x.1=true:=by simpa only [List.contains_iff_mem] using h
   rw [this] at hs;cases hs
  have q3:∀ z,z∈xs++[x]→z∈L:=fun z hz=>by
   rcases List.mem_append.1 hz with hz | hz
   ·exact p3 z hz
   ·rw [List.mem_singleton.1 hz];exact hx
  have q4:((xs++[x]).map (·.1)).Nodup:=by
   rw [List.map_append,List.nodup_append]
   refine ⟨p4,by simp,fun a ha b' hb'=> ?_⟩
   simp only [List.map_cons,List.map_nil,List.mem_singleton] at hb'
   intro e
   exact hxt (by rw [← hb',← e];exact ha)
  have hsub2:(xs++[x]).length≤L.length:=by
   have:=q4.length_le_of_subset (l₂:=L.map (·.1)) (fun t ht=>by
    obtain ⟨z,hz,rfl⟩:=List.mem_map.1 ht
    exact List.mem_map.2 ⟨z,q3 z hz,rfl⟩)
   simpa using this
  have hlt:(tj xs).length<L.length:=by
   simp only [List.length_append,List.length_singleton] at hsub2
   simp only [tj,List.length_map];omega
  have hsub:HSub (Fh s) ((kk,Ob.box 29 x.2.1.cells)::(k,Ob.iter (some m) c (xs.map (·.1)++[x.1]) c)::(b,Ob.box 106 [.mp m])::(m,.map (aH Dt.cells uv L) c)::Fh s):=fun n ob hn=>by
   have h1:n≠k:=fun e=>by rw [e,Hu] at hn;cases hn
   have h2:n≠b:=fun e=>by rw [e,p8] at hn;cases hn
   have h3:n≠m:=fun e=>by rw [e,p9] at hn;cases hn
   have h4:n≠kk:=fun e=>by rw [e,show lk (Fh s) kk=none from g4] at hn;cases hn
   simp [ag,h1,h2,h3,h4,hn]
  refine dX.yield (by simp only [ev,List.lookup,Nat.reduceBEq] <;> rfl) (by simp only [ev,qu,List.lookup,Nat.reduceBEq] <;> rfl) (hy.Cd s) (hy.call s _ (x.2.1,x.2.2) (kk+1) p1 hlt hokk p2) hsub ?_
  rintro v F' ⟨s',hstep,rfl,rfl,hok',hnm⟩
  obtain ⟨n1,n2,n3⟩:=hnd s' hnm
  rw [iV]
  show dX Try.prog 17 k _ ⟨(15,.d (.bool (go s')))::_,_,_⟩ _
  (repeat (first | refine dX.op U (h:= ?_) | refine dX.aF U (h:= ?_) | refine dX.skip (h:= ?_)))
  refine dX.nil ?_
  have hlk:=jc (ro:=false) hsub (F':=Fh s') (fun h=>by cases h)
  have hhp:∀ kx,kk+1+bV≤kx→Hp.ok (fun n=>decide (n<kx)) ((b,Ob.box 106 [.mp m])::(m,.map (aH Dt.cells uv L) c)::Fh s')=true:=fun kx hkx=>by
   simp only [Hp.ok,List.all_cons,Ob.ok,SV.aI,SV.ok,eu,Bool.and_true,Bool.and_eq_true,decide_eq_true_eq]
   exact ⟨⟨by omega,by omega⟩,by omega,Hp.dK hkx hok'⟩
  have hin:∀ z,z∈((b,Ob.box 106 [.mp m])::(m,.map (aH Dt.cells uv L) c)::Fh s')→zl (lk ((kk,Ob.box 29 x.2.1.cells)::(k,Ob.iter (some m) c (xs.map (·.1)++[x.1]) c)::(b,Ob.box 106 [.mp m])::(m,.map (aH Dt.cells uv L) c)::Fh s)) (lk (Fh s)) (lk (Fh s')) z.1=some z.2:=by
   intro z hz
   simp only [List.mem_cons] at hz
   rcases hz with rfl | rfl | hz
   ·rw [c9 p8 n1];simp [ag,f1,f2,f3,g1,g2,g3]
   ·rw [c9 p9 n2];simp [ag,f1,f2,f3,g1,g2,g3]
   ·have:=hy.nd s' z hz
    rw [fk (.inr (by rw [this];simp)),this]
  have q1:mw Step s0 (tj (xs++[x])) s':=by
   have:=mw.snoc p1 hstep
   simpa [tj] using this
  have q6:kk+1+bV≤k+1+(xs++[x]).length*(1+bV):=by
   have e:(xs++[x]).length*(1+bV)=xs.length*(1+bV)+(1+bV):=by rw [List.length_append,List.length_singleton,Nat.add_mul,Nat.one_mul]
   rw [e];omega
  have hmul:(xs++[x]).length*(1+bV)≤L.length*(1+bV):=Nat.mul_le_mul_right _ hsub2
  cases hg:go s' with
  | true=>
   refine SW.ak (by simp [ev,List.lookup,hg]) (SW.skip ?_)
   refine ⟨⟨(s',xs++[x],kk+1+bV),q1,hg,q3,q4,by show k+1≤kk+1+bV;omega,q6,hok',n1,n2,n3⟩,id,?_,bg.same (by show k≤kk+1+bV;omega) (by simp [dL,List.lookup,SV.aV,SV.ok];omega) ?_ ?_⟩
   ·have:=Ax he hs
    simpa using this
   ·have:=hhp (kk+1+bV) (Nat.le_refl _)
    simp only [Hp.ok,List.all_cons,Ob.ok,Bool.and_eq_true,decide_eq_true_eq] at this ⊢
    exact ⟨⟨by omega,by omega⟩,this⟩
   ·intro z hz
    rcases List.mem_cons.1 hz with rfl | hz
    ·have:lk (cH false ((kk,Ob.box 29 x.2.1.cells)::(k,Ob.iter (some m) c (xs.map (·.1)++[x.1]) c)::(b,Ob.box 106 [.mp m])::(m,.map (aH Dt.cells uv L) c)::Fh s) (Fh s) (Fh s')) k=some (.iter (some m) c (xs.map (·.1)++[x.1]) c):=by
      rw [hlk,c9 Hu n3];simp [ag,g1]
     simpa [cH] using this
    ·have:lk (cH false ((kk,Ob.box 29 x.2.1.cells)::(k,Ob.iter (some m) c (xs.map (·.1)++[x.1]) c)::(b,Ob.box 106 [.mp m])::(m,.map (aH Dt.cells uv L) c)::Fh s) (Fh s) (Fh s')) z.1=some z.2:=by
      rw [hlk];exact hin z hz
     exact this
  | false=>
   refine SW.au (by simp [ev,List.lookup,hg]) ?_
   refine SW.weak id (st1:=⟨[],(b,.box 106 [.mp m])::(m,.map (aH Dt.cells uv L) c)::Fh s',k+(1+L.length*(1+bV))⟩) (bg.same (Nat.le_add_right _ _) trivial (hhp _ (by show kk+1+bV≤k+(1+L.length*(1+bV));omega)) fun z hz=> ?_) (SW.ret ?_)
   ·have:lk (cH false ((kk,Ob.box 29 x.2.1.cells)::(k,Ob.iter (some m) c (xs.map (·.1)++[x.1]) c)::(b,Ob.box 106 [.mp m])::(m,.map (aH Dt.cells uv L) c)::Fh s) (Fh s) (Fh s')) z.1=some z.2:=by
     rw [hlk];exact hin z hz
    exact this
   ·refine End.mk ((b,.box 106 [.mp m])::(m,.map (aH Dt.cells uv L) c)::Fh s') (h3:=fun _ _ h=>h) (h4:=⟨rfl,xs++[x],s',q1,q3,q4,fun (h:go s'=true)=>absurd h (by rw [hg];decide),⟨n1,n2⟩,rfl⟩) (h6:=hhp _ (by omega)) (h7:=Nat.le_refl _)
end Go.Proofs.Ytefjaphfnkbbkaa
namespace Go.Proofs.Ytefjaphfnkbbkaa
open Go.Proofs Go.Shelf
def uR:Go.Shelf.Ren:=⟨fun | 6=>61 | 15=>72 | 14=>71 | 28=>87 | 29=>88 | 20=>79 | 21=>80 | 22=>81 | 23=>82 | 24=>83 | 25=>84 | 26=>85 | 27=>86 | 46=>93 | 47=>94 | 48=>95 | 49=>96 | 50=>97 | 57=>101 | n=>n,fun | 22=>125 | 24=>130 | 25=>132 | 3=>3 | 39=>145 | 0=>0 | 53=>27 | 55=>32 | 4=>4 | 46=>151 | 45=>150 | 50=>99 | 5=>5 | 9=>9 | 66=>161 | 70=>165 | 76=>169 | 77=>170 | n=>n,fun | n=>n⟩
theorem Ir:Go.Proofs.SlLaysF0.n6 Try.prog uR where
 mixed:=by kernel_rfl
 f6:=⟨ "slices.SortFunc[[]tranter/charge.pair,tranter/charge.pair]",by decide,Try.func61.trans (congrArg some (by kernel_rfl))⟩
 f14:=⟨ "slices.pdqsortCmpFunc[tranter/charge.pair]",by decide,Try.func71.trans (congrArg some (by kernel_rfl))⟩
 f15:= Try.func72.trans (congrArg some (by kernel_rfl))
 f20:=⟨ "slices.insertionSortCmpFunc[tranter/charge.pair]",by decide,Try.func79.trans (congrArg some (by kernel_rfl))⟩
 f21:=⟨ "slices.heapSortCmpFunc[tranter/charge.pair]",by decide,Try.func80.trans (congrArg some (by kernel_rfl))⟩
 f22:=⟨ "slices.breakPatternsCmpFunc[tranter/charge.pair]",by decide,Try.func81.trans (congrArg some (by kernel_rfl))⟩
 f23:=⟨ "slices.choosePivotCmpFunc[tranter/charge.pair]",by decide,Try.func82.trans (congrArg some (by kernel_rfl))⟩
 f24:=⟨ "slices.reverseRangeCmpFunc[tranter/charge.pair]",by decide,Try.func83.trans (congrArg some (by kernel_rfl))⟩
 f25:=⟨ "slices.partialInsertionSortCmpFunc[tranter/charge.pair]",by decide,Try.func84.trans (congrArg some (by kernel_rfl))⟩
 f26:=⟨ "slices.partitionEqualCmpFunc[tranter/charge.pair]",by decide,Try.func85.trans (congrArg some (by kernel_rfl))⟩
 f27:=⟨ "slices.partitionCmpFunc[tranter/charge.pair]",by decide,Try.func86.trans (congrArg some (by kernel_rfl))⟩
 f28:= Try.func87.trans (congrArg some (by kernel_rfl))
 f29:= Try.func88.trans (congrArg some (by kernel_rfl))
 f46:=⟨ "slices.siftDownCmpFunc[tranter/charge.pair]",by decide,Try.func93.trans (congrArg some (by kernel_rfl))⟩
 f47:= Try.func94.trans (congrArg some (by kernel_rfl))
 f48:= Try.func95.trans (congrArg some (by kernel_rfl))
 f49:=⟨ "slices.medianAdjacentCmpFunc[tranter/charge.pair]",by decide,Try.func96.trans (congrArg some (by kernel_rfl))⟩
 f50:=⟨ "slices.medianCmpFunc[tranter/charge.pair]",by decide,Try.func97.trans (congrArg some (by kernel_rfl))⟩
 f57:=⟨ "slices.order2CmpFunc[tranter/charge.pair]",by decide,Try.func101.trans (congrArg some (by kernel_rfl))⟩
 t0:= Try.underlying0
 a0:= Try.isAgg0
 z0:= Try.sizeOf0
 v0:= Try.zeroValue0
 t3:= Try.underlying3
 a3:= Try.isAgg3
 z3:= Try.sizeOf3
 v3:= Try.zeroValue3
 t4:= Try.underlying4
 a4:= Try.isAgg4
 z4:= Try.sizeOf4
 v4:= Try.zeroValue4
 t5:= Try.underlying5
 a5:= Try.isAgg5
 z5:= Try.sizeOf5
 v5:= Try.zeroValue5
 t9:= Try.underlying9
 a9:= Try.isAgg9
 z9:= Try.sizeOf9
 v9:= Try.zeroValue9
 t22:= Try.underlying125
 a22:= Try.isAgg125
 z22:= Try.sizeOf125
 v22:= Try.zeroValue125
 t25:= Try.underlying132
 a25:= Try.isAgg132
 z25:= Try.sizeOf132
 v25:= Try.zeroValue132
 t39:= Try.underlying145
 a39:= Try.isAgg145
 z39:= Try.sizeOf145
 v39:= Try.zeroValue145
 t45:= Try.underlying150
 a45:= Try.isAgg150
 z45:= Try.sizeOf150
 v45:= Try.zeroValue150
 t46:= Try.underlying151
 a46:= Try.isAgg151
 z46:= Try.sizeOf151
 v46:= Try.zeroValue151
 t50:= Try.underlying99
 a50:= Try.isAgg99
 z50:= Try.sizeOf99
 v50:= Try.zeroValue99
 t53:= Try.underlying27
 a53:= Try.isAgg27
 z53:= Try.sizeOf27
 v53:= Try.zeroValue27
 t55:= Try.underlying32
 a55:= Try.isAgg32
 z55:= Try.sizeOf32
 v55:= Try.zeroValue32
 t66:= Try.underlying161
 a66:= Try.isAgg161
 z66:= Try.sizeOf161
 v66:= Try.zeroValue161
 t70:= Try.underlying165
 a70:= Try.isAgg165
 z70:= Try.sizeOf165
 v70:= Try.zeroValue165
 t76:= Try.underlying169
 a76:= Try.isAgg169
 z76:= Try.sizeOf169
 v76:= Try.zeroValue169
 t77:= Try.underlying170
 a77:= Try.isAgg170
 z77:= Try.sizeOf170
 v77:= Try.zeroValue170
end Go.Proofs.Ytefjaphfnkbbkaa
namespace Go.Proofs.Ytefjaphfnkbbkaa
open Go.Sl Go.Proofs Go.Sort
attribute [local irreducible] SW RW bp SC af aa
structure Bg (y bx:Nat) where
 l:List Sp
 rn:Nat
 h1:rn≠y
 h2:rn≠bx
def gW (y bx N:Nat)(ts ps:List Nat)(ca cb:Code)(s:Bg y bx):Hp:=
 [(y,.ox N ts [.ptr bx 0] ps ca cb .ready none),(bx,.box 125 [.gs s.rn s.l.length]),(s.rn,.arr 130 3 s.l.length ((s.l.flatMap Sp.ds).map .d))]
def vO (l:List Sp)(x:Dt×Nat):List Sp:=if 0<x.2 then l++[⟨x.1,x.2⟩] else l
theorem Dm (l:List Sp)(x:Dt×Nat):(vO l x).length≤l.length+1:=by
 unfold vO;split <;> simp
set_option maxHeartbeats 2000000 in
theorem Dn {y bx B:Nat}(FH:y≠bx)(s0:Bg y bx)(hB:s0.l.length+B<4611686018427){ca cb:Code}
    (hca:cK Try.prog 37 ca=some (.seq (.eN [⟨some 4,.alloc 29 [.d (.int .u8 0),.d (.int .u32 0)],none⟩,⟨none,.store 2 (.t 4) (.t 11),none⟩] (lR 2) false) (.eN [⟨some 5,.mv (.t 12),none⟩] (lR 1) false)))
    (hcb:cK Try.prog 37 cb=some (.block 1 (.seq (.eN [⟨some 13,.mv (.t 5),none⟩,⟨some 14,.bin .gtr (.t 13) (.k (.d (.int .u64 0))),none⟩] (lR 2) false) (.cond (.t 14) (.eN [⟨some 15,.load none (.t 3),none⟩,⟨some 16,.load (some 2) (.t 4),none⟩,⟨some 17,.mv (.t 5),none⟩,⟨some 18,.fZ [.d (.int .u8 0),.d (.int .u32 0),.d (.int .u64 0)] [(0,2,.t 16),(2,1,.t 17)],none⟩,⟨some 19,.fZ [.d (.int .u8 0),.d (.int .u32 0),.d (.int .u64 0)] [(0,3,.t 18)],none⟩,⟨some 20,.jL 130 3 1 [.d (.int .u8 0),.d (.int .u32 0),.d (.int .u64 0)] [(0,3,.t 19)],none⟩,⟨some 21,.app 130 3 16 (.t 15) (.t 20),none⟩,⟨none,.store 1 (.t 3) (.t 21),none⟩] (lR 8) false) .skip)))):
    wV Try.prog y (fun x:Dt×Nat=>[.agg x.1.cells,uv x.2]) 2 (gW y bx 37 [3] [11,12] ca cb) (fun s x s'=>s'.l=vO s.l x) (fun _=>true) s0 B:=by
  refine ⟨fun s=>by simp [gW,ag],fun s x hx=> ?_,fun s xs x k hon hlt hok _=> ?_⟩
  · have f1:=bX FH
    have f2:=bX s.h1
    have f3:=bX s.h2
    simp only [gW,List.mem_cons,List.not_mem_nil,or_false] at hx
    rcases hx with rfl | rfl | rfl <;> simp [gW,ag,f1,f2,f3]
  · have hlen :s.l.length≤s0.l.length+xs.length:=by
      clear hlt hok
      induction hon with
      | nil=>simp
      | @snoc xs s1 s2 x _ h ih=>rw [h];have:=Dm s1.l x;simp;omega
    obtain ⟨l,rn,h1,h2⟩:=s
    simp only at hlen
    simp only [gW,Hp.ok,List.all_cons,List.all_nil,Ob.ok,SV.aI,SV.ok,SV.bt,Bool.and_true,Bool.and_eq_true,decide_eq_true_eq] at hok
    obtain ⟨⟨k1,_⟩,⟨k2,_⟩,k3⟩:=hok
    have f1:=bX FH
    have f2:=bX h1
    have f3:=bX h2
    have g1:=bX (show k≠y by omega)
    have g2:=bX (show k≠bx by omega)
    have g3:=bX (show k≠rn by omega)
    have g4:=bX (show k+1≠k by omega)
    have g5:=bX (show k+1≠y by omega)
    have g6:=bX (show k+1≠bx by omega)
    have g7:=bX (show k+1≠rn by omega)
    obtain ⟨d,n⟩:=x
    have euv:∀ n,uv n= .d (.int .u64 (n:Int)):=fun _=>rfl
    refine DN.here (fun n=>n == y || n == bx || n == rn) (DN.vq (cs:=[.ptr bx 0]) (H:=[(bx,.box 125 [.gs rn l.length]),(rn,.arr 130 3 l.length ((l.flatMap Sp.ds).map .d))]) hca hcb rfl rfl rfl (by simp) k1 (by simp [ag,bA,f1,f2]) (by simp [SV.aI,SV.ok,uv]) (by simp [Hp.ok,Ob.ok,SV.aI,SV.ok,SV.bt];omega) (by simp [SV.aI,SV.ok];omega) ?_) ?_ (by simp [SV.aI,SV.ok,uv]) (by simp [gW,Hp.ok,Ob.ok,SV.aI,SV.ok,SV.bt]) ?_
    · skip
      show Go.Sl.SW _ _ _ _ ⟨[(12,.d (.int .u64 (n:Int))),(11,.agg d.cells),(3,.ptr bx 0)],_,_⟩ _
      refine SW.seq ?_
      refine SW.g0 [3,4,5,11,12,14] mixed (And.intro (f1) (And.intro (f2) (And.intro (f3) (And.intro (g1) (And.intro (g2) (g3)))))) ?_
      refine SW.g0 [3,4,5,11,12,14] mixed U ?_
      refine ⟨rfl,SW.block (SW.seq ?_)⟩
      by_cases hp:0<n
      · have p1:decide ((n:Int)>0)=true:=by simp;omega
        have ea:vO l (d,n)=l++[⟨d,n⟩]:=if_pos hp
        refine SW.g0 [3,4,5,11,12,14] mixed (p1) ?_
        refine SW.au rfl ?_
        refine SW.g0 [3,4,5,11,12,14] mixed (And.intro (f1) (And.intro (f2) (And.intro (f3) (And.intro (g1) (And.intro (g2) (And.intro (g3) (And.intro (g4) (And.intro (g5) (And.intro (g6) (g7)))))))))) ?_
        have e2:((l++[(⟨d,n⟩:Sp)]).flatMap Sp.ds).map SV.d=(List.flatMap Sp.ds l).map SV.d++(Sp.mk d n).ds.map SV.d:=by simp
        refine ⟨none,true,[(bx,.box 125 [.gs (k+1) (l++[(⟨d,n⟩:Sp)]).length]),(k+1,.arr 130 3 (l++[(⟨d,n⟩:Sp)]).length (((l++[(⟨d,n⟩:Sp)]).flatMap Sp.ds).map .d))],⟨rfl,rfl⟩,?_,?_,by simp,⟨⟨l++[⟨d,n⟩],k+1,by omega,by omega⟩,ea.symm,rfl,rfl,?_,?_⟩⟩
        · refine HSub.cons ?_ (HSub.cons ?_ (HSub.nil _))
          · simp [ag,f1,f2,f3,g1,g2,g3,g4,g5,g6,g7,bE]
          · rw [e2];simp [ag]
        · simp [Hp.ok,Ob.ok,SV.aI,SV.ok,SV.bt,-List.flatMap_append,-List.map_append];omega
        · simp [gW,Hp.ok,Ob.ok,SV.aI,SV.ok,SV.bt,-List.flatMap_append,-List.map_append];omega
        · intro n hn
          by_cases hy':n=y
          · exact .inl (by simp [gW,ag,hy'])
          · by_cases hbx:n=bx
            · exact .inl (by simp [gW,ag,hbx,f1])
            · refine .inr ?_
              have:n=k+1:=Classical.byContradiction fun hne=>hn (by simp [gW,ag,bA,hy',hbx,hne])
              omega
      · have p1:decide ((n:Int)>0)=false:=by simp;omega
        have ea:vO l (d,n)=l:=if_neg hp
        refine SW.g0 [3,4,5,11,12,14] mixed (p1) ?_
        refine SW.weak id (st1:=⟨[(14,.d (.bool false))],[(bx,.box 125 [.gs rn l.length]),(rn,.arr 130 3 l.length ((l.flatMap Sp.ds).map .d))],k+2⟩) (bg.same (by show k≤k+2;omega) (by simp [dL,List.lookup,SV.aV,SV.ok]) (by simp [Hp.ok,Ob.ok,SV.aI,SV.ok,SV.bt];omega) (by simp [ag,f1,f2,f3,g1,g2,g3])) ?_
        refine SW.ak rfl (SW.skip ?_)
        refine ⟨none,true,[(bx,.box 125 [.gs rn l.length]),(rn,.arr 130 3 l.length ((l.flatMap Sp.ds).map .d))],⟨rfl,rfl⟩,fun _ _ h=>h,?_,by simp,⟨⟨l,rn,h1,h2⟩,ea.symm,rfl,rfl,?_,fun n hn=> .inl hn⟩⟩
        · simp [Hp.ok,Ob.ok,SV.aI,SV.ok,SV.bt];omega
        · simp [gW,Hp.ok,Ob.ok,SV.aI,SV.ok,SV.bt];omega
    · intro n hn
      simp only [Bool.or_eq_true,beq_iff_eq] at hn
      rcases hn with (rfl | rfl) | rfl <;> simp [gW,ag,f1,f2,f3]
    · rintro r F' ⟨s',hs',rfl,rfl,hok',hnm⟩ _ _
      obtain ⟨l',rn',h1',h2'⟩:=s'
      refine ⟨rfl,?_⟩
      simp [gW,Hp.ok,Ob.ok,SV.aI,SV.ok,SV.bt]
      have hh:=hnm rn' (by simp [gW,ag,h1',h2'])
      rcases hh with hh | ⟨hh1,hh2⟩
      · have:rn'=rn:=by
          refine Classical.byContradiction fun hne=>hh ?_
          simp [gW,ag,bA,h1',h2',hne]
        simp [this]
      · simp [hh1];omega
def Sp.le (x y:Sp):Bool:=Dt.le x.d y.d
def Sp.cmp (x y:Sp):Int:=Dt.cmp x.d y.d
theorem Sp.lt_iff (a b:Sp):ltOf Sp.cmp a b=true↔a.d.r<b.d.r∨a.d.r=b.d.r∧a.d.n<b.d.n:=by
 unfold ltOf;rw [decide_eq_true_eq];exact Dt.s_ a.d b.d
theorem Sp.swo:SWO (ltOf Sp.cmp):=by
 refine ⟨fun x=> ?_,fun x y z h1 h2=> ?_,fun x y z h1 h2=> ?_⟩
 ·rw [Bool.eq_false_iff,ne_eq,Sp.lt_iff];omega
 ·rw [Sp.lt_iff] at *;omega
 ·rw [Bool.eq_false_iff,ne_eq,Sp.lt_iff] at *;omega
def Sp.sorted (l:List Sp):List Sp:=l.mergeSort Sp.le
theorem Sp.e_ (l:List Sp):(Sp.sorted l).Pairwise fun a b=>Sp.le a b=true:=
 List.pairwise_mergeSort (fun a b c h1 h2=>by unfold Sp.le at *;rw [Dt.le_iff] at *;omega) (fun a b=>by unfold Sp.le;rw [Bool.or_eq_true,Dt.le_iff,Dt.le_iff];omega) l
theorem Sp.sorted_perm (l:List Sp):(Sp.sorted l).Perm l:=List.mergeSort_perm l Sp.le
theorem Sp.nB {l l':List Sp}(hi:∀ a b,a∈l→b∈l→a.d=b.d→a=b)(h:l'.Perm l)(hp:l'.Pairwise fun a b=>Sp.le a b=true):l'=Sp.sorted l:=
 List.Perm.eq_of_pairwise (le:=fun a b=>Sp.le a b=true) (fun a b ha hb h1 h2=>hi a b (h.mem_iff.1 ha) ((Sp.sorted_perm l).mem_iff.1 hb) (Dt.le_antisymm h1 h2)) hp (Sp.e_ l) (h.trans (Sp.sorted_perm l).symm)
theorem Dp (n:Nat)(l:List Sp)(hi:∀ a b,a∈l→b∈l→a.d=b.d→a=b)(hl:l.length<4611686018427387904)(k:Nat):bp Try.prog 61 [.gs n l.length,.fn (.func charge_pair_compare.f) [] []] [(n,.arr 130 3 l.length (Hj l))] k 0 (.cg []) [(n,.arr 130 3 l.length (Hj (Sp.sorted l)))]:=by
 have h:=SC.Ch (P:= Try.prog) (ρ:=uR) Ir 3 Try.isAgg130 Try.sizeOf130 (by kernel_rfl) Sp.ds (fun _=>rfl) Sp.cmp Sp.swo charge_pair_compare.f [] (by kernel_rfl) (fun x y k=>xD x y k) n 130 l hl k
 unfold bp
 refine SC.mono h ?_
 rintro r F' ⟨rfl,l',hp,hs,rfl⟩
 rw [Sp.nB hi hp (hs.imp fun {a b} hab=>by
  have e:=Sp.lt_iff b a
  rw [hab] at e
  unfold Sp.le
  rw [Dt.le_iff]
  have: ¬ (b.d.r<a.d.r∨b.d.r=a.d.r∧b.d.n<a.d.n):=fun h=>by cases e.2 h
  omega)]
 exact ⟨rfl,rfl⟩
def lX (xs:MM Dt Nat):List Sp:=(xs.filter fun e=>decide (0<e.2.2)).map fun e=>⟨e.2.1,e.2.2⟩
theorem Bh (xs:MM Dt Nat)(e:Nat×Dt×Nat):lX (xs++[e])=vO (lX xs) (e.2.1,e.2.2):=by
 unfold lX vO
 rw [List.filter_append]
 by_cases h:0<e.2.2 <;> simp [h]
theorem Dq (xs:MM Dt Nat):(lX xs).length≤xs.length:=by
 unfold lX;rw [List.length_map];exact List.length_filter_le _ _
theorem Bi {y bx:Nat}{s0 s:Bg y bx}:∀ {xs:MM Dt Nat},mw (fun (s:Bg y bx) (x:Dt×Nat) s'=>s'.l=vO s.l x) s0 (tj xs) s→s0.l=[]→s.l=lX xs:=by
 intro xs
 induction xs using ez generalizing s with
 | nil=>
  intro h h0
  have h:mw (fun (s:Bg y bx) (x:Dt×Nat) s'=>s'.l=vO s.l x) s0 [] s:=h
  generalize hz:([]:List (Dt×Nat))=zs at h
  cases h with
  | nil=>exact h0
  | snoc _ _=>simp at hz
 | snoc xs e ih=>
  intro h h0
  have he:tj (xs++[e])=tj xs++[(e.2.1,e.2.2)]:=by unfold tj;simp
  rw [he] at h
  generalize hz:tj xs++[(e.2.1,e.2.2)]=zs at h
  cases h with
  | nil=>simp at hz
  | @snoc zs s1 _ z h1 h2=>
   obtain ⟨q1,q2⟩:=List.append_inj' hz rfl
   have q2:(e.2.1,e.2.2)=z:=by simpa using q2
   rw [h2,Bh,← q2,ih (by rw [q1];exact h1) h0]
def E6 (M:MM Dt Nat):List Sp:=Sp.sorted (lX M)
theorem pE {M:MM Dt Nat}{x:Sp}:x∈lX M↔(∃ t,(t,x.d,x.n)∈M)∧0<x.n:=by
 unfold lX
 rw [List.mem_map]
 constructor
 ·rintro ⟨⟨t,d,n⟩,h1,rfl⟩
  obtain ⟨h2,h3⟩:=List.mem_filter.1 h1
  exact ⟨⟨t,h2⟩,by simpa using h3⟩
 ·rintro ⟨⟨t,h1⟩,h2⟩
  exact ⟨(t,x.d,x.n),List.mem_filter.2 ⟨h1,by simpa using h2⟩,rfl⟩
theorem tn {M:MM Dt Nat}(hk:(MM.keys M).Nodup):∀ x y,x∈lX M→y∈lX M→x.d=y.d→x=y:=fun x y hx hy e=>by
 obtain ⟨⟨t,h1⟩,_⟩:=pE.1 hx
 obtain ⟨⟨t',h2⟩,_⟩:=pE.1 hy
 have g1:=MM.get_of_mem hk h1
 have g2:=MM.get_of_mem hk h2
 rw [e,g2] at g1
 injection g1 with g1
 obtain ⟨d,n⟩:=x
 obtain ⟨d',n'⟩:=y
 simp only at e g1
 rw [e,g1]
end Go.Proofs.Ytefjaphfnkbbkaa
namespace Go.Proofs.Ytefjaphfnkbbkaa
open Go.Sl Go.Proofs
attribute [local irreducible] SW RW bp SC af aa
abbrev Bj (M:MM Dt Nat)(cM:Nat):Hp:=[(0,.map (aH Dt.cells uv M) cM)]
theorem vP (M:MM Dt Nat)(cM:Nat){k:Nat}(h:1≤k):(Bj M cM).ok (fun n=>decide (n<k))=true:=
 bU (by simp;omega) (by simp only [Ob.ok];exact eu _ M) rfl
theorem Dr (M:MM Dt Nat)(cM:Nat):SB Try.prog maps_All_charge_spends_api_Dot_uint64.f [.mp 0] (Bj M cM) 1 1 (fun r F'=>r= .fn (.func 70) [] [.ptr 1 0]∧F'=(1,.box 106 [.mp 0])::Bj M cM):=by
 refine maps_All_charge_spends_api_Dot_uint64.enter (by simp [SV.aI,SV.ok]) (vP M cM (Nat.le_refl 1)) (by simp) ?_
 dsimp only [maps_All_charge_spends_api_Dot_uint64.s,Co.M,Co.G,Co.J,Co.H,Co.N,Co.F,Co.C,Co.Z,Co.B,Co.b8,Co.aA,Co.bz,Co.i6,Co.z8,Co.dm]
 (repeat (first | refine SW.seq ?_ | refine SW.block ?_ | refine SW.g0 [0,1,2] mixed U ?_ | refine SW.skip ?_ | refine SW.exit ?_ | refine SW.ret ?_ | refine SW.au rfl ?_ | refine SW.ak rfl ?_))
 refine End.mk ((1,.box 106 [.mp 0])::Bj M cM) (h3:=fun _ _ h=>h) (h4:=⟨rfl,rfl⟩) (h6:= ?_)
 exact bU (by simp) (by simp [Ob.ok,SV.aI,SV.ok]) (vP M cM (by omega))
theorem Ds (M:MM Dt Nat)(cM:Nat)(k:Nat):bp Try.prog maps_All_charge_spends_api_Dot_uint64.f [.mp 0] (Bj M cM) k 1 (.fn (.func 70) [] [.ptr k 0]) ((k,.box 106 [.mp 0])::Bj M cM):=by
 have h:=SB.ej [0] (Dr M cM) (by simp) (fun i hi=>by
   have:i=0:=by simpa using hi
   subst this;simp [ag]) k
 have e1:iq [0] k 1=k:=by simp [iq]
 have e0:iq [0] k 0=0:=rfl
 simpa [SV.bh,SV.aV,Hp.aV,Ob.aV,eY,e1,e0] using h
set_option maxHeartbeats 8000000 in
theorem E7 (M:MM Dt Nat)(cM:Nat)(hw:MM.wf M cM)(hM:M.length<1000000):SB Try.prog charge_spends_list.f [.mp 0] (Bj M cM) 1 0 (fun r F'=>r=cF (E6 M)∧F'=Bj M cM):=by
 refine charge_spends_list.enter (by simp [SV.aI,SV.ok]) (vP M cM (Nat.le_refl 1)) (by simp) ?_
 dsimp only [charge_spends_list.s,Co.M,Co.G,Co.J,Co.H,Co.N,Co.F,Co.C,Co.Z,Co.B,Co.b8,Co.aA,Co.bz,Co.i6,Co.z8,Co.dm]
 refine SW.seq ?_
 refine SW.g0 [0,2,3,4,5,6,8,10,11,12,14,24,25,26,27] mixed U ?_
 refine SW.seq ?_
 refine SW.g0 [0,2,3,4,5,6,8,10,11,12,14,24,25,26,27] mixed U ?_
 refine SW.seq (SW.seq ?_)
 refine SW.g1 [0,2,3,4,5,6,8,10,11,12,14,24,25,26,27] mixed U (Ds M cM) ?_
 refine SW.block ?_
 refine SW.vv 1 125 130 3 (by rfl) ?_
 let s0:Bg 4 1:=⟨[],3,by decide,by decide⟩
 refine SW.weak id (st1:=⟨[(10,.fn (.func 70) [] [.ptr 2 0]),(3,.ptr 1 0)],(1,.box 125 [.gs 3 0])::(3,.arr 130 3 0 [])::(2,.box 106 [.mp 0])::Bj M cM,4⟩) (bg.mk (And.intro (fun q:Nat→Bool=>eu q M) (fun r=>eY r M))) ?_
 refine SW.tL (nk:=1+M.length*(1+2)) [3] [.ptr 1 0] rfl ⟨rfl,trivial⟩ fun ca' cb' hca hcb=> ?_
 have hy:=Dn (y:=4) (bx:=1) (B:=M.length) (by decide) s0 (by simp [s0];omega) hca hcb
 have hsb:=E5 (y:=4) (b:=2) (m:=0) (k:=5) hw s0 hy (by simp [gW,s0,Hp.ok,Ob.ok,SV.aI,SV.ok]) (by decide) (by decide) (by decide) (by rfl) (by rfl) rfl
 have hsubF:HSub ((2,Ob.box 106 [.mp 0])::(0,.map (aH Dt.cells uv M) cM)::gW 4 1 37 [3] [11,12] ca' cb' s0) ((4,.ox 37 [3] [.ptr 1 0] [11,12] ca' cb' .ready none)::(1,.box 125 [.gs 3 0])::(3,.arr 130 3 0 [])::(2,.box 106 [.mp 0])::Bj M cM):=by
  intro n ob hn
  match n with
  | 0 | 1 | 2 | 3 | 4=>simpa [gW,s0,ag] using hn
  | n+5=>simp [gW,s0,ag,bA] at hn
 have hsc:=(hsb.here (fun n=>decide (n<5)) (fun n hn=> ?_) (by simp [SV.aI,SV.ok]) ?_ ?_).frame hsubF
 ·refine hsc.mono ?_
  rintro r F' ⟨F1,⟨rfl,xs,s',hon,hsub,hnd,hall,hoff,rfl⟩,rfl⟩
  have hl:=Bi hon rfl
  have hall:=hall rfl
  obtain ⟨l,rn,hr1,hr2⟩:=s'
  have hl:l=lX xs:=hl
  obtain ⟨o1,o2⟩:=hoff
  have hn2:rn≠2:=fun e=>by simp [gW,e,ag] at o1
  have hn0:rn≠0:=fun e=>by simp [gW,e,ag] at o2
  have hperm:(lX xs).Perm (lX M):=by
   refine (List.Perm.filter _ ?_).map _
   have h1:xs.Nodup:=List.Pairwise.of_map (S:=fun x y=>x≠y) (·.1) (fun x y h e=>h (by rw [e])) hnd
   have h2:M.Nodup:=List.Pairwise.of_map (S:=fun x y=>x≠y) (·.1) (fun x y h e=>h (by rw [e])) hw.times
   exact (List.perm_ext_iff_of_nodup h1 h2).2 fun x=>⟨hsub x,hall x⟩
  have hinj:∀ x y,x∈l→y∈l→x.d=y.d→x=y:=fun x y hx hy e=>by
   rw [hl] at hx hy
   exact tn hw.keys x y (hperm.mem_iff.1 hx) (hperm.mem_iff.1 hy) e
  have hS:Sp.sorted l=E6 M:=Sp.nB (tn hw.keys) ((Sp.sorted_perm _).trans (by rw [hl];exact hperm)) (Sp.e_ _)
  have hll:l.length≤M.length:=by rw [hl,hperm.length_eq];exact Dq M
  have hSl:(E6 M).length=l.length:=by rw [← hS,(Sp.sorted_perm _).length_eq]
  have hlk:=jc (ro:=false) (F':=(2,Ob.box 106 [.mp 0])::(0,.map (aH Dt.cells uv M) cM)::gW 4 1 37 [3] [11,12] ca' cb' ⟨l,rn,hr1,hr2⟩) hsubF (fun h=>by cases h)
  generalize cH false _ _ _=G at hlk
  have hG:∀ n ob,lk ((2,Ob.box 106 [.mp 0])::(0,.map (aH Dt.cells uv M) cM)::gW 4 1 37 [3] [11,12] ca' cb' ⟨l,rn,hr1,hr2⟩) n=some ob→lk G n=some ob:=fun n ob h=>by
   rw [hlk,fk (.inr (by rw [h];simp)),h]
  refine ⟨none,hG 4 _ (by simp [gW,ag,mq]),?_⟩
  refine SW.weak (fun n=>if n=2 then rn else n) (st1:=⟨[(3,.ptr 1 0)],(1,.box 125 [.gs 2 l.length])::(2,.arr 130 3 l.length (Hj l))::Bj M cM,3⟩) ?_ ?_
  ·have q1:=hG 1 (.box 125 [.gs rn l.length]) (by simp [gW,ag])
   have q2:=hG rn (.arr 130 3 l.length ((l.flatMap Sp.ds).map .d)) (by simp [gW,ag,hn0,hn2,hr1,hr2])
   have q0:=hG 0 (.map (aH Dt.cells uv M) cM) (by simp [ag])
   refine ⟨by show 1≤3;omega,fun n hn=>if_neg (by omega),?_,?_,?_⟩
   ·simp [dL,List.lookup,SV.aV,SV.ok]
   ·simp [u_,eM,Ob.aV,SV.bh,SV.aV,SV.fI,SV.bt,Ob.ok,SV.aI,SV.ok,q1,q2,q0,hr1,eY,eu]
   ·intro u hu v hv e
    simp only [List.map_cons,List.map_nil,List.mem_cons,List.not_mem_nil,or_false] at hu hv
    rcases hu with rfl | rfl | rfl <;> rcases hv with rfl | rfl | rfl <;> simp at e <;> first | rfl | omega
  ·have hso:=Dp 2 l hinj (by omega) 3
   rw [hS] at hso
   generalize E6 M=S at hso hSl
   refine SW.seq ?_
   refine SW.g1 [0,2,3,4,5,6,8,10,11,12,14,24,25,26,27] mixed U hso ?_
   refine SW.seq ?_
   refine SW.g0 [0,2,3,4,5,6,8,10,11,12,14,24,25,26,27] mixed U ?_
   refine SW.nM 6 65 3 rfl ?_
   refine SW.seq (SW.seq ?_)
   refine SW.g0 [0,2,3,4,5,6,8,10,11,12,14,24,25,26,27] mixed U ?_
   refine SW.block ?_
   refine SW.c8 (α:={i:Nat // i≤S.length}) (fun i=>⟨[(26,i64 i.1),(24,.gs 2 S.length),(25,i64 S.length),(6,.gs 3 i.1)],(3,.arr 65 3 i.1 (Hj (S.take i.1)))::(2,.arr 130 3 S.length (Hj S))::Bj M cM,4⟩) (fun i=>S.length - i.1) ⟨0,by omega⟩ id (And.intro hSl (And.intro (fun q:Nat→Bool=>eu q M) (fun r=>eY r M))) (round:= ?_)
   rintro ⟨i,hi⟩
   dsimp only
   by_cases hil:i<S.length
   ·obtain ⟨x,hx⟩:=aL hil
    have h1:decide ((i:Int)<S.length)=true:=by simp;exact hil
    have e1:S.take (i+1)=S.take i++[x]:=bQ hx
    have e2:IntKind.i64.wrap ((i:Int)+1)=((i+1:Nat):Int):=wrap_i64 _ (by omega)
    refine SW.seq ?_
    refine SW.g0 [0,2,3,4,5,6,8,10,11,12,14,24,25,26,27] mixed (h1) ?_
    refine SW.seq (SW.au rfl (SW.skip ?_))
    refine SW.seq (SW.block (SW.seq ?_))
    refine SW.g0 [0,2,3,4,5,6,8,10,11,12,14,24,25,26,27] mixed (And.intro (su hx) (wN hx)) ?_
    refine SW.g0 [0,2,3,4,5,6,8,10,11,12,14,24,25,26,27] mixed U ?_
    refine SW.g0 [0,2,3,4,5,6,8,10,11,12,14,24,25,26,27] mixed (e2) ?_
    dsimp only
    refine ⟨⟨i+1,by omega⟩,fun n=>if n=3 then 5 else n,by show S.length - (i+1)<_;omega,⟨by show 1≤4;omega,fun n hn=>if_neg (by omega),?_,?_,?_⟩⟩
    ·simp [dL,List.lookup,SV.aV,SV.ok]
    ·simp [u_,lk,List.lookup,Ob.aV,SV.bh,SV.aV,SV.fI,SV.bt,Ob.ok,SV.aI,SV.ok,eY,eu,e1,SV.iO,SV.js,Sp.jm]
    ·intro u hu v hv e
     simp only [List.map_cons,List.map_nil,List.mem_cons,List.not_mem_nil,or_false] at hu hv
     rcases hu with rfl | rfl | rfl <;> rcases hv with rfl | rfl | rfl <;> simp at e <;> rfl
   ·have h1:decide ((i:Int)<S.length)=false:=by simp;omega
    have h2:i=S.length:=by omega
    subst h2
    rw [List.take_length]
    refine SW.seq ?_
    refine SW.g0 [0,2,3,4,5,6,8,10,11,12,14,24,25,26,27] mixed (h1) ?_
    refine SW.seq (SW.ak rfl (SW.exit ?_))
    refine SW.seq ?_
    refine SW.g0 [0,2,3,4,5,6,8,10,11,12,14,24,25,26,27] mixed U ?_
    refine SW.freeze 3 (S.flatMap Sp.ds) rfl rfl (SW.ret ?_)
    exact End.mk (Bj M cM) (h3:=by intro n ob hn;match n with | 0=>simpa [ag,dx] using hn | n+1=>simp [ag,bA] at hn) (h4:=⟨by simp [eF,SV.gu],rfl⟩) (h5:=by simp [eF,SV.gu,SV.ok,SV.aI]) (h6:=vP M cM (by omega))
 ·match n,hn with
  | 0,_ | 1,_ | 2,_ | 3,_ | 4,_=>simp [gW,s0,ag]
  | n +5,h=>
    have:n+5<5:=by simpa using h
    omega
 ·refine bU rfl (by simp [Ob.ok,SV.aI,SV.ok]) (bU rfl (by simp only [Ob.ok];exact eu _ M) ?_)
  simp [gW,s0,Hp.ok,Ob.ok,SV.aI,SV.ok]
 ·rintro r F' _ h1 h2
  refine ⟨SV.mS (fun n hn=> ?_) _ h1,Hp.lF (fun n hn=> ?_) h2⟩ <;> (simp at hn ⊢;omega)
end Go.Proofs.Ytefjaphfnkbbkaa
