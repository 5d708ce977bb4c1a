/-
 Buffers: the iterator over a map's operations.
-/
import Derived.Test.YtnakpdoioammhaaGreatDoorUB
import Derived.Test.YtnakpdoioammhaaGreatDoorUK
import Derived.Test.YtnakpdoioammhaaGreatDoorUN
import Derived.Test.YtnakpdoioammhaaGreatDoorU8
import Derived.Test.YtnakpdoioammhaaGreatDoorUV
import Derived.Test.YtnakpdoioammhaaGreatDoorU7
set_option linter.unusedSectionVars false
set_option linter.unusedVariables false
set_option linter.unusedSimpArgs false
namespace Go.Proofs.YtnakpdoioammhaaGreatDoor
open Go.Sl Go.Proofs
section
attribute [local irreducible] SW RW bB SC ai aa
structure BX {σ:Type}(Fh:σ→Hp)(Step:σ→ah→σ→Prop)(go:σ→Bool)(ej b m k:Nat)(L:(MM Dt ah))(s0 s:σ)(xs:(MM Dt ah))(kk:Nat):Prop where
 p1:ig Step s0 (vals xs) s
 p2:go s=true
 p3:∀ x,x∈xs→x∈L
 p4:(xs.map (·.1)).Nodup
 p5:k+1≤kk
 p6:kk≤k+1+xs.length*(1+ej)
 p7:(Fh s).ok (fun n=>decide (n<kk))=true
 p8:lk (Fh s) b=none
 p9:lk (Fh s) m=none
 GH:lk (Fh s) k=none
set_option maxHeartbeats 1000000 in
theorem zj {σ:Type}{Fh:σ→Hp}{Step:σ→ah→σ→Prop}{go:σ→Bool}{ej y b m k c:Nat}{L:(MM Dt ah)}(hwf:MM.wf L c)(s0:σ)(hy:jt Tryz.prog y (fun x:ah=> .agg x.cells) ej Fh Step go s0 L.length)(h0:(Fh s0).ok (fun n=>decide (n<k))=true)
  (hb:b<k) (hm:m<k) (zk:b≠m) (hdb:lk (Fh s0) b=none) (Iy:lk (Fh s0) m=none) (uk:go s0=true):
  SB Tryz.prog maps_Values_map_api_Dot_api_Op_api_Dot_api_Op_1.f [.yl y,.ptr b 0] ((b,.box 70 [.mp m])::(m,.map (aN Dt.cells ov L) c)::Fh s0) k (1+L.length*(1+ej))
   fun r F=>r= .cW []∧∃ (xs:(MM Dt ah)) (s':σ),ig Step s0 (vals xs) s'∧(∀ x,x∈xs→x∈L)∧(xs.map (·.1)).Nodup∧(go s'=true→∀ x,x∈L→x∈xs)∧(lk (Fh s') b=none∧lk (Fh s') m=none)∧F=(b,.box 70 [.mp m])::(m,.map (aN Dt.cells ov L) c)::Fh s':=by
 have hyk:y<k:=by
  obtain ⟨ob,ho⟩:=Option.ne_none_iff_exists'.1 (hy.yK s0)
  simpa using (Hp.f_ h0 ho).1
 refine maps_Values_map_api_Dot_api_Op_api_Dot_api_Op_1.enter (by simp [SV.ok,SV.aF];omega) (by simp only [Hp.ok,List.all_cons,Ob.ok,SV.aF,SV.ok,dI,Bool.and_true,Bool.and_eq_true,decide_eq_true_eq];exact ⟨⟨hb,hm⟩,hm,h0⟩) (by simp) ?_
 dsimp only [maps_Values_map_api_Dot_api_Op_api_Dot_api_Op_1.s,Co.M,Co.G,Co.J,Co.H,Co.N,Co.F,Co.C,Co.Z,Co.B,Co.b8,Co.aJ,Co.b_,Co.i6,Co.z8,Co.cn]
 have f1:=dY (show m≠b by omega)
 have f2:=dY (show k≠b by omega)
 have f3:=dY (show k≠m by omega)
 have f4:List.lookup k (Fh s0)=none:=by
  cases hh:lk (Fh s0) k with
  | none=>exact hh
  | some ob=>have:=(Hp.f_ h0 hh).1;simp at this
 refine SW.seq ?_
 (have fx:=(And.intro (f1) (And.intro (f2) (And.intro (f3) (f4))));refine SW.au [0,1,4,6,8,14] mixed ?_;(repeat (first | refine RW.ro fx (h:= ?_) | refine RW.skip (h:= ?_) | refine RW.op fx (h:= ?_) | refine RW.aL fx (h:= ?_) | refine RW.aj (h:= ?_)));refine RW.nil ⟨by kernel_rfl,aa.mk (h:= ?_)⟩)
 refine SW.block (SW.Di (es:=fun _=>aN Dt.cells ov L) (c:=fun _=>c) (tQ:=fun _=>k) (nm:=fun _=>m) (since:=fun _=>c) (CB:=fun _=>c)
  (α:={i:σ×(MM Dt ah)×Nat // BX Fh Step go ej b m k L s0 i.1 i.2.1 i.2.2})
  (fun i=>⟨[(6,.it k),(0,.yl y),(1,.ptr b 0)],(k,.iter (some m) c (i.1.2.1.map (·.1)) c)::(b,.box 70 [.mp m])::(m,.map (aN Dt.cells ov L) c)::Fh i.1.1,i.1.2.2⟩)
  (fun i=>lC (aN Dt.cells ov L) (i.1.2.1.map (·.1))) ⟨(s0,[],k+1),⟨.nil,uk,by simp,by simp,by simp,by simp,Hp.fG (by simp) h0,hdb,Iy,f4⟩⟩ id (seen:=fun i=>i.1.2.1.map (·.1)) ?_ (fun i=>by simp [List.lookup]) (fun i=>by simp [af]) (fun i=> ?_) (fun i=>by omega) (fun i e he=> ?_) (fun i=>Nat.le_refl _) (fun i hall=> ?_) (fun i e he hs=> ?_))
 ·refine bk.same (by simp) (by simp [bf,dc,List.lookup,SV.aP,SV.ok];omega) ?_ ?_
  ·simp only [Hp.ok,List.all_cons,Ob.ok,SV.aF,SV.ok,dI,Bool.and_true,Bool.and_eq_true,decide_eq_true_eq]
   exact ⟨⟨by omega,by omega⟩,⟨by omega,by omega⟩,by omega,Hp.fG (by simp) h0⟩
  ·intro x hx
   simp only [List.mem_cons] at hx
   rcases hx with rfl | rfl | rfl | hx
   ·simp [af]
   ·simp [af,f1,f2,f3]
   ·simp [af,f1,f2,f3]
   ·have:=hy.nd s0 x hx
    have h1:x.1≠k:=fun e=>by rw [e] at this;rw [show lk (Fh s0) k=none from f4] at this;cases this
    have h2:x.1≠b:=fun e=>by rw [e,hdb] at this;cases this
    have h3:x.1≠m:=fun e=>by rw [e,Iy] at this;cases this
    simp [af,h1,h2,h3,this]
 ·simp [af,f1,f2,f3]
 ·obtain ⟨x,hx,rfl⟩:=uP he
  exact hwf.old x hx
 ·obtain ⟨⟨s,xs,kk⟩,hi⟩:=i
  have hi:BX Fh Step go ej b m k L s0 s xs kk:=hi
  have hi':=hi
  obtain ⟨p1,p2,p3,p4,p5,p6,p7,p8,p9,GH⟩:=hi'
  dsimp only at*
  have hsub:xs.length≤L.length:=by
   have:=p4.length_le_of_subset (l₂:=L.map (·.1)) (fun t ht=>by
    obtain ⟨x,hx,rfl⟩:=List.mem_map.1 ht
    exact List.mem_map.2 ⟨x,p3 x hx,rfl⟩)
   simpa using this
  have hmul:xs.length*(1+ej)≤L.length*(1+ej):=Nat.mul_le_mul_right _ hsub
  have hhp:∀ kx,kk≤kx→Hp.ok (fun n=>decide (n<kx)) ((b,Ob.box 70 [.mp m])::(m,.map (aN Dt.cells ov L) c)::Fh s)=true:=fun kx hkx=>by
   simp only [Hp.ok,List.all_cons,Ob.ok,SV.aF,SV.ok,dI,Bool.and_true,Bool.and_eq_true,decide_eq_true_eq]
   exact ⟨⟨by omega,by omega⟩,by omega,Hp.fG hkx p7⟩
  refine ⟨⟨[],(b,.box 70 [.mp m])::(m,.map (aN Dt.cells ov L) c)::Fh s,k+(1+L.length*(1+ej))⟩,id,bk.same (Nat.le_add_right _ _) trivial (hhp _ (by show kk≤k+(1+L.length*(1+ej));omega)) ?_,?_⟩
  ·intro x hx
   simp only [List.mem_cons] at hx
   rcases hx with rfl | rfl | hx
   ·simp [af,f1,f2,f3]
   ·simp [af,f1,f2,f3]
   ·have:=hy.nd s x hx
    have h1:x.1≠k:=fun e=>by rw [e,GH] at this;cases this
    have h2:x.1≠b:=fun e=>by rw [e,p8] at this;cases this
    have h3:x.1≠m:=fun e=>by rw [e,p9] at this;cases this
    simp [af,h1,h2,h3,this]
  ·rw [if_pos rfl]
   refine End.mk ((b,.box 70 [.mp m])::(m,.map (aN Dt.cells ov L) c)::Fh s) (h3:=fun _ _ h=>h) (h4:=⟨rfl,xs,s,p1,p3,p4,fun _ x hx=> ?_,⟨p8,p9⟩,rfl⟩) (h6:=hhp _ (by omega)) (h7:=Nat.le_refl _)
   have:=hall _ (List.mem_map.2 ⟨x,hx,rfl⟩)
   simp only [List.contains_iff_mem] at this
   obtain ⟨z,hz,e⟩:=List.mem_map.1 this
   have:z=x:=MM.AG hwf.times (p3 z hz) hx e
   rw [← this];exact hz
 ·obtain ⟨⟨s,xs,kk⟩,hi⟩:=i
  have hi:BX Fh Step go ej b m k L s0 s xs kk:=hi
  have hi':=hi
  obtain ⟨p1,p2,p3,p4,p5,p6,p7,p8,p9,GH⟩:=hi'
  dsimp only at*
  obtain ⟨x,hx,rfl⟩:=uP he
  dsimp only at hs
  have g1:=dY (show kk≠k by omega)
  have g2:=dY (show kk≠b by omega)
  have g3:=dY (show kk≠m by omega)
  have g4:List.lookup kk (Fh s)=none:=Hp.out p7 (Nat.le_refl _)
  have g5:(xs.map (·.1)++[x.1]).getLast? =some x.1:=by simp
  have g6:=yE (kc:=Dt.cells) (vs:=ov) hwf.times hx
  have g7:ov x.2.2= .agg x.2.2.cells:=rfl
  rw [yI]
  dsimp only
  refine SW.block (SW.seq ?_)
  (have fx:=(And.intro (f1) (And.intro (f2) (And.intro (f3) (And.intro (g1) (And.intro (g2) (And.intro (g3) (And.intro (g4) (And.intro (g5) (And.intro (g6) (g7))))))))));refine SW.au [0,1,4,6,8,14] mixed ?_;(repeat (first | refine RW.ro fx (h:= ?_) | refine RW.skip (h:= ?_) | refine RW.op fx (h:= ?_) | refine RW.aL fx (h:= ?_) | refine RW.aj (h:= ?_)));refine RW.nil ⟨by kernel_rfl,aa.mk (h:= ?_)⟩)
  refine SW.seq (SW.lp ?_)
  (repeat (first | refine aK.op (And.intro (g1) (And.intro (g2) (g3))) (h:= ?_) | refine aK.aL (And.intro (g1) (And.intro (g2) (g3))) (h:= ?_) | refine aK.skip (h:= ?_)))
  have hokk:(Fh s).ok (fun n=>decide (n<kk+1))=true:=Hp.fG (by omega) p7
  have hnd:∀ s',(∀ n,lk (Fh s') n≠none→lk (Fh s) n≠none∨(kk+1≤n∧n<kk+1+ej))→lk (Fh s') b=none∧lk (Fh s') m=none∧lk (Fh s') k=none:=fun s' h=>by
   refine ⟨?_,?_,?_⟩
   ·exact Classical.byContradiction fun hn=>(h b hn).elim (fun h=>h p8) (fun h=>by omega)
   ·exact Classical.byContradiction fun hn=>(h m hn).elim (fun h=>h p9) (fun h=>by omega)
   ·exact Classical.byContradiction fun hn=>(h k hn).elim (fun h=>h GH) (fun h=>by omega)
  have hxs:x∉xs:=fun h=>by
   have:(xs.map (·.1)).contains x.1=true:=by simp only [List.contains_iff_mem];exact List.mem_map.2 ⟨x,h,rfl⟩
   rw [this] at hs;cases hs
  have hxt:x.1∉xs.map (·.1):=fun h=>by
   have:(xs.map (·.1)).contains x.1=true:=by simpa only [List.contains_iff_mem] using h
   rw [this] at hs;cases hs
  have q3:∀ z,z∈xs++[x]→z∈L:=fun z hz=>by
   rcases List.mem_append.1 hz with hz | hz
   ·exact p3 z hz
   ·rw [List.mem_singleton.1 hz];exact hx
  have q4:((xs++[x]).map (·.1)).Nodup:=by
   rw [List.map_append,List.nodup_append]
   refine ⟨p4,by simp,fun a ha b' hb'=> ?_⟩
   simp only [List.map_cons,List.map_nil,List.mem_singleton] at hb'
   intro e
   exact hxt (by rw [← hb',← e];exact ha)
  have hsub2:(xs++[x]).length≤L.length:=by
   have:=q4.length_le_of_subset (l₂:=L.map (·.1)) (fun t ht=>by
    obtain ⟨z,hz,rfl⟩:=List.mem_map.1 ht
    exact List.mem_map.2 ⟨z,q3 z hz,rfl⟩)
   simpa using this
  have hlt:(vals xs).length<L.length:=by
   simp only [List.length_append,List.length_singleton] at hsub2
   simp only [vals,List.length_map];omega
  have hsub:HSub (Fh s) ((kk,Ob.box 51 x.2.2.cells)::(k,Ob.iter (some m) c (xs.map (·.1)++[x.1]) c)::(b,Ob.box 70 [.mp m])::(m,.map (aN Dt.cells ov L) c)::Fh s):=fun n ob hn=>by
   have h1:n≠k:=fun e=>by rw [e,GH] at hn;cases hn
   have h2:n≠b:=fun e=>by rw [e,p8] at hn;cases hn
   have h3:n≠m:=fun e=>by rw [e,p9] at hn;cases hn
   have h4:n≠kk:=fun e=>by rw [e,show lk (Fh s) kk=none from g4] at hn;cases hn
   simp [af,h1,h2,h3,h4,hn]
  refine aK.yield (by simp only [ev,List.lookup,Nat.reduceBEq] <;> rfl) (by simp only [ev,fK,List.lookup,Nat.reduceBEq] <;> rfl) (hy.yK s) (hy.call s _ x.2.2 (kk+1) p1 hlt hokk p2) hsub ?_
  rintro v F' ⟨s',hstep,rfl,rfl,hok',hnm⟩
  obtain ⟨n1,n2,n3⟩:=hnd s' hnm
  rw [iX]
  show aK Tryz.prog 15 k _ ⟨(13,.d (.bool (go s')))::_,_,_⟩ _
  (repeat (first | refine aK.op U (h:= ?_) | refine aK.aL U (h:= ?_) | refine aK.skip (h:= ?_)))
  refine aK.nil ?_
  have hlk:=gO (ro:=false) hsub (F':=Fh s') (fun h=>by cases h)
  have hhp:∀ kx,kk+1+ej≤kx→Hp.ok (fun n=>decide (n<kx)) ((b,Ob.box 70 [.mp m])::(m,.map (aN Dt.cells ov L) c)::Fh s')=true:=fun kx hkx=>by
   simp only [Hp.ok,List.all_cons,Ob.ok,SV.aF,SV.ok,dI,Bool.and_true,Bool.and_eq_true,decide_eq_true_eq]
   exact ⟨⟨by omega,by omega⟩,by omega,Hp.fG hkx hok'⟩
  have hin:∀ z,z∈((b,Ob.box 70 [.mp m])::(m,.map (aN Dt.cells ov L) c)::Fh s')→yp (lk ((kk,Ob.box 51 x.2.2.cells)::(k,Ob.iter (some m) c (xs.map (·.1)++[x.1]) c)::(b,Ob.box 70 [.mp m])::(m,.map (aN Dt.cells ov L) c)::Fh s)) (lk (Fh s)) (lk (Fh s')) z.1=some z.2:=by
   intro z hz
   simp only [List.mem_cons] at hz
   rcases hz with rfl | rfl | hz
   ·rw [dH p8 n1];simp [af,f1,f2,f3,g1,g2,g3]
   ·rw [dH p9 n2];simp [af,f1,f2,f3,g1,g2,g3]
   ·have:=hy.nd s' z hz
    rw [eE (.inr (by rw [this];simp)),this]
  have q1:ig Step s0 (vals (xs++[x])) s':=by
   have:=ig.snoc p1 hstep
   simpa [vals] using this
  have q6:kk+1+ej≤k+1+(xs++[x]).length*(1+ej):=by
   have e:(xs++[x]).length*(1+ej)=xs.length*(1+ej)+(1+ej):=by rw [List.length_append,List.length_singleton,Nat.add_mul,Nat.one_mul]
   rw [e];omega
  have hmul:(xs++[x]).length*(1+ej)≤L.length*(1+ej):=Nat.mul_le_mul_right _ hsub2
  cases hg:go s' with
  | true=>
   refine SW.ay (by simp [ev,List.lookup,hg]) (SW.skip ?_)
   refine ⟨⟨(s',xs++[x],kk+1+ej),q1,hg,q3,q4,by show k+1≤kk+1+ej;omega,q6,hok',n1,n2,n3⟩,id,?_,bk.same (by show k≤kk+1+ej;omega) (by simp [bf,List.lookup,SV.aP,SV.ok];omega) ?_ ?_⟩
   ·have:=yJ he hs
    simpa using this
   ·have:=hhp (kk+1+ej) (Nat.le_refl _)
    simp only [Hp.ok,List.all_cons,Ob.ok,Bool.and_eq_true,decide_eq_true_eq] at this ⊢
    exact ⟨⟨by omega,by omega⟩,this⟩
   ·intro z hz
    rcases List.mem_cons.1 hz with rfl | hz
    ·have:lk (bn false ((kk,Ob.box 51 x.2.2.cells)::(k,Ob.iter (some m) c (xs.map (·.1)++[x.1]) c)::(b,Ob.box 70 [.mp m])::(m,.map (aN Dt.cells ov L) c)::Fh s) (Fh s) (Fh s')) k=some (.iter (some m) c (xs.map (·.1)++[x.1]) c):=by
      rw [hlk,dH GH n3];simp [af,g1]
     simpa [bn] using this
    ·have:lk (bn false ((kk,Ob.box 51 x.2.2.cells)::(k,Ob.iter (some m) c (xs.map (·.1)++[x.1]) c)::(b,Ob.box 70 [.mp m])::(m,.map (aN Dt.cells ov L) c)::Fh s) (Fh s) (Fh s')) z.1=some z.2:=by
      rw [hlk];exact hin z hz
     exact this
  | false=>
   refine SW.aC (by simp [ev,List.lookup,hg]) ?_
   refine SW.weak id (st1:=⟨[],(b,.box 70 [.mp m])::(m,.map (aN Dt.cells ov L) c)::Fh s',k+(1+L.length*(1+ej))⟩) (bk.same (Nat.le_add_right _ _) trivial (hhp _ (by show kk+1+ej≤k+(1+L.length*(1+ej));omega)) fun z hz=> ?_) (SW.ret ?_)
   ·have:lk (bn false ((kk,Ob.box 51 x.2.2.cells)::(k,Ob.iter (some m) c (xs.map (·.1)++[x.1]) c)::(b,Ob.box 70 [.mp m])::(m,.map (aN Dt.cells ov L) c)::Fh s) (Fh s) (Fh s')) z.1=some z.2:=by
     rw [hlk];exact hin z hz
    exact this
   ·refine End.mk ((b,.box 70 [.mp m])::(m,.map (aN Dt.cells ov L) c)::Fh s') (h3:=fun _ _ h=>h) (h4:=⟨rfl,xs++[x],s',q1,q3,q4,fun (h:go s'=true)=>absurd h (by rw [hg];decide),⟨n1,n2⟩,rfl⟩) (h6:=hhp _ (by omega)) (h7:=Nat.le_refl _)
end
section
attribute [local irreducible] SW RW bB SC ai aa
theorem mD {α β:Type}(f:α→β){l:List α}(h:(l.map f).Nodup):l.Nodup:=by
 unfold List.Nodup at h ⊢
 rw [List.pairwise_map] at h
 exact h.imp fun h e=>h (by rw [e])
theorem sk {L xs:(MM Dt ah)}{c:Nat}(hwf:MM.wf L c)(h1:∀ x,x∈xs→x∈L)(h2:(xs.map (·.1)).Nodup)(h3:∀ x,x∈L→x∈xs):(vals xs).Perm (vals L):=
 ((List.perm_ext_iff_of_nodup (mD _ h2) (mD _ hwf.times)).2 fun a=>⟨h1 a,h3 a⟩).map _
def d_ (b m:Nat)(L:(MM Dt ah))(c:Nat):Hp:=[(b,.box 70 [.mp m]),(m,.map (aN Dt.cells ov L) c)]
set_option maxHeartbeats 1000000 in
theorem sn {L:(MM Dt ah)}{c:Nat}(hwf:MM.wf L c)(hL:L.length<1000000):
  SB Tryz.prog slices_AppendSeq_Lapi_Op_api_Op.f [.d .aY,.fn (.func maps_Values_map_api_Dot_api_Op_api_Dot_api_Op_1.f) [] [.ptr 0 0]] (d_ 0 1 L c) 2 1
   fun r F=>r= .gs 2 L.length∧∃ l:List ah,l.Perm (vals L)∧F=(2,.arr 51 29 L.length ((l.flatMap ah.ds).map .d))::d_ 0 1 L c:=by
 refine slices_AppendSeq_Lapi_Op_api_Op.enter (by simp [SV.ok,SV.aF]) (by simp [d_,Hp.ok,Ob.ok,SV.aF,SV.ok,dI]) (by simp) ?_
 dsimp only [slices_AppendSeq_Lapi_Op_api_Op.s,Co.M,Co.G,Co.J,Co.H,Co.N,Co.F,Co.C,Co.Z,Co.B,Co.b8,Co.aJ,Co.b_,Co.i6,Co.z8,Co.cn]
 refine SW.kZ 0 51 29 rfl ?_
 simp only [d_]
 refine SW.seq ?_
 (refine SW.au [0,1,2,4,5,6,7] mixed ?_;(repeat (first | refine RW.ro U (h:= ?_) | refine RW.skip (h:= ?_) | refine RW.op U (h:= ?_) | refine RW.aL U (h:= ?_) | refine RW.aj (h:= ?_)));refine RW.nil ⟨by kernel_rfl,aa.mk (h:= ?_)⟩)
 refine SW.seq (SW.seq ?_)
 (refine SW.au [0,1,2,4,5,6,7] mixed ?_;(repeat (first | refine RW.ro U (h:= ?_) | refine RW.skip (h:= ?_) | refine RW.op U (h:= ?_) | refine RW.aL U (h:= ?_) | refine RW.aj (h:= ?_)));refine RW.nil ⟨by kernel_rfl,aa.mk (h:= ?_)⟩)
 refine SW.block (SW.qn (nk:=1+L.length*(1+2)) [2] [.ptr 3 0] rfl ⟨rfl,trivial⟩ fun ca cb hca hcb=> ?_)
 let s0:yW 4 3:=⟨[],2,by decide,by decide⟩
 have hy:=o7 (y:=4) (bx:=3) (B:=L.length) (by decide) s0 (by simp [s0];omega) hca hcb
 have hsb:=zj (y:=4) (b:=0) (m:=1) (k:=5) hwf s0 hy (by simp [dJ,s0,Hp.ok,Ob.ok,SV.aF,SV.ok]) (by decide) (by decide) (by decide) (by simp [dJ,s0,af,bq]) (by simp [dJ,s0,af,bq]) rfl
 have hsubF:HSub ((0,.box 70 [.mp 1])::(1,.map (aN Dt.cells ov L) c)::dJ 4 3 13 [2] [7] ca cb s0) ((4,.l5 13 [2] [.ptr 3 0] [7] ca cb .ready none)::[(3,.box 22 [.gs 2 0]),(2,.arr 51 29 0 []),(0,.box 70 [.mp 1]),(1,.map (aN Dt.cells ov L) c)]):=by
  intro n ob hn
  match n with
  | 0 | 1 | 2 | 3 | 4=>simpa [dJ,s0,af] using hn
  | n+5=>simp [dJ,s0,af,bq] at hn
 have hsc:=(hsb.here (fun n=>decide (n<5)) (fun n hn=> ?_) (by simp [SV.aF,SV.ok]) (by simp [dJ,s0,Hp.ok,Ob.ok,SV.aF,SV.ok,dI]) ?_).frame hsubF
 ·refine hsc.mono ?_
  rintro r F' ⟨F1,⟨rfl,xs,s',hon,hin,hnd,hall,⟨hn0,tY⟩,rfl⟩,rfl⟩
  have hl:=tf hon
  have hperm:=sk hwf hin hnd (hall rfl)
  obtain ⟨l,rn,pJ,rU⟩:=s'
  have hl:l=vals xs:=by simpa [s0] using hl
  have hn0:rn≠0:=fun e=>by simp [dJ,e,af] at hn0
  have tY:rn≠1:=fun e=>by simp [dJ,e,af] at tY
  have hll:l.length=L.length:=by rw [hl,hperm.length_eq];simp [vals]
  rw [← hl] at hperm
  have hlk:=gO (ro:=false) (h:=(4,.l5 13 [2] [.ptr 3 0] [7] ca cb .ready none)::[(3,.box 22 [.gs 2 0]),(2,.arr 51 29 0 []),(0,.box 70 [.mp 1]),(1,.map (aN Dt.cells ov L) c)]) (F:=(0,.box 70 [.mp 1])::(1,.map (aN Dt.cells ov L) c)::dJ 4 3 13 [2] [7] ca cb s0) (F':=(0,.box 70 [.mp 1])::(1,.map (aN Dt.cells ov L) c)::dJ 4 3 13 [2] [7] ca cb ⟨l,rn,pJ,rU⟩) hsubF (fun h=>by cases h)
  generalize bn false _ _ _=G at hlk
  have hG:∀ n ob,lk ((0,Ob.box 70 [.mp 1])::(1,.map (aN Dt.cells ov L) c)::dJ 4 3 13 [2] [7] ca cb ⟨l,rn,pJ,rU⟩) n=some ob→lk G n=some ob:=fun n ob h=>by
   rw [hlk,eE (.inr (by rw [h];simp)),h]
  refine ⟨none,hG 4 _ (by simp [dJ,af,jT]),?_⟩
  refine SW.weak (fun n=>if n=2 then rn else n) (st1:=⟨[(2,.ptr 3 0)],[(3,.box 22 [.gs 2 L.length]),(2,.arr 51 29 L.length ((l.flatMap ah.ds).map .d)),(0,.box 70 [.mp 1]),(1,.map (aN Dt.cells ov L) c)],6⟩) ?_ ?_
  ·have q3:=hG 3 (.box 22 [.gs rn l.length]) (by simp [dJ,af])
   have q2:=hG rn (.arr 51 29 l.length ((l.flatMap ah.ds).map .d)) (by simp [dJ,af,hn0,tY,pJ,rU])
   have q0:=hG 0 (.box 70 [.mp 1]) (by simp [af])
   have q1:=hG 1 (.map (aN Dt.cells ov L) c) (by simp [af])
   rw [hll] at q3 q2
   refine ⟨by show 2≤6;omega,fun n hn=>if_neg (by omega),?_,?_,?_⟩
   ·simp [bf,List.lookup,SV.aP,SV.ok]
   ·simp [vY,cU,Ob.aP,SV.aM,SV.aP,SV.dW,SV.cm,Ob.ok,SV.aF,SV.ok,q3,q2,q0,q1,pJ,gv,dI]
   ·intro a ha b hb e
    simp only [List.map_cons,List.map_nil,List.mem_cons,List.not_mem_nil,or_false] at ha hb
    rcases ha with rfl | rfl | rfl | rfl <;> rcases hb with rfl | rfl | rfl | rfl <;> simp at e <;> first | rfl | omega
  ·(repeat (first | refine SW.seq ?_ | refine SW.block ?_ | (refine SW.au [0,1,2,4,5,6,7] mixed ?_;(repeat (first | refine RW.ro U (h:= ?_) | refine RW.skip (h:= ?_) | refine RW.op U (h:= ?_) | refine RW.aL U (h:= ?_) | refine RW.aj (h:= ?_)));refine RW.nil ⟨by kernel_rfl,aa.mk (h:= ?_)⟩) | refine SW.skip ?_ | refine SW.exit ?_ | refine SW.ret ?_ | refine SW.aC rfl ?_ | refine SW.ay rfl ?_))
   exact End.mk ((2,.arr 51 29 L.length ((l.flatMap ah.ds).map .d))::d_ 0 1 L c) (h4:=⟨rfl,l,hperm,rfl⟩) (h6:=by simp [d_,Hp.ok,Ob.ok,SV.aF,SV.ok,SV.cm,dI])
 ·match n,hn with
  | 0,_ | 1,_ | 2,_ | 3,_ | 4,_=>simp [dJ,s0,af]
  | n +5,h=>
    have:n+5<5:=by simpa using h
    omega
 ·rintro r F' _ h1 h2
  refine ⟨SV.gP (fun n hn=> ?_) _ h1,Hp.gw (fun n hn=> ?_) h2⟩ <;> (simp at hn ⊢;omega)
end
end Go.Proofs.YtnakpdoioammhaaGreatDoor
namespace Go.Proofs.YtnakpdoioammhaaGreatDoor
open Go.Sl Go.Proofs Go.Sort
attribute [local irreducible] SW RW bB SC ai aa
theorem oJ (L:(MM Dt ah))(c n:Nat)(h:decide (n<2)=true):lk (d_ 0 1 L c) n≠none:=by
 match n,h with
 | 0,_ | 1,_=>simp [d_,af]
 | n +2,h=>
   have:n+2<2:=by simpa using h
   omega
theorem lH (q:Nat→Bool)(b m:Nat)(L:(MM Dt ah))(c:Nat)(hb:q b=true)(hm:q m=true):(d_ b m L c).ok q=true:=by
 simp [d_,Hp.ok,Ob.ok,SV.aF,SV.ok,dI,hb,hm]
theorem sq {L:(MM Dt ah)}{c:Nat}(hw:WB L c)(hL:L.length<1000000):
  SC Tryz.prog slices_AppendSeq_Lapi_Op_api_Op.f [.d .aY,.fn (.func maps_Values_map_api_Dot_api_Op_api_Dot_api_Op_1.f) [] [.ptr 0 0]] (d_ 0 1 L c) 2 1
   fun r F=>r= .gs 2 L.length∧∃ l:List ah,l.Perm (vals L)∧F=(2,.arr 51 29 L.length ((l.flatMap ah.ds).map .d))::d_ 0 1 L c:=
 (sn hw.wf hL).here (fun n=>decide (n<2)) (oJ L c) (by simp [SV.aF,SV.ok]) (lH _ _ _ _ _ rfl rfl) fun r F' _ h1 h2=>⟨SV.gP (fun n hn=>by simp at hn ⊢;omega) _ h1,Hp.gw (fun n hn=>by simp at hn ⊢;omega) h2⟩
theorem vF {L:(MM Dt ah)}{c:Nat}(hw:WB L c)(hL:L.length<1000000):
  SB Tryz.prog slices_Collect_api_Op.f [.fn (.func maps_Values_map_api_Dot_api_Op_api_Dot_api_Op_1.f) [] [.ptr 0 0]] (d_ 0 1 L c) 2 1
   fun r F=>r= .gs 2 L.length∧∃ l:List ah,l.Perm (vals L)∧F=(2,.arr 51 29 L.length ((l.flatMap ah.ds).map .d))::d_ 0 1 L c:=by
 refine slices_Collect_api_Op.enter (by simp [SV.ok,SV.aF]) (lH _ _ _ _ _ rfl rfl) (by simp) ?_
 dsimp only [slices_Collect_api_Op.s,Co.M,Co.G,Co.J,Co.H,Co.N,Co.F,Co.C,Co.Z,Co.B,Co.b8,Co.aJ,Co.b_,Co.i6,Co.z8,Co.cn]
 refine SW.seq ?_
 (refine SW.au [0,2] mixed ?_;(repeat (first | refine RW.ro U (h:= ?_) | refine RW.skip (h:= ?_) | refine RW.op U (h:= ?_) | refine RW.aL U (h:= ?_) | refine RW.aj (h:= ?_)));refine RW.nil ⟨by kernel_rfl,aa.mk (h:= ?_)⟩)
 refine SW.seq (SW.lp ?_)
 (repeat (first | refine aK.op U (h:= ?_) | refine aK.aL U (h:= ?_) | refine aK.skip (h:= ?_)))
 refine aK.aG (sq hw hL) (fun _ _ h=>h) (h:= ?_)
 rintro v F' ⟨rfl,l,hl,rfl⟩
 simp only [bn,bz,bA,cw,cB,bL,lk,List.lookup,Nat.reduceBEq,BEq.rfl,beq_self_eq_true,if_true,if_false,reduceIte,Nat.reduceEqDiff,Bool.false_eq_true,Option.isSome_some,Option.isSome_none,Nat.reduceAdd,d_]
 (repeat (first | refine aK.op U (h:= ?_) | refine aK.aL U (h:= ?_) | refine aK.skip (h:= ?_)))
 refine aK.nil (SW.ret ?_)
 exact End.mk ((2,.arr 51 29 L.length ((l.flatMap ah.ds).map .d))::d_ 0 1 L c) (h4:=⟨rfl,l,hl,rfl⟩) (h6:=by simp [d_,Hp.ok,Ob.ok,SV.aF,SV.ok,SV.cm,dI])
theorem vG {L:(MM Dt ah)}{c:Nat}(hw:WB L c)(hL:L.length<1000000):
  SC Tryz.prog slices_Collect_api_Op.f [.fn (.func maps_Values_map_api_Dot_api_Op_api_Dot_api_Op_1.f) [] [.ptr 0 0]] (d_ 0 1 L c) 2 1
   fun r F=>r= .gs 2 L.length∧∃ l:List ah,l.Perm (vals L)∧F=(2,.arr 51 29 L.length ((l.flatMap ah.ds).map .d))::d_ 0 1 L c:=
 (vF hw hL).here (fun n=>decide (n<2)) (oJ L c) (by simp [SV.aF,SV.ok]) (lH _ _ _ _ _ rfl rfl) fun r F' _ h1 h2=>⟨SV.gP (fun n hn=>by simp at hn ⊢;omega) _ h1,Hp.gw (fun n hn=>by simp at hn ⊢;omega) h2⟩
theorem rA {L:(MM Dt ah)}{c:Nat}(hw:WB L c)(hL:L.length<1000000):
  SB Tryz.prog slices_SortedFunc_api_Op.f [.fn (.func maps_Values_map_api_Dot_api_Op_api_Dot_api_Op_1.f) [] [.ptr 0 0],.fn (.func order_Compare.f) [] []] (d_ 0 1 L c) 2 0
   fun r F=>r=ops (aA (vals L))∧F=d_ 0 1 L c:=by
 refine slices_SortedFunc_api_Op.enter (by simp [SV.ok,SV.aF]) (lH _ _ _ _ _ rfl rfl) (by simp) ?_
 dsimp only [slices_SortedFunc_api_Op.s,Co.M,Co.G,Co.J,Co.H,Co.N,Co.F,Co.C,Co.Z,Co.B,Co.b8,Co.aJ,Co.b_,Co.i6,Co.z8,Co.cn]
 refine SW.seq ?_
 (refine SW.au [0,1,4,5] mixed ?_;(repeat (first | refine RW.ro U (h:= ?_) | refine RW.skip (h:= ?_) | refine RW.op U (h:= ?_) | refine RW.aL U (h:= ?_) | refine RW.aj (h:= ?_)));refine RW.nil ⟨by kernel_rfl,aa.mk (h:= ?_)⟩)
 refine SW.seq (SW.lp ?_)
 (repeat (first | refine aK.op U (h:= ?_) | refine aK.aL U (h:= ?_) | refine aK.skip (h:= ?_)))
 refine aK.aG (vG hw hL) (fun _ _ h=>h) (h:= ?_)
 rintro v F' ⟨rfl,l,hl,rfl⟩
 simp only [bn,bz,bA,cw,cB,bL,lk,List.lookup,Nat.reduceBEq,BEq.rfl,beq_self_eq_true,if_true,if_false,reduceIte,Nat.reduceEqDiff,Bool.false_eq_true,Option.isSome_some,Option.isSome_none,Nat.reduceAdd,d_]
 (repeat (first | refine aK.op U (h:= ?_) | refine aK.aL U (h:= ?_) | refine aK.skip (h:= ?_)))
 refine aK.nil ?_
 have hlen:l.length=L.length:=by rw [hl.length_eq];simp [vals]
 have hu:cS l:=hw.uniq.perm hl
 refine SW.seq (SW.lp ?_)
 (repeat (first | refine aK.op U (h:= ?_) | refine aK.aL U (h:= ?_) | refine aK.skip (h:= ?_)))
 rw [← hlen]
 refine aK.EN U (s_ 2 l hu (by omega) 3) (h:= ?_)
 refine aK.nil ?_
 refine SW.seq ?_
 (refine SW.au [0,1,4,5] mixed ?_;(repeat (first | refine RW.ro U (h:= ?_) | refine RW.skip (h:= ?_) | refine RW.op U (h:= ?_) | refine RW.aL U (h:= ?_) | refine RW.aj (h:= ?_)));refine RW.nil ⟨by kernel_rfl,aa.mk (h:= ?_)⟩)
 have gi:(aA l).length=l.length:=(aT l).length_eq
 have hse:aA l=aA (vals L):=(dz hu).unique (dz hw.uniq) (((aT l).trans hl).trans (aT _).symm)
 refine SW.weak id (st1:=⟨[(4,.gs 2 l.length)],[(2,.arr 51 29 l.length (((aA l).flatMap ah.ds).map .d)),(0,.box 70 [.mp 1]),(1,.map (aN Dt.cells ov L) c)],3⟩) (bk.same (by simp) (by simp [bf,List.lookup,SV.aP,SV.ok]) (by simp [Hp.ok,Ob.ok,SV.aF,SV.ok,SV.cm,dI]) (by simp [af])) ?_
 refine SW.freeze 2 ((aA l).flatMap ah.ds) rfl rfl ?_
 have e1:mL 2 l.length ((aA l).flatMap ah.ds) [(4,.gs 2 l.length)]=[(4,ops (aA (vals L)))]:=by
  rw [← hse]
  simp only [mL,List.map_cons,List.map_nil,SV.kW,if_true,ops,gi]
 show Go.Sl.SW _ _ _ _ ⟨mL 2 l.length ((aA l).flatMap ah.ds) [(4,.gs 2 l.length)],d_ 0 1 L c,3⟩ _
 rw [e1]
 refine SW.ret ?_
 exact End.mk (d_ 0 1 L c) (h3:=fun _ _ h=>h) (h4:=⟨rfl,rfl⟩) (h5:=rfl) (h6:=lH _ _ _ _ _ rfl rfl)
theorem rB {L:(MM Dt ah)}{c:Nat}(hw:WB L c)(hL:L.length<1000000)(k:Nat)(b m:Nat)(zk:b≠m):
  bB Tryz.prog slices_SortedFunc_api_Op.f [.fn (.func maps_Values_map_api_Dot_api_Op_api_Dot_api_Op_1.f) [] [.ptr b 0],.fn (.func order_Compare.f) [] []] (d_ b m L c) k 0 (ops (aA (vals L))) (d_ b m L c):=by
 have h:=SB.oW [b,m] (rA hw hL) (by simp [zk]) (fun i hi=>oJ L c i (by simpa using hi)) k
 simpa [SV.aM,SV.aP,iA,d_,Hp.aP,Ob.aP,gv] using h
theorem BY (L:(MM Dt ah))(c:Nat):SB Tryz.prog maps_Values_map_api_Dot_api_Op_api_Dot_api_Op.f [.mp 0] [(0,.map (aN Dt.cells ov L) c)] 1 1 fun r F=>r= .fn (.func maps_Values_map_api_Dot_api_Op_api_Dot_api_Op_1.f) [] [.ptr 1 0]∧F=[(1,.box 70 [.mp 0]),(0,.map (aN Dt.cells ov L) c)]:=by
 refine maps_Values_map_api_Dot_api_Op_api_Dot_api_Op.enter rfl (by simp [Hp.ok,Ob.ok,dI]) (by simp) ?_
 dsimp only [maps_Values_map_api_Dot_api_Op_api_Dot_api_Op.s,Co.M,Co.G,Co.J,Co.H,Co.N,Co.F,Co.C,Co.Z,Co.B,Co.b8,Co.aJ,Co.b_,Co.i6,Co.z8,Co.cn]
 (repeat (first | refine SW.seq ?_ | refine SW.block ?_ | (refine SW.au [0,1,2] mixed ?_;(repeat (first | refine RW.ro U (h:= ?_) | refine RW.skip (h:= ?_) | refine RW.op U (h:= ?_) | refine RW.aL U (h:= ?_) | refine RW.aj (h:= ?_)));refine RW.nil ⟨by kernel_rfl,aa.mk (h:= ?_)⟩) | refine SW.skip ?_ | refine SW.exit ?_ | refine SW.ret ?_ | refine SW.aC rfl ?_ | refine SW.ay rfl ?_))
 exact End.mk [(1,.box 70 [.mp 0]),(0,.map (aN Dt.cells ov L) c)] (h4:=⟨rfl,rfl⟩) (h6:=by simp [Hp.ok,Ob.ok,SV.aF,SV.ok,dI])
theorem BZ (L:(MM Dt ah))(c:Nat)(n k:Nat):bB Tryz.prog maps_Values_map_api_Dot_api_Op_api_Dot_api_Op.f [.mp n] [(n,.map (aN Dt.cells ov L) c)] k 1 (.fn (.func maps_Values_map_api_Dot_api_Op_api_Dot_api_Op_1.f) [] [.ptr k 0]) [(k,.box 70 [.mp n]),(n,.map (aN Dt.cells ov L) c)]:=by
 have h:=SB.oW [n] (BY L c) (by simp) (fun i hi=>by cases i with | zero=>simp [af] | succ i=>simp at hi) k
 simpa [SV.aM,SV.aP,iA,Hp.aP,Ob.aP,gv] using h
end Go.Proofs.YtnakpdoioammhaaGreatDoor
namespace Go.Proofs.YtnakpdoioammhaaGreatDoor
open Go.Sl Go.Proofs
section
theorem FZ (a b:Nat):Pure Tryz.prog vector_Merge_1.f [u32 a,u32 b] (u32 (max a b)):=by
 refine vector_Merge_1.enter rfl rfl (by simp) ?_
 dsimp only [vector_Merge_1.s,Co.M,Co.G,Co.J,Co.H,Co.N,Co.F,Co.C,Co.Z,Co.B,Co.b8,Co.aJ,Co.b_,Co.i6,Co.z8,Co.cn]
 refine SW.seq ?_
 refine SW.c7 [] mixed (by simp only [runs,bJ,bZ,bW,ev,fK,gM,eT,dc,List.lookup,Nat.reduceBEq,Nat.reduceAdd,Nat.reduceMul,Nat.zero_add,SV.cells,if_true,if_false,reduceIte,Bool.false_eq_true,bF,bn,bz,bA,cw,cB,bL,br,lk,List.filter,Nat.reduceBNe,bne_self_eq_false,iw,fJ,a_,dP,dQ,jh,ag.cells_one,BEq.rfl,beq_self_eq_true,Bool.true_or,Nat.reduceEqDiff,List.map_cons,List.map_nil,List.nil_append,List.cons_append,List.append_nil,Int.toNat_natCast,Nat.mul_one,Nat.add_zero,bM,bK,bD,ck,cI,bX,bE,Option.isSome_some,Option.isSome_none,Option.isNone_some,Option.isNone_none,Nat.zero_ne_one,Nat.one_ne_zero,Bool.and_false,Bool.and_true,List.drop_zero,ag.ak,ag.aq,ag.aB,Dt.cells_one,Dt.aq,Dt.eu,Dt.ew,Dt.aB,Dt.ak,Dt.ec,c9,bC,dR,dL,List.all_cons,List.all_nil,SV.aZ,Int.cast_ofNat_Int,Int.reduceBNe,Int.reduceBEq,Int.reduceLT,Int.reduceLE,Int.reduceGT,Int.reduceGE,bt,cN,cQ,Bool.not_true,Bool.not_false,Bool.or_false,Bool.or_true,Bool.false_or,Bool.or_self,ag.bO,ag.ey,ag.cL,ag.cM,ag.av,ag.ax,Dt.bO,Dt.ez,Dt.av,Dt.ax,List.all_append,ag.dX,Dt.fV,Bool.cond_true,Bool.cond_false];rfl) (by simp [-List.length_flatMap,-Int.natCast_add] <;> omega) (by rfl) ?_
 refine SW.seq ?_
 refine SW.c7 [] mixed (by simp only [runs,bJ,bZ,bW,ev,fK,gM,eT,dc,List.lookup,Nat.reduceBEq,Nat.reduceAdd,Nat.reduceMul,Nat.zero_add,SV.cells,if_true,if_false,reduceIte,Bool.false_eq_true,bF,bn,bz,bA,cw,cB,bL,br,lk,List.filter,Nat.reduceBNe,bne_self_eq_false,iw,fJ,a_,dP,dQ,jh,ag.cells_one,BEq.rfl,beq_self_eq_true,Bool.true_or,Nat.reduceEqDiff,List.map_cons,List.map_nil,List.nil_append,List.cons_append,List.append_nil,Int.toNat_natCast,Nat.mul_one,Nat.add_zero,bM,bK,bD,ck,cI,bX,bE,Option.isSome_some,Option.isSome_none,Option.isNone_some,Option.isNone_none,Nat.zero_ne_one,Nat.one_ne_zero,Bool.and_false,Bool.and_true,List.drop_zero,ag.ak,ag.aq,ag.aB,Dt.cells_one,Dt.aq,Dt.eu,Dt.ew,Dt.aB,Dt.ak,Dt.ec,c9,bC,dR,dL,List.all_cons,List.all_nil,SV.aZ,Int.cast_ofNat_Int,Int.reduceBNe,Int.reduceBEq,Int.reduceLT,Int.reduceLE,Int.reduceGT,Int.reduceGE,bt,cN,cQ,Bool.not_true,Bool.not_false,Bool.or_false,Bool.or_true,Bool.false_or,Bool.or_self,ag.bO,ag.ey,ag.cL,ag.cM,ag.av,ag.ax,Dt.bO,Dt.ez,Dt.av,Dt.ax,List.all_append,ag.dX,Dt.fV,Bool.cond_true,Bool.cond_false];rfl) (by simp [-List.length_flatMap,-Int.natCast_add] <;> omega) (by rfl) ?_
 refine SW.ret ?_
 refine kY (by rfl) trivial ?_ rfl
 simp only [gI,u32]
 congr 2
 split <;> omega
def HA (g:Nat)(op:Nat→Nat→Nat):Prop:=∀ a b k:Nat,bB Tryz.prog g [.d (.int .u32 (a:Int)),.d (.int .u32 (b:Int))] [] k 0 (.d (.int .u32 ((op a b:Nat):Int))) []
theorem D0:HA vector_Merge_1.f max:=fun a b k=>(FZ a b).sc rfl k
abbrev jY (g:Nat):Ob:= .box iB [.fn (.func g) [] []]
theorem B0 {g:Nat}{op:Nat→Nat→Nat}(hg:HA g op)(a b:ag):SB Tryz.prog vector_each_1.f [.agg a.cells,.agg b.cells,.ptr 0 0] [(0,jY g)] 1 0 fun r F=>r= .agg (ag.zip op a b).cells∧F=[(0,jY g)]:=by
 refine vector_each_1.enter rfl rfl (by simp) ?_
 dsimp only [vector_each_1.s,Co.M,Co.G,Co.J,Co.H,Co.N,Co.F,Co.C,Co.Z,Co.B,Co.b8,Co.aJ,Co.b_,Co.i6,Co.z8,Co.cn]
 refine SW.seq ?_
 refine SW.c7 [] mixed (by simp only [runs,bJ,bZ,bW,ev,fK,gM,eT,dc,List.lookup,Nat.reduceBEq,Nat.reduceAdd,Nat.reduceMul,Nat.zero_add,SV.cells,if_true,if_false,reduceIte,Bool.false_eq_true,bF,bn,bz,bA,cw,cB,bL,br,lk,List.filter,Nat.reduceBNe,bne_self_eq_false,iw,fJ,a_,dP,dQ,jh,ag.cells_one,BEq.rfl,beq_self_eq_true,Bool.true_or,Nat.reduceEqDiff,List.map_cons,List.map_nil,List.nil_append,List.cons_append,List.append_nil,Int.toNat_natCast,Nat.mul_one,Nat.add_zero,bM,bK,bD,ck,cI,bX,bE,Option.isSome_some,Option.isSome_none,Option.isNone_some,Option.isNone_none,Nat.zero_ne_one,Nat.one_ne_zero,Bool.and_false,Bool.and_true,List.drop_zero,ag.ak,ag.aq,ag.aB,Dt.cells_one,Dt.aq,Dt.eu,Dt.ew,Dt.aB,Dt.ak,Dt.ec,c9,bC,dR,dL,List.all_cons,List.all_nil,SV.aZ,Int.cast_ofNat_Int,Int.reduceBNe,Int.reduceBEq,Int.reduceLT,Int.reduceLE,Int.reduceGT,Int.reduceGE,bt,cN,cQ,Bool.not_true,Bool.not_false,Bool.or_false,Bool.or_true,Bool.false_or,Bool.or_self,ag.bO,ag.ey,ag.cL,ag.cM,ag.av,ag.ax,Dt.bO,Dt.ez,Dt.av,Dt.ax,List.all_append,ag.dX,Dt.fV,Bool.cond_true,Bool.cond_false];rfl) (by simp [-List.length_flatMap,-Int.natCast_add] <;> omega) (by rfl) ?_
 refine SW.seq ?_
 refine SW.seq ?_
 refine SW.c7 [] mixed (by simp only [runs,bJ,bZ,bW,ev,fK,gM,eT,dc,List.lookup,Nat.reduceBEq,Nat.reduceAdd,Nat.reduceMul,Nat.zero_add,SV.cells,if_true,if_false,reduceIte,Bool.false_eq_true,bF,bn,bz,bA,cw,cB,bL,br,lk,List.filter,Nat.reduceBNe,bne_self_eq_false,iw,fJ,a_,dP,dQ,jh,ag.cells_one,BEq.rfl,beq_self_eq_true,Bool.true_or,Nat.reduceEqDiff,List.map_cons,List.map_nil,List.nil_append,List.cons_append,List.append_nil,Int.toNat_natCast,Nat.mul_one,Nat.add_zero,bM,bK,bD,ck,cI,bX,bE,Option.isSome_some,Option.isSome_none,Option.isNone_some,Option.isNone_none,Nat.zero_ne_one,Nat.one_ne_zero,Bool.and_false,Bool.and_true,List.drop_zero,ag.ak,ag.aq,ag.aB,Dt.cells_one,Dt.aq,Dt.eu,Dt.ew,Dt.aB,Dt.ak,Dt.ec,c9,bC,dR,dL,List.all_cons,List.all_nil,SV.aZ,Int.cast_ofNat_Int,Int.reduceBNe,Int.reduceBEq,Int.reduceLT,Int.reduceLE,Int.reduceGT,Int.reduceGE,bt,cN,cQ,Bool.not_true,Bool.not_false,Bool.or_false,Bool.or_true,Bool.false_or,Bool.or_self,ag.bO,ag.ey,ag.cL,ag.cM,ag.av,ag.ax,Dt.bO,Dt.ez,Dt.av,Dt.ax,List.all_append,ag.dX,Dt.fV,Bool.cond_true,Bool.cond_false];rfl) (by simp [-List.length_flatMap,-Int.natCast_add] <;> omega) (by rfl) ?_
 refine SW.block ?_
 refine SW.Ax (α:={i:Nat // i≤8}) (fun i=>⟨[(7,i64 i.1),(2,.ptr 0 0),(3,.ptr 1 0),(4,.ptr 2 0),(5,.ptr 3 0)],[(0,jY g),(1,.box 34 a.cells),(2,.box 34 b.cells),(3,.box 34 (ag.upto i.1 (ag.zip op a b) ag.zero).cells)],4⟩) (fun i=>8 - i.1) ⟨0,by omega⟩ (by simp only [ag.yC];simp [Go.Sl.Sub,tH,C7,SV.ok,Ob.ok,SV.aF,lk,List.lookup,ag.an]) ?_
 rintro ⟨i,hi⟩
 refine SW.seq ?_
 refine SW.c7 [] mixed (by simp only [runs,bJ,bZ,bW,ev,fK,gM,eT,dc,List.lookup,Nat.reduceBEq,Nat.reduceAdd,Nat.reduceMul,Nat.zero_add,SV.cells,if_true,if_false,reduceIte,Bool.false_eq_true,bF,bn,bz,bA,cw,cB,bL,br,lk,List.filter,Nat.reduceBNe,bne_self_eq_false,iw,fJ,a_,dP,dQ,jh,ag.cells_one,BEq.rfl,beq_self_eq_true,Bool.true_or,Nat.reduceEqDiff,List.map_cons,List.map_nil,List.nil_append,List.cons_append,List.append_nil,Int.toNat_natCast,Nat.mul_one,Nat.add_zero,bM,bK,bD,ck,cI,bX,bE,Option.isSome_some,Option.isSome_none,Option.isNone_some,Option.isNone_none,Nat.zero_ne_one,Nat.one_ne_zero,Bool.and_false,Bool.and_true,List.drop_zero,ag.ak,ag.aq,ag.aB,Dt.cells_one,Dt.aq,Dt.eu,Dt.ew,Dt.aB,Dt.ak,Dt.ec,c9,bC,dR,dL,List.all_cons,List.all_nil,SV.aZ,Int.cast_ofNat_Int,Int.reduceBNe,Int.reduceBEq,Int.reduceLT,Int.reduceLE,Int.reduceGT,Int.reduceGE,bt,cN,cQ,Bool.not_true,Bool.not_false,Bool.or_false,Bool.or_true,Bool.false_or,Bool.or_self,ag.bO,ag.ey,ag.cL,ag.cM,ag.av,ag.ax,Dt.bO,Dt.ez,Dt.av,Dt.ax,List.all_append,ag.dX,Dt.fV,Bool.cond_true,Bool.cond_false];rfl) (by simp [-List.length_flatMap,-Int.natCast_add] <;> omega) (by rfl) ?_
 refine SW.seq ?_
 refine SW.cond rfl (fun h=>SW.skip ?_) (fun h=>SW.exit ?_)
 ·have h:i<8:=by simp at h;omega
  refine SW.seq ?_
  refine SW.block ?_
  refine SW.seq ?_
  refine SW.c7 [] mixed (by simp only [runs,bJ,bZ,bW,ev,fK,gM,eT,dc,List.lookup,Nat.reduceBEq,Nat.reduceAdd,Nat.reduceMul,Nat.zero_add,SV.cells,if_true,if_false,reduceIte,Bool.false_eq_true,bF,bn,bz,bA,cw,cB,bL,br,lk,List.filter,Nat.reduceBNe,bne_self_eq_false,iw,fJ,a_,dP,dQ,jh,ag.cells_one,BEq.rfl,beq_self_eq_true,Bool.true_or,Nat.reduceEqDiff,List.map_cons,List.map_nil,List.nil_append,List.cons_append,List.append_nil,Int.toNat_natCast,Nat.mul_one,Nat.add_zero,bM,bK,bD,ck,cI,bX,bE,Option.isSome_some,Option.isSome_none,Option.isNone_some,Option.isNone_none,Nat.zero_ne_one,Nat.one_ne_zero,Bool.and_false,Bool.and_true,List.drop_zero,ag.ak,ag.aq,ag.aB,Dt.cells_one,Dt.aq,Dt.eu,Dt.ew,Dt.aB,Dt.ak,Dt.ec,c9,bC,dR,dL,List.all_cons,List.all_nil,SV.aZ,Int.cast_ofNat_Int,Int.reduceBNe,Int.reduceBEq,Int.reduceLT,Int.reduceLE,Int.reduceGT,Int.reduceGE,bt,cN,cQ,Bool.not_true,Bool.not_false,Bool.or_false,Bool.or_true,Bool.false_or,Bool.or_self,ag.bO,ag.ey,ag.cL,ag.cM,ag.av,ag.ax,Dt.bO,Dt.ez,Dt.av,Dt.ax,List.all_append,ag.dX,Dt.fV,Bool.cond_true,Bool.cond_false];rfl) (by simp [-List.length_flatMap,-Int.natCast_add] <;> omega) (by rfl) ?_
  refine SW.c7 [.call [] (u32 (op (a.get i) (b.get i))) [] 0] mixed (by simp only [runs,bJ,bZ,bW,ev,fK,gM,eT,dc,List.lookup,Nat.reduceBEq,Nat.reduceAdd,Nat.reduceMul,Nat.zero_add,SV.cells,if_true,if_false,reduceIte,Bool.false_eq_true,bF,bn,bz,bA,cw,cB,bL,br,lk,List.filter,Nat.reduceBNe,bne_self_eq_false,iw,fJ,a_,dP,dQ,jh,ag.cells_one,BEq.rfl,beq_self_eq_true,Bool.true_or,Nat.reduceEqDiff,List.map_cons,List.map_nil,List.nil_append,List.cons_append,List.append_nil,Int.toNat_natCast,Nat.mul_one,Nat.add_zero,bM,bK,bD,ck,cI,bX,bE,Option.isSome_some,Option.isSome_none,Option.isNone_some,Option.isNone_none,Nat.zero_ne_one,Nat.one_ne_zero,Bool.and_false,Bool.and_true,List.drop_zero,ag.ak,ag.aq,ag.aB,Dt.cells_one,Dt.aq,Dt.eu,Dt.ew,Dt.aB,Dt.ak,Dt.ec,c9,bC,dR,dL,List.all_cons,List.all_nil,SV.aZ,Int.cast_ofNat_Int,Int.reduceBNe,Int.reduceBEq,Int.reduceLT,Int.reduceLE,Int.reduceGT,Int.reduceGE,bt,cN,cQ,Bool.not_true,Bool.not_false,Bool.or_false,Bool.or_true,Bool.false_or,Bool.or_self,ag.bO,ag.ey,ag.cL,ag.cM,ag.av,ag.ax,Dt.bO,Dt.ez,Dt.av,Dt.ax,List.all_append,ag.dX,Dt.fV,Bool.cond_true,Bool.cond_false,a.er h,b.er h];rfl) (by simp [-List.length_flatMap,-Int.natCast_add,lk,List.lookup,hg (a.get i) (b.get i)] <;> omega) (by rfl) ?_
  have e:(ag.upto i (ag.zip op a b) ag.zero).set i (op (a.get i) (b.get i))=ag.upto (i+1) (ag.zip op a b) ag.zero:=by
   rw [← ag.yD _ _ h];congr 1;simp [ag.zip,ag.kr _ h]
  simp only [ag.C9 _ h,e]
  refine SW.c7 [] mixed (by simp only [runs,bJ,bZ,bW,ev,fK,gM,eT,dc,List.lookup,Nat.reduceBEq,Nat.reduceAdd,Nat.reduceMul,Nat.zero_add,SV.cells,if_true,if_false,reduceIte,Bool.false_eq_true,bF,bn,bz,bA,cw,cB,bL,br,lk,List.filter,Nat.reduceBNe,bne_self_eq_false,iw,fJ,a_,dP,dQ,jh,ag.cells_one,BEq.rfl,beq_self_eq_true,Bool.true_or,Nat.reduceEqDiff,List.map_cons,List.map_nil,List.nil_append,List.cons_append,List.append_nil,Int.toNat_natCast,Nat.mul_one,Nat.add_zero,bM,bK,bD,ck,cI,bX,bE,Option.isSome_some,Option.isSome_none,Option.isNone_some,Option.isNone_none,Nat.zero_ne_one,Nat.one_ne_zero,Bool.and_false,Bool.and_true,List.drop_zero,ag.ak,ag.aq,ag.aB,Dt.cells_one,Dt.aq,Dt.eu,Dt.ew,Dt.aB,Dt.ak,Dt.ec,c9,bC,dR,dL,List.all_cons,List.all_nil,SV.aZ,Int.cast_ofNat_Int,Int.reduceBNe,Int.reduceBEq,Int.reduceLT,Int.reduceLE,Int.reduceGT,Int.reduceGE,bt,cN,cQ,Bool.not_true,Bool.not_false,Bool.or_false,Bool.or_true,Bool.false_or,Bool.or_self,ag.bO,ag.ey,ag.cL,ag.cM,ag.av,ag.ax,Dt.bO,Dt.ez,Dt.av,Dt.ax,List.all_append,ag.dX,Dt.fV,Bool.cond_true,Bool.cond_false,od i (by omega)];rfl) (by simp [-List.length_flatMap,-Int.natCast_add] <;> omega) (by rfl) ?_
  exact ⟨⟨i+1,by omega⟩,by simp;omega,by simp [Go.Sl.Sub,tH,C7,SV.ok,Ob.ok,SV.aF,lk,List.lookup,ag.an]⟩
 ·have h:i=8:=by simp at h;omega
  subst h
  refine SW.seq ?_
  simp only [ag.AB]
  refine SW.c7 [] mixed (by simp only [runs,bJ,bZ,bW,ev,fK,gM,eT,dc,List.lookup,Nat.reduceBEq,Nat.reduceAdd,Nat.reduceMul,Nat.zero_add,SV.cells,if_true,if_false,reduceIte,Bool.false_eq_true,bF,bn,bz,bA,cw,cB,bL,br,lk,List.filter,Nat.reduceBNe,bne_self_eq_false,iw,fJ,a_,dP,dQ,jh,ag.cells_one,BEq.rfl,beq_self_eq_true,Bool.true_or,Nat.reduceEqDiff,List.map_cons,List.map_nil,List.nil_append,List.cons_append,List.append_nil,Int.toNat_natCast,Nat.mul_one,Nat.add_zero,bM,bK,bD,ck,cI,bX,bE,Option.isSome_some,Option.isSome_none,Option.isNone_some,Option.isNone_none,Nat.zero_ne_one,Nat.one_ne_zero,Bool.and_false,Bool.and_true,List.drop_zero,ag.ak,ag.aq,ag.aB,Dt.cells_one,Dt.aq,Dt.eu,Dt.ew,Dt.aB,Dt.ak,Dt.ec,c9,bC,dR,dL,List.all_cons,List.all_nil,SV.aZ,Int.cast_ofNat_Int,Int.reduceBNe,Int.reduceBEq,Int.reduceLT,Int.reduceLE,Int.reduceGT,Int.reduceGE,bt,cN,cQ,Bool.not_true,Bool.not_false,Bool.or_false,Bool.or_true,Bool.false_or,Bool.or_self,ag.bO,ag.ey,ag.cL,ag.cM,ag.av,ag.ax,Dt.bO,Dt.ez,Dt.av,Dt.ax,List.all_append,ag.dX,Dt.fV,Bool.cond_true,Bool.cond_false];rfl) (by simp [-List.length_flatMap,-Int.natCast_add] <;> omega) (by rfl) ?_
  refine SW.ret ?_
  exact ⟨_,_,[(0,jY g)],by rfl,by simp [fJ],by simp [lk],⟨rfl,rfl⟩,rfl,rfl,by simp⟩
theorem B1 {g:Nat}{op:Nat→Nat→Nat}(hg:HA g op)(a b:ag)(n k:Nat):bB Tryz.prog vector_each_1.f [.agg a.cells,.agg b.cells,.ptr n 0] [(n,jY g)] k 0 (.agg (ag.zip op a b).cells) [(n,jY g)]:=
 SB.oW [n] (B0 hg a b) (by simp) (by simp [lk]) k
theorem D1 (g:Nat):SB Tryz.prog vector_each.f [.fn (.func g) [] []] [] 0 1 fun r F=>r= .fn (.func vector_each_1.f) [] [.ptr 0 0]∧F=[(0,jY g)]:=by
 refine vector_each.enter rfl rfl (by simp) ?_
 dsimp only [vector_each.s,Co.M,Co.G,Co.J,Co.H,Co.N,Co.F,Co.C,Co.Z,Co.B,Co.b8,Co.aJ,Co.b_,Co.i6,Co.z8,Co.cn]
 refine SW.seq ?_
 refine SW.c7 [] mixed (by simp only [runs,bJ,bZ,bW,ev,fK,gM,eT,dc,List.lookup,Nat.reduceBEq,Nat.reduceAdd,Nat.reduceMul,Nat.zero_add,SV.cells,if_true,if_false,reduceIte,Bool.false_eq_true,bF,bn,bz,bA,cw,cB,bL,br,lk,List.filter,Nat.reduceBNe,bne_self_eq_false,iw,fJ,a_,dP,dQ,jh,ag.cells_one,BEq.rfl,beq_self_eq_true,Bool.true_or,Nat.reduceEqDiff,List.map_cons,List.map_nil,List.nil_append,List.cons_append,List.append_nil,Int.toNat_natCast,Nat.mul_one,Nat.add_zero,bM,bK,bD,ck,cI,bX,bE,Option.isSome_some,Option.isSome_none,Option.isNone_some,Option.isNone_none,Nat.zero_ne_one,Nat.one_ne_zero,Bool.and_false,Bool.and_true,List.drop_zero,ag.ak,ag.aq,ag.aB,Dt.cells_one,Dt.aq,Dt.eu,Dt.ew,Dt.aB,Dt.ak,Dt.ec,c9,bC,dR,dL,List.all_cons,List.all_nil,SV.aZ,Int.cast_ofNat_Int,Int.reduceBNe,Int.reduceBEq,Int.reduceLT,Int.reduceLE,Int.reduceGT,Int.reduceGE,bt,cN,cQ,Bool.not_true,Bool.not_false,Bool.or_false,Bool.or_true,Bool.false_or,Bool.or_self,ag.bO,ag.ey,ag.cL,ag.cM,ag.av,ag.ax,Dt.bO,Dt.ez,Dt.av,Dt.ax,List.all_append,ag.dX,Dt.fV,Bool.cond_true,Bool.cond_false];rfl) (by simp [-List.length_flatMap,-Int.natCast_add] <;> omega) (by rfl) ?_
 refine SW.seq ?_
 refine SW.c7 [] mixed (by simp only [runs,bJ,bZ,bW,ev,fK,gM,eT,dc,List.lookup,Nat.reduceBEq,Nat.reduceAdd,Nat.reduceMul,Nat.zero_add,SV.cells,if_true,if_false,reduceIte,Bool.false_eq_true,bF,bn,bz,bA,cw,cB,bL,br,lk,List.filter,Nat.reduceBNe,bne_self_eq_false,iw,fJ,a_,dP,dQ,jh,ag.cells_one,BEq.rfl,beq_self_eq_true,Bool.true_or,Nat.reduceEqDiff,List.map_cons,List.map_nil,List.nil_append,List.cons_append,List.append_nil,Int.toNat_natCast,Nat.mul_one,Nat.add_zero,bM,bK,bD,ck,cI,bX,bE,Option.isSome_some,Option.isSome_none,Option.isNone_some,Option.isNone_none,Nat.zero_ne_one,Nat.one_ne_zero,Bool.and_false,Bool.and_true,List.drop_zero,ag.ak,ag.aq,ag.aB,Dt.cells_one,Dt.aq,Dt.eu,Dt.ew,Dt.aB,Dt.ak,Dt.ec,c9,bC,dR,dL,List.all_cons,List.all_nil,SV.aZ,Int.cast_ofNat_Int,Int.reduceBNe,Int.reduceBEq,Int.reduceLT,Int.reduceLE,Int.reduceGT,Int.reduceGE,bt,cN,cQ,Bool.not_true,Bool.not_false,Bool.or_false,Bool.or_true,Bool.false_or,Bool.or_self,ag.bO,ag.ey,ag.cL,ag.cM,ag.av,ag.ax,Dt.bO,Dt.ez,Dt.av,Dt.ax,List.all_append,ag.dX,Dt.fV,Bool.cond_true,Bool.cond_false];rfl) (by simp [-List.length_flatMap,-Int.natCast_add] <;> omega) (by rfl) ?_
 refine SW.ret ?_
 exact ⟨_,_,[(0,jY g)],by rfl,by simp [fJ],by simp [lk],⟨rfl,rfl⟩,rfl,rfl,by simp⟩
theorem D2 (g k:Nat):bB Tryz.prog vector_each.f [.fn (.func g) [] []] [] k 1 (.fn (.func vector_each_1.f) [] [.ptr k 0]) [(k,jY g)]:=by
 have:=SB.new (D1 g) k
 simpa [SV.aP,SV.aM,Hp.aP,Ob.aP,iA] using this
theorem B2 {g:Nat}{op:Nat→Nat→Nat}(hg:HA g op)(l:List ag)(hl:l.length<1000000000):SB Tryz.prog vector_all_api_Vector.f [.fn (.func vector_each_1.f) [] [.ptr 0 0],C_ l] [(0,jY g)] 1 0
  fun r F=>r= .agg (ag.all op l).cells∧F=[(0,jY g)]:=by
 refine vector_all_api_Vector.enter rfl rfl (by simp) ?_
 dsimp only [vector_all_api_Vector.s,Co.M,Co.G,Co.J,Co.H,Co.N,Co.F,Co.C,Co.Z,Co.B,Co.b8,Co.aJ,Co.b_,Co.i6,Co.z8,Co.cn]
 refine SW.seq ?_
 refine SW.c7 [] mixed (by simp only [runs,bJ,bZ,bW,ev,fK,gM,eT,dc,List.lookup,Nat.reduceBEq,Nat.reduceAdd,Nat.reduceMul,Nat.zero_add,SV.cells,if_true,if_false,reduceIte,Bool.false_eq_true,bF,bn,bz,bA,cw,cB,bL,br,lk,List.filter,Nat.reduceBNe,bne_self_eq_false,iw,fJ,a_,dP,dQ,jh,ag.cells_one,BEq.rfl,beq_self_eq_true,Bool.true_or,Nat.reduceEqDiff,List.map_cons,List.map_nil,List.nil_append,List.cons_append,List.append_nil,Int.toNat_natCast,Nat.mul_one,Nat.add_zero,bM,bK,bD,ck,cI,bX,bE,Option.isSome_some,Option.isSome_none,Option.isNone_some,Option.isNone_none,Nat.zero_ne_one,Nat.one_ne_zero,Bool.and_false,Bool.and_true,List.drop_zero,ag.ak,ag.aq,ag.aB,Dt.cells_one,Dt.aq,Dt.eu,Dt.ew,Dt.aB,Dt.ak,Dt.ec,c9,bC,dR,dL,List.all_cons,List.all_nil,SV.aZ,Int.cast_ofNat_Int,Int.reduceBNe,Int.reduceBEq,Int.reduceLT,Int.reduceLE,Int.reduceGT,Int.reduceGE,bt,cN,cQ,Bool.not_true,Bool.not_false,Bool.or_false,Bool.or_true,Bool.false_or,Bool.or_self,ag.bO,ag.ey,ag.cL,ag.cM,ag.av,ag.ax,Dt.bO,Dt.ez,Dt.av,Dt.ax,List.all_append,ag.dX,Dt.fV,Bool.cond_true,Bool.cond_false];rfl) (by simp [-List.length_flatMap,-Int.natCast_add] <;> omega) (by rfl) ?_
 refine SW.seq ?_
 refine SW.seq ?_
 refine SW.c7 [] mixed (by simp only [runs,bJ,bZ,bW,ev,fK,gM,eT,dc,List.lookup,Nat.reduceBEq,Nat.reduceAdd,Nat.reduceMul,Nat.zero_add,SV.cells,if_true,if_false,reduceIte,Bool.false_eq_true,bF,bn,bz,bA,cw,cB,bL,br,lk,List.filter,Nat.reduceBNe,bne_self_eq_false,iw,fJ,a_,dP,dQ,jh,ag.cells_one,BEq.rfl,beq_self_eq_true,Bool.true_or,Nat.reduceEqDiff,List.map_cons,List.map_nil,List.nil_append,List.cons_append,List.append_nil,Int.toNat_natCast,Nat.mul_one,Nat.add_zero,bM,bK,bD,ck,cI,bX,bE,Option.isSome_some,Option.isSome_none,Option.isNone_some,Option.isNone_none,Nat.zero_ne_one,Nat.one_ne_zero,Bool.and_false,Bool.and_true,List.drop_zero,ag.ak,ag.aq,ag.aB,Dt.cells_one,Dt.aq,Dt.eu,Dt.ew,Dt.aB,Dt.ak,Dt.ec,c9,bC,dR,dL,List.all_cons,List.all_nil,SV.aZ,Int.cast_ofNat_Int,Int.reduceBNe,Int.reduceBEq,Int.reduceLT,Int.reduceLE,Int.reduceGT,Int.reduceGE,bt,cN,cQ,Bool.not_true,Bool.not_false,Bool.or_false,Bool.or_true,Bool.false_or,Bool.or_self,ag.bO,ag.ey,ag.cL,ag.cM,ag.av,ag.ax,Dt.bO,Dt.ez,Dt.av,Dt.ax,List.all_append,ag.dX,Dt.fV,Bool.cond_true,Bool.cond_false];rfl) (by simp [-List.length_flatMap,-Int.natCast_add] <;> omega) (by rfl) ?_
 refine SW.block ?_
 refine SW.Ax (α:={i:Nat // i≤l.length}) (fun i=>⟨[(9,i64 i.1),(8,i64 l.length),(7,C_ l),(4,.ptr 1 0),(0,.fn (.func vector_each_1.f) [] [.ptr 0 0])],[(0,jY g),(1,.box 34 (ag.all op (l.take i.1)).cells)],2⟩) (fun i=>l.length - i.1) ⟨0,by omega⟩ (by simp [ag.all];simp [Go.Sl.Sub,tH,C7,SV.ok,Ob.ok,SV.aF,lk,List.lookup,ag.an]) ?_
 rintro ⟨i,hi⟩
 refine SW.seq ?_
 refine SW.c7 [] mixed (by simp only [runs,bJ,bZ,bW,ev,fK,gM,eT,dc,List.lookup,Nat.reduceBEq,Nat.reduceAdd,Nat.reduceMul,Nat.zero_add,SV.cells,if_true,if_false,reduceIte,Bool.false_eq_true,bF,bn,bz,bA,cw,cB,bL,br,lk,List.filter,Nat.reduceBNe,bne_self_eq_false,iw,fJ,a_,dP,dQ,jh,ag.cells_one,BEq.rfl,beq_self_eq_true,Bool.true_or,Nat.reduceEqDiff,List.map_cons,List.map_nil,List.nil_append,List.cons_append,List.append_nil,Int.toNat_natCast,Nat.mul_one,Nat.add_zero,bM,bK,bD,ck,cI,bX,bE,Option.isSome_some,Option.isSome_none,Option.isNone_some,Option.isNone_none,Nat.zero_ne_one,Nat.one_ne_zero,Bool.and_false,Bool.and_true,List.drop_zero,ag.ak,ag.aq,ag.aB,Dt.cells_one,Dt.aq,Dt.eu,Dt.ew,Dt.aB,Dt.ak,Dt.ec,c9,bC,dR,dL,List.all_cons,List.all_nil,SV.aZ,Int.cast_ofNat_Int,Int.reduceBNe,Int.reduceBEq,Int.reduceLT,Int.reduceLE,Int.reduceGT,Int.reduceGE,bt,cN,cQ,Bool.not_true,Bool.not_false,Bool.or_false,Bool.or_true,Bool.false_or,Bool.or_self,ag.bO,ag.ey,ag.cL,ag.cM,ag.av,ag.ax,Dt.bO,Dt.ez,Dt.av,Dt.ax,List.all_append,ag.dX,Dt.fV,Bool.cond_true,Bool.cond_false];rfl) (by simp [-List.length_flatMap,-Int.natCast_add] <;> omega) (by rfl) ?_
 refine SW.seq ?_
 refine SW.cond rfl (fun h=>SW.skip ?_) (fun h=>SW.exit ?_)
 ·have h:i<l.length:=by simp at h;omega
  obtain ⟨x,hx⟩:=bR h
  refine SW.seq ?_
  refine SW.block ?_
  refine SW.seq ?_
  refine SW.c7 [] mixed (by simp only [runs,bJ,bZ,bW,ev,fK,gM,eT,dc,List.lookup,Nat.reduceBEq,Nat.reduceAdd,Nat.reduceMul,Nat.zero_add,SV.cells,if_true,if_false,reduceIte,Bool.false_eq_true,bF,bn,bz,bA,cw,cB,bL,br,lk,List.filter,Nat.reduceBNe,bne_self_eq_false,iw,fJ,a_,dP,dQ,jh,ag.cells_one,BEq.rfl,beq_self_eq_true,Bool.true_or,Nat.reduceEqDiff,List.map_cons,List.map_nil,List.nil_append,List.cons_append,List.append_nil,Int.toNat_natCast,Nat.mul_one,Nat.add_zero,bM,bK,bD,ck,cI,bX,bE,Option.isSome_some,Option.isSome_none,Option.isNone_some,Option.isNone_none,Nat.zero_ne_one,Nat.one_ne_zero,Bool.and_false,Bool.and_true,List.drop_zero,ag.ak,ag.aq,ag.aB,Dt.cells_one,Dt.aq,Dt.eu,Dt.ew,Dt.aB,Dt.ak,Dt.ec,c9,bC,dR,dL,List.all_cons,List.all_nil,SV.aZ,Int.cast_ofNat_Int,Int.reduceBNe,Int.reduceBEq,Int.reduceLT,Int.reduceLE,Int.reduceGT,Int.reduceGE,bt,cN,cQ,Bool.not_true,Bool.not_false,Bool.or_false,Bool.or_true,Bool.false_or,Bool.or_self,ag.bO,ag.ey,ag.cL,ag.cM,ag.av,ag.ax,Dt.bO,Dt.ez,Dt.av,Dt.ax,List.all_append,ag.dX,Dt.fV,Bool.cond_true,Bool.cond_false,Fu hx];rfl) (by simp [-List.length_flatMap,-Int.natCast_add] <;> omega) (by rfl) ?_
  refine SW.seq ?_
  refine SW.c7 [.call [(0,jY g)] (.agg (ag.zip op (ag.all op (l.take i)) x).cells) [(0,jY g)] 0] mixed (by simp only [runs,bJ,bZ,bW,ev,fK,gM,eT,dc,List.lookup,Nat.reduceBEq,Nat.reduceAdd,Nat.reduceMul,Nat.zero_add,SV.cells,if_true,if_false,reduceIte,Bool.false_eq_true,bF,bn,bz,bA,cw,cB,bL,br,lk,List.filter,Nat.reduceBNe,bne_self_eq_false,iw,fJ,a_,dP,dQ,jh,ag.cells_one,BEq.rfl,beq_self_eq_true,Bool.true_or,Nat.reduceEqDiff,List.map_cons,List.map_nil,List.nil_append,List.cons_append,List.append_nil,Int.toNat_natCast,Nat.mul_one,Nat.add_zero,bM,bK,bD,ck,cI,bX,bE,Option.isSome_some,Option.isSome_none,Option.isNone_some,Option.isNone_none,Nat.zero_ne_one,Nat.one_ne_zero,Bool.and_false,Bool.and_true,List.drop_zero,ag.ak,ag.aq,ag.aB,Dt.cells_one,Dt.aq,Dt.eu,Dt.ew,Dt.aB,Dt.ak,Dt.ec,c9,bC,dR,dL,List.all_cons,List.all_nil,SV.aZ,Int.cast_ofNat_Int,Int.reduceBNe,Int.reduceBEq,Int.reduceLT,Int.reduceLE,Int.reduceGT,Int.reduceGE,bt,cN,cQ,Bool.not_true,Bool.not_false,Bool.or_false,Bool.or_true,Bool.false_or,Bool.or_self,ag.bO,ag.ey,ag.cL,ag.cM,ag.av,ag.ax,Dt.bO,Dt.ez,Dt.av,Dt.ax,List.all_append,ag.dX,Dt.fV,Bool.cond_true,Bool.cond_false];rfl) (by simp [-List.length_flatMap,-Int.natCast_add,lk,List.lookup,B1 hg,lk] <;> omega) (by rfl) ?_
  refine SW.seq ?_
  refine SW.c7 [] mixed (by simp only [runs,bJ,bZ,bW,ev,fK,gM,eT,dc,List.lookup,Nat.reduceBEq,Nat.reduceAdd,Nat.reduceMul,Nat.zero_add,SV.cells,if_true,if_false,reduceIte,Bool.false_eq_true,bF,bn,bz,bA,cw,cB,bL,br,lk,List.filter,Nat.reduceBNe,bne_self_eq_false,iw,fJ,a_,dP,dQ,jh,ag.cells_one,BEq.rfl,beq_self_eq_true,Bool.true_or,Nat.reduceEqDiff,List.map_cons,List.map_nil,List.nil_append,List.cons_append,List.append_nil,Int.toNat_natCast,Nat.mul_one,Nat.add_zero,bM,bK,bD,ck,cI,bX,bE,Option.isSome_some,Option.isSome_none,Option.isNone_some,Option.isNone_none,Nat.zero_ne_one,Nat.one_ne_zero,Bool.and_false,Bool.and_true,List.drop_zero,ag.ak,ag.aq,ag.aB,Dt.cells_one,Dt.aq,Dt.eu,Dt.ew,Dt.aB,Dt.ak,Dt.ec,c9,bC,dR,dL,List.all_cons,List.all_nil,SV.aZ,Int.cast_ofNat_Int,Int.reduceBNe,Int.reduceBEq,Int.reduceLT,Int.reduceLE,Int.reduceGT,Int.reduceGE,bt,cN,cQ,Bool.not_true,Bool.not_false,Bool.or_false,Bool.or_true,Bool.false_or,Bool.or_self,ag.bO,ag.ey,ag.cL,ag.cM,ag.av,ag.ax,Dt.bO,Dt.ez,Dt.av,Dt.ax,List.all_append,ag.dX,Dt.fV,Bool.cond_true,Bool.cond_false];rfl) (by simp [-List.length_flatMap,-Int.natCast_add] <;> omega) (by rfl) ?_
  refine SW.cond rfl (fun hc=> ?_) (fun hc=>SW.skip ?_)
  ·have hc:i=0:=by simp at hc;omega
   subst hc
   refine SW.c7 [] mixed (by simp only [runs,bJ,bZ,bW,ev,fK,gM,eT,dc,List.lookup,Nat.reduceBEq,Nat.reduceAdd,Nat.reduceMul,Nat.zero_add,SV.cells,if_true,if_false,reduceIte,Bool.false_eq_true,bF,bn,bz,bA,cw,cB,bL,br,lk,List.filter,Nat.reduceBNe,bne_self_eq_false,iw,fJ,a_,dP,dQ,jh,ag.cells_one,BEq.rfl,beq_self_eq_true,Bool.true_or,Nat.reduceEqDiff,List.map_cons,List.map_nil,List.nil_append,List.cons_append,List.append_nil,Int.toNat_natCast,Nat.mul_one,Nat.add_zero,bM,bK,bD,ck,cI,bX,bE,Option.isSome_some,Option.isSome_none,Option.isNone_some,Option.isNone_none,Nat.zero_ne_one,Nat.one_ne_zero,Bool.and_false,Bool.and_true,List.drop_zero,ag.ak,ag.aq,ag.aB,Dt.cells_one,Dt.aq,Dt.eu,Dt.ew,Dt.aB,Dt.ak,Dt.ec,c9,bC,dR,dL,List.all_cons,List.all_nil,SV.aZ,Int.cast_ofNat_Int,Int.reduceBNe,Int.reduceBEq,Int.reduceLT,Int.reduceLE,Int.reduceGT,Int.reduceGE,bt,cN,cQ,Bool.not_true,Bool.not_false,Bool.or_false,Bool.or_true,Bool.false_or,Bool.or_self,ag.bO,ag.ey,ag.cL,ag.cM,ag.av,ag.ax,Dt.bO,Dt.ez,Dt.av,Dt.ax,List.all_append,ag.dX,Dt.fV,Bool.cond_true,Bool.cond_false];rfl) (by simp [-List.length_flatMap,-Int.natCast_add] <;> omega) (by rfl) ?_
   refine SW.c7 [] mixed (by simp only [runs,bJ,bZ,bW,ev,fK,gM,eT,dc,List.lookup,Nat.reduceBEq,Nat.reduceAdd,Nat.reduceMul,Nat.zero_add,SV.cells,if_true,if_false,reduceIte,Bool.false_eq_true,bF,bn,bz,bA,cw,cB,bL,br,lk,List.filter,Nat.reduceBNe,bne_self_eq_false,iw,fJ,a_,dP,dQ,jh,ag.cells_one,BEq.rfl,beq_self_eq_true,Bool.true_or,Nat.reduceEqDiff,List.map_cons,List.map_nil,List.nil_append,List.cons_append,List.append_nil,Int.toNat_natCast,Nat.mul_one,Nat.add_zero,bM,bK,bD,ck,cI,bX,bE,Option.isSome_some,Option.isSome_none,Option.isNone_some,Option.isNone_none,Nat.zero_ne_one,Nat.one_ne_zero,Bool.and_false,Bool.and_true,List.drop_zero,ag.ak,ag.aq,ag.aB,Dt.cells_one,Dt.aq,Dt.eu,Dt.ew,Dt.aB,Dt.ak,Dt.ec,c9,bC,dR,dL,List.all_cons,List.all_nil,SV.aZ,Int.cast_ofNat_Int,Int.reduceBNe,Int.reduceBEq,Int.reduceLT,Int.reduceLE,Int.reduceGT,Int.reduceGE,bt,cN,cQ,Bool.not_true,Bool.not_false,Bool.or_false,Bool.or_true,Bool.false_or,Bool.or_self,ag.bO,ag.ey,ag.cL,ag.cM,ag.av,ag.ax,Dt.bO,Dt.ez,Dt.av,Dt.ax,List.all_append,ag.dX,Dt.fV,Bool.cond_true,Bool.cond_false,show IntKind.i64.wrap (0+1)=1 from rfl];rfl) (by simp [-List.length_flatMap,-Int.natCast_add] <;> omega) (by rfl) ?_
   refine ⟨⟨0+1,by omega⟩,by simp;omega,?_⟩
   simp only [eR hx,ag.uM]
   simp [Go.Sl.Sub,tH,C7,SV.ok,Ob.ok,SV.aF,lk,List.lookup,ag.an]
  ·have hc:i≠0:=by simp at hc;omega
   refine SW.c7 [] mixed (by simp only [runs,bJ,bZ,bW,ev,fK,gM,eT,dc,List.lookup,Nat.reduceBEq,Nat.reduceAdd,Nat.reduceMul,Nat.zero_add,SV.cells,if_true,if_false,reduceIte,Bool.false_eq_true,bF,bn,bz,bA,cw,cB,bL,br,lk,List.filter,Nat.reduceBNe,bne_self_eq_false,iw,fJ,a_,dP,dQ,jh,ag.cells_one,BEq.rfl,beq_self_eq_true,Bool.true_or,Nat.reduceEqDiff,List.map_cons,List.map_nil,List.nil_append,List.cons_append,List.append_nil,Int.toNat_natCast,Nat.mul_one,Nat.add_zero,bM,bK,bD,ck,cI,bX,bE,Option.isSome_some,Option.isSome_none,Option.isNone_some,Option.isNone_none,Nat.zero_ne_one,Nat.one_ne_zero,Bool.and_false,Bool.and_true,List.drop_zero,ag.ak,ag.aq,ag.aB,Dt.cells_one,Dt.aq,Dt.eu,Dt.ew,Dt.aB,Dt.ak,Dt.ec,c9,bC,dR,dL,List.all_cons,List.all_nil,SV.aZ,Int.cast_ofNat_Int,Int.reduceBNe,Int.reduceBEq,Int.reduceLT,Int.reduceLE,Int.reduceGT,Int.reduceGE,bt,cN,cQ,Bool.not_true,Bool.not_false,Bool.or_false,Bool.or_true,Bool.false_or,Bool.or_self,ag.bO,ag.ey,ag.cL,ag.cM,ag.av,ag.ax,Dt.bO,Dt.ez,Dt.av,Dt.ax,List.all_append,ag.dX,Dt.fV,Bool.cond_true,Bool.cond_false,od i (by omega)];rfl) (by simp [-List.length_flatMap,-Int.natCast_add] <;> omega) (by rfl) ?_
   refine ⟨⟨i+1,by omega⟩,by simp;omega,?_⟩
   simp only [eR hx,ag.uM,List.length_take,show ¬ (min i l.length=0) by omega,if_false]
   simp [Go.Sl.Sub,tH,C7,SV.ok,Ob.ok,SV.aF,lk,List.lookup,ag.an]
 ·have h:i=l.length:=by simp at h;omega
  subst h
  refine SW.seq ?_
  simp only [List.take_length]
  refine SW.c7 [] mixed (by simp only [runs,bJ,bZ,bW,ev,fK,gM,eT,dc,List.lookup,Nat.reduceBEq,Nat.reduceAdd,Nat.reduceMul,Nat.zero_add,SV.cells,if_true,if_false,reduceIte,Bool.false_eq_true,bF,bn,bz,bA,cw,cB,bL,br,lk,List.filter,Nat.reduceBNe,bne_self_eq_false,iw,fJ,a_,dP,dQ,jh,ag.cells_one,BEq.rfl,beq_self_eq_true,Bool.true_or,Nat.reduceEqDiff,List.map_cons,List.map_nil,List.nil_append,List.cons_append,List.append_nil,Int.toNat_natCast,Nat.mul_one,Nat.add_zero,bM,bK,bD,ck,cI,bX,bE,Option.isSome_some,Option.isSome_none,Option.isNone_some,Option.isNone_none,Nat.zero_ne_one,Nat.one_ne_zero,Bool.and_false,Bool.and_true,List.drop_zero,ag.ak,ag.aq,ag.aB,Dt.cells_one,Dt.aq,Dt.eu,Dt.ew,Dt.aB,Dt.ak,Dt.ec,c9,bC,dR,dL,List.all_cons,List.all_nil,SV.aZ,Int.cast_ofNat_Int,Int.reduceBNe,Int.reduceBEq,Int.reduceLT,Int.reduceLE,Int.reduceGT,Int.reduceGE,bt,cN,cQ,Bool.not_true,Bool.not_false,Bool.or_false,Bool.or_true,Bool.false_or,Bool.or_self,ag.bO,ag.ey,ag.cL,ag.cM,ag.av,ag.ax,Dt.bO,Dt.ez,Dt.av,Dt.ax,List.all_append,ag.dX,Dt.fV,Bool.cond_true,Bool.cond_false];rfl) (by simp [-List.length_flatMap,-Int.natCast_add] <;> omega) (by rfl) ?_
  refine SW.ret ?_
  exact ⟨_,_,[(0,jY g)],by rfl,by simp [fJ],by simp [lk],⟨rfl,rfl⟩,rfl,rfl,by simp⟩
theorem F3 {g:Nat}{op:Nat→Nat→Nat}(hg:HA g op)(l:List ag)(hl:l.length<1000000000)(n k:Nat):bB Tryz.prog vector_all_api_Vector.f [.fn (.func vector_each_1.f) [] [.ptr n 0],C_ l] [(n,jY g)] k 0 (.agg (ag.all op l).cells) [(n,jY g)]:=
 SB.oW [n] (B2 hg l hl) (by simp) (by simp [lk]) k
theorem B3 (l:List ag)(hl:l.length<1000000000):Pure Tryz.prog vector_Merge.f [C_ l] (.agg (ag.all max l).cells):=by
 refine vector_Merge.enter rfl rfl (by simp) ?_
 dsimp only [vector_Merge.s,Co.M,Co.G,Co.J,Co.H,Co.N,Co.F,Co.C,Co.Z,Co.B,Co.b8,Co.aJ,Co.b_,Co.i6,Co.z8,Co.cn]
 refine SW.seq ?_
 refine SW.c7 [] mixed (by simp only [runs,bJ,bZ,bW,ev,fK,gM,eT,dc,List.lookup,Nat.reduceBEq,Nat.reduceAdd,Nat.reduceMul,Nat.zero_add,SV.cells,if_true,if_false,reduceIte,Bool.false_eq_true,bF,bn,bz,bA,cw,cB,bL,br,lk,List.filter,Nat.reduceBNe,bne_self_eq_false,iw,fJ,a_,dP,dQ,jh,ag.cells_one,BEq.rfl,beq_self_eq_true,Bool.true_or,Nat.reduceEqDiff,List.map_cons,List.map_nil,List.nil_append,List.cons_append,List.append_nil,Int.toNat_natCast,Nat.mul_one,Nat.add_zero,bM,bK,bD,ck,cI,bX,bE,Option.isSome_some,Option.isSome_none,Option.isNone_some,Option.isNone_none,Nat.zero_ne_one,Nat.one_ne_zero,Bool.and_false,Bool.and_true,List.drop_zero,ag.ak,ag.aq,ag.aB,Dt.cells_one,Dt.aq,Dt.eu,Dt.ew,Dt.aB,Dt.ak,Dt.ec,c9,bC,dR,dL,List.all_cons,List.all_nil,SV.aZ,Int.cast_ofNat_Int,Int.reduceBNe,Int.reduceBEq,Int.reduceLT,Int.reduceLE,Int.reduceGT,Int.reduceGE,bt,cN,cQ,Bool.not_true,Bool.not_false,Bool.or_false,Bool.or_true,Bool.false_or,Bool.or_self,ag.bO,ag.ey,ag.cL,ag.cM,ag.av,ag.ax,Dt.bO,Dt.ez,Dt.av,Dt.ax,List.all_append,ag.dX,Dt.fV,Bool.cond_true,Bool.cond_false];rfl) (by simp [-List.length_flatMap,-Int.natCast_add] <;> omega) (by rfl) ?_
 refine SW.seq ?_
 refine SW.c7 [.call [] (.fn (.func vector_each_1.f) [] [.ptr 1 0]) [(1,jY vector_Merge_1.f)] 1,.call [(1,jY vector_Merge_1.f)] (.agg (ag.all max l).cells) [(1,jY vector_Merge_1.f)] 0] mixed (by simp only [runs,bJ,bZ,bW,ev,fK,gM,eT,dc,List.lookup,Nat.reduceBEq,Nat.reduceAdd,Nat.reduceMul,Nat.zero_add,SV.cells,if_true,if_false,reduceIte,Bool.false_eq_true,bF,bn,bz,bA,cw,cB,bL,br,lk,List.filter,Nat.reduceBNe,bne_self_eq_false,iw,fJ,a_,dP,dQ,jh,ag.cells_one,BEq.rfl,beq_self_eq_true,Bool.true_or,Nat.reduceEqDiff,List.map_cons,List.map_nil,List.nil_append,List.cons_append,List.append_nil,Int.toNat_natCast,Nat.mul_one,Nat.add_zero,bM,bK,bD,ck,cI,bX,bE,Option.isSome_some,Option.isSome_none,Option.isNone_some,Option.isNone_none,Nat.zero_ne_one,Nat.one_ne_zero,Bool.and_false,Bool.and_true,List.drop_zero,ag.ak,ag.aq,ag.aB,Dt.cells_one,Dt.aq,Dt.eu,Dt.ew,Dt.aB,Dt.ak,Dt.ec,c9,bC,dR,dL,List.all_cons,List.all_nil,SV.aZ,Int.cast_ofNat_Int,Int.reduceBNe,Int.reduceBEq,Int.reduceLT,Int.reduceLE,Int.reduceGT,Int.reduceGE,bt,cN,cQ,Bool.not_true,Bool.not_false,Bool.or_false,Bool.or_true,Bool.false_or,Bool.or_self,ag.bO,ag.ey,ag.cL,ag.cM,ag.av,ag.ax,Dt.bO,Dt.ez,Dt.av,Dt.ax,List.all_append,ag.dX,Dt.fV,Bool.cond_true,Bool.cond_false];rfl) (by simp [-List.length_flatMap,-Int.natCast_add,lk,List.lookup,D2,F3 D0 l hl,lk] <;> omega) (by rfl) ?_
 refine SW.ret ?_
 exact ⟨_,_,[],by rfl,by simp [fJ],by simp,⟨rfl,rfl⟩,rfl,rfl,by simp⟩
end
section
theorem HN (d:Dt):Go.Sl.Pure Tryz.prog dot_May.f [.agg d.cells] (bl d.may):=by
 obtain ⟨r,n⟩:=d
 refine dot_May.enter rfl rfl (by simp) ?_
 dsimp only [dot_May.s,Co.M,Co.G,Co.J,Co.H,Co.N,Co.F,Co.C,Co.Z,Co.B,Co.b8,Co.aJ,Co.b_,Co.i6,Co.z8,Co.cn]
 refine SW.seq ?_
 refine SW.c7 [] mixed (by simp only [runs,bJ,bZ,bW,ev,fK,gM,eT,dc,List.lookup,Nat.reduceBEq,Nat.reduceAdd,Nat.reduceMul,Nat.zero_add,SV.cells,if_true,if_false,reduceIte,Bool.false_eq_true,bF,bn,bz,bA,cw,cB,bL,br,lk,List.filter,Nat.reduceBNe,bne_self_eq_false,iw,fJ,a_,dP,dQ,jh,ag.cells_one,BEq.rfl,beq_self_eq_true,Bool.true_or,Nat.reduceEqDiff,List.map_cons,List.map_nil,List.nil_append,List.cons_append,List.append_nil,Int.toNat_natCast,Nat.mul_one,Nat.add_zero,bM,bK,bD,ck,cI,bX,bE,Option.isSome_some,Option.isSome_none,Option.isNone_some,Option.isNone_none,Nat.zero_ne_one,Nat.one_ne_zero,Bool.and_false,Bool.and_true,List.drop_zero,ag.ak,ag.aq,ag.aB,Dt.cells_one,Dt.aq,Dt.eu,Dt.ew,Dt.aB,Dt.ak,Dt.ec,c9,bC,dR,dL,List.all_cons,List.all_nil,SV.aZ,Int.cast_ofNat_Int,Int.reduceBNe,Int.reduceBEq,Int.reduceLT,Int.reduceLE,Int.reduceGT,Int.reduceGE,bt,cN,cQ,Bool.not_true,Bool.not_false,Bool.or_false,Bool.or_true,Bool.false_or,Bool.or_self,ag.bO,ag.ey,ag.cL,ag.cM,ag.av,ag.ax,Dt.bO,Dt.ez,Dt.av,Dt.ax,List.all_append,ag.dX,Dt.fV,Bool.cond_true,Bool.cond_false];rfl) (by simp [-List.length_flatMap,-Int.natCast_add] <;> omega) (by rfl) ?_
 refine SW.seq ?_
 by_cases h:(r:Int)<8
 ·refine SW.c7 [] mixed (by simp only [runs,bJ,bZ,bW,ev,fK,gM,eT,dc,List.lookup,Nat.reduceBEq,Nat.reduceAdd,Nat.reduceMul,Nat.zero_add,SV.cells,if_true,if_false,reduceIte,Bool.false_eq_true,bF,bn,bz,bA,cw,cB,bL,br,lk,List.filter,Nat.reduceBNe,bne_self_eq_false,iw,fJ,a_,dP,dQ,jh,ag.cells_one,BEq.rfl,beq_self_eq_true,Bool.true_or,Nat.reduceEqDiff,List.map_cons,List.map_nil,List.nil_append,List.cons_append,List.append_nil,Int.toNat_natCast,Nat.mul_one,Nat.add_zero,bM,bK,bD,ck,cI,bX,bE,Option.isSome_some,Option.isSome_none,Option.isNone_some,Option.isNone_none,Nat.zero_ne_one,Nat.one_ne_zero,Bool.and_false,Bool.and_true,List.drop_zero,ag.ak,ag.aq,ag.aB,Dt.cells_one,Dt.aq,Dt.eu,Dt.ew,Dt.aB,Dt.ak,Dt.ec,c9,bC,dR,dL,List.all_cons,List.all_nil,SV.aZ,Int.cast_ofNat_Int,Int.reduceBNe,Int.reduceBEq,Int.reduceLT,Int.reduceLE,Int.reduceGT,Int.reduceGE,bt,cN,cQ,Bool.not_true,Bool.not_false,Bool.or_false,Bool.or_true,Bool.false_or,Bool.or_self,ag.bO,ag.ey,ag.cL,ag.cM,ag.av,ag.ax,Dt.bO,Dt.ez,Dt.av,Dt.ax,List.all_append,ag.dX,Dt.fV,Bool.cond_true,Bool.cond_false,Dt.cells,h,decide_true,List.getElem?_cons_zero,List.getElem?_cons_succ];rfl) (by simp [-List.length_flatMap,-Int.natCast_add] <;> omega) (by rfl) ?_
  refine SW.ret ?_
  refine kY (by rfl) (by simp [fJ]) ?_ rfl
  have:r<8:=by omega
  simp [gI,Dt.may,this]
 ·refine SW.c7 [] mixed (by simp only [runs,bJ,bZ,bW,ev,fK,gM,eT,dc,List.lookup,Nat.reduceBEq,Nat.reduceAdd,Nat.reduceMul,Nat.zero_add,SV.cells,if_true,if_false,reduceIte,Bool.false_eq_true,bF,bn,bz,bA,cw,cB,bL,br,lk,List.filter,Nat.reduceBNe,bne_self_eq_false,iw,fJ,a_,dP,dQ,jh,ag.cells_one,BEq.rfl,beq_self_eq_true,Bool.true_or,Nat.reduceEqDiff,List.map_cons,List.map_nil,List.nil_append,List.cons_append,List.append_nil,Int.toNat_natCast,Nat.mul_one,Nat.add_zero,bM,bK,bD,ck,cI,bX,bE,Option.isSome_some,Option.isSome_none,Option.isNone_some,Option.isNone_none,Nat.zero_ne_one,Nat.one_ne_zero,Bool.and_false,Bool.and_true,List.drop_zero,ag.ak,ag.aq,ag.aB,Dt.cells_one,Dt.aq,Dt.eu,Dt.ew,Dt.aB,Dt.ak,Dt.ec,c9,bC,dR,dL,List.all_cons,List.all_nil,SV.aZ,Int.cast_ofNat_Int,Int.reduceBNe,Int.reduceBEq,Int.reduceLT,Int.reduceLE,Int.reduceGT,Int.reduceGE,bt,cN,cQ,Bool.not_true,Bool.not_false,Bool.or_false,Bool.or_true,Bool.false_or,Bool.or_self,ag.bO,ag.ey,ag.cL,ag.cM,ag.av,ag.ax,Dt.bO,Dt.ez,Dt.av,Dt.ax,List.all_append,ag.dX,Dt.fV,Bool.cond_true,Bool.cond_false,Dt.cells,h,decide_false,List.getElem?_cons_zero,List.getElem?_cons_succ];rfl) (by simp [-List.length_flatMap,-Int.natCast_add] <;> omega) (by rfl) ?_
  refine SW.ret ?_
  refine kY (by rfl) (by simp [fJ]) ?_ rfl
  have: ¬ r<8:=by omega
  simp [gI,Dt.may,this]
theorem zl (a b:ag)(k:Nat):bB Tryz.prog vector_Merge.f [.d (.sl 2 (a.ds++b.ds))] [] k 0 (.agg (ag.zip max a b).cells) []:=(B3 [a,b] (by simp)).sc rfl k
theorem B4 (a b:ag):Go.Sl.Pure Tryz.prog vector_Above.f [.agg a.cells,.agg b.cells] (bl (a.above b)):=by
 refine vector_Above.enter rfl rfl (by simp) ?_
 dsimp only [vector_Above.s,Co.M,Co.G,Co.J,Co.H,Co.N,Co.F,Co.C,Co.Z,Co.B,Co.b8,Co.aJ,Co.b_,Co.i6,Co.z8,Co.cn]
 refine SW.seq ?_
 refine SW.c7 [] mixed (by simp only [runs,bJ,bZ,bW,ev,fK,gM,eT,dc,List.lookup,Nat.reduceBEq,Nat.reduceAdd,Nat.reduceMul,Nat.zero_add,SV.cells,if_true,if_false,reduceIte,Bool.false_eq_true,bF,bn,bz,bA,cw,cB,bL,br,lk,List.filter,Nat.reduceBNe,bne_self_eq_false,iw,fJ,a_,dP,dQ,jh,ag.cells_one,BEq.rfl,beq_self_eq_true,Bool.true_or,Nat.reduceEqDiff,List.map_cons,List.map_nil,List.nil_append,List.cons_append,List.append_nil,Int.toNat_natCast,Nat.mul_one,Nat.add_zero,bM,bK,bD,ck,cI,bX,bE,Option.isSome_some,Option.isSome_none,Option.isNone_some,Option.isNone_none,Nat.zero_ne_one,Nat.one_ne_zero,Bool.and_false,Bool.and_true,List.drop_zero,ag.ak,ag.aq,ag.aB,Dt.cells_one,Dt.aq,Dt.eu,Dt.ew,Dt.aB,Dt.ak,Dt.ec,c9,bC,dR,dL,List.all_cons,List.all_nil,SV.aZ,Int.cast_ofNat_Int,Int.reduceBNe,Int.reduceBEq,Int.reduceLT,Int.reduceLE,Int.reduceGT,Int.reduceGE,bt,cN,cQ,Bool.not_true,Bool.not_false,Bool.or_false,Bool.or_true,Bool.false_or,Bool.or_self,ag.bO,ag.ey,ag.cL,ag.cM,ag.av,ag.ax,Dt.bO,Dt.ez,Dt.av,Dt.ax,List.all_append,ag.dX,Dt.fV,Bool.cond_true,Bool.cond_false];rfl) (by simp [-List.length_flatMap,-Int.natCast_add] <;> omega) (by rfl) ?_
 refine SW.seq ?_
 refine SW.c7 [.call [] (.agg (ag.zip max a b).cells) [] 0] mixed (by simp only [runs,bJ,bZ,bW,ev,fK,gM,eT,dc,List.lookup,Nat.reduceBEq,Nat.reduceAdd,Nat.reduceMul,Nat.zero_add,SV.cells,if_true,if_false,reduceIte,Bool.false_eq_true,bF,bn,bz,bA,cw,cB,bL,br,lk,List.filter,Nat.reduceBNe,bne_self_eq_false,iw,fJ,a_,dP,dQ,jh,ag.cells_one,BEq.rfl,beq_self_eq_true,Bool.true_or,Nat.reduceEqDiff,List.map_cons,List.map_nil,List.nil_append,List.cons_append,List.append_nil,Int.toNat_natCast,Nat.mul_one,Nat.add_zero,bM,bK,bD,ck,cI,bX,bE,Option.isSome_some,Option.isSome_none,Option.isNone_some,Option.isNone_none,Nat.zero_ne_one,Nat.one_ne_zero,Bool.and_false,Bool.and_true,List.drop_zero,ag.ak,ag.aq,ag.aB,Dt.cells_one,Dt.aq,Dt.eu,Dt.ew,Dt.aB,Dt.ak,Dt.ec,c9,bC,dR,dL,List.all_cons,List.all_nil,SV.aZ,Int.cast_ofNat_Int,Int.reduceBNe,Int.reduceBEq,Int.reduceLT,Int.reduceLE,Int.reduceGT,Int.reduceGE,bt,cN,cQ,Bool.not_true,Bool.not_false,Bool.or_false,Bool.or_true,Bool.false_or,Bool.or_self,ag.bO,ag.ey,ag.cL,ag.cM,ag.av,ag.ax,Dt.bO,Dt.ez,Dt.av,Dt.ax,List.all_append,ag.dX,Dt.fV,Bool.cond_true,Bool.cond_false];rfl) (by simp [-List.length_flatMap,-Int.natCast_add,lk,List.lookup,zl] <;> omega) (by rfl) ?_
 refine SW.ret ?_
 refine kY (by rfl) (by simp [fJ]) ?_ rfl
 simp [gI,ag.uN]
theorem oK (a b:ag)(k:Nat):bB Tryz.prog vector_Above.f [.agg a.cells,.agg b.cells] [] k 0 (bl (a.above b)) []:=(B4 a b).sc rfl k
theorem B5 (v:ag)(hv:v.wf):Go.Sl.Pure Tryz.prog vector_Count.f [.agg v.cells] (u64 v.count):=by
 refine vector_Count.enter rfl rfl (by simp) ?_
 dsimp only [vector_Count.s,Co.M,Co.G,Co.J,Co.H,Co.N,Co.F,Co.C,Co.Z,Co.B,Co.b8,Co.aJ,Co.b_,Co.i6,Co.z8,Co.cn]
 refine SW.seq ?_
 refine SW.c7 [] mixed (by simp only [runs,bJ,bZ,bW,ev,fK,gM,eT,dc,List.lookup,Nat.reduceBEq,Nat.reduceAdd,Nat.reduceMul,Nat.zero_add,SV.cells,if_true,if_false,reduceIte,Bool.false_eq_true,bF,bn,bz,bA,cw,cB,bL,br,lk,List.filter,Nat.reduceBNe,bne_self_eq_false,iw,fJ,a_,dP,dQ,jh,ag.cells_one,BEq.rfl,beq_self_eq_true,Bool.true_or,Nat.reduceEqDiff,List.map_cons,List.map_nil,List.nil_append,List.cons_append,List.append_nil,Int.toNat_natCast,Nat.mul_one,Nat.add_zero,bM,bK,bD,ck,cI,bX,bE,Option.isSome_some,Option.isSome_none,Option.isNone_some,Option.isNone_none,Nat.zero_ne_one,Nat.one_ne_zero,Bool.and_false,Bool.and_true,List.drop_zero,ag.ak,ag.aq,ag.aB,Dt.cells_one,Dt.aq,Dt.eu,Dt.ew,Dt.aB,Dt.ak,Dt.ec,c9,bC,dR,dL,List.all_cons,List.all_nil,SV.aZ,Int.cast_ofNat_Int,Int.reduceBNe,Int.reduceBEq,Int.reduceLT,Int.reduceLE,Int.reduceGT,Int.reduceGE,bt,cN,cQ,Bool.not_true,Bool.not_false,Bool.or_false,Bool.or_true,Bool.false_or,Bool.or_self,ag.bO,ag.ey,ag.cL,ag.cM,ag.av,ag.ax,Dt.bO,Dt.ez,Dt.av,Dt.ax,List.all_append,ag.dX,Dt.fV,Bool.cond_true,Bool.cond_false];rfl) (by simp [-List.length_flatMap,-Int.natCast_add] <;> omega) (by rfl) ?_
 refine SW.seq ?_
 refine SW.c7 [] mixed (by simp only [runs,bJ,bZ,bW,ev,fK,gM,eT,dc,List.lookup,Nat.reduceBEq,Nat.reduceAdd,Nat.reduceMul,Nat.zero_add,SV.cells,if_true,if_false,reduceIte,Bool.false_eq_true,bF,bn,bz,bA,cw,cB,bL,br,lk,List.filter,Nat.reduceBNe,bne_self_eq_false,iw,fJ,a_,dP,dQ,jh,ag.cells_one,BEq.rfl,beq_self_eq_true,Bool.true_or,Nat.reduceEqDiff,List.map_cons,List.map_nil,List.nil_append,List.cons_append,List.append_nil,Int.toNat_natCast,Nat.mul_one,Nat.add_zero,bM,bK,bD,ck,cI,bX,bE,Option.isSome_some,Option.isSome_none,Option.isNone_some,Option.isNone_none,Nat.zero_ne_one,Nat.one_ne_zero,Bool.and_false,Bool.and_true,List.drop_zero,ag.ak,ag.aq,ag.aB,Dt.cells_one,Dt.aq,Dt.eu,Dt.ew,Dt.aB,Dt.ak,Dt.ec,c9,bC,dR,dL,List.all_cons,List.all_nil,SV.aZ,Int.cast_ofNat_Int,Int.reduceBNe,Int.reduceBEq,Int.reduceLT,Int.reduceLE,Int.reduceGT,Int.reduceGE,bt,cN,cQ,Bool.not_true,Bool.not_false,Bool.or_false,Bool.or_true,Bool.false_or,Bool.or_self,ag.bO,ag.ey,ag.cL,ag.cM,ag.av,ag.ax,Dt.bO,Dt.ez,Dt.av,Dt.ax,List.all_append,ag.dX,Dt.fV,Bool.cond_true,Bool.cond_false];rfl) (by simp [-List.length_flatMap,-Int.natCast_add] <;> omega) (by rfl) ?_
 refine SW.seq ?_
 refine SW.seq ?_
 refine SW.c7 [] mixed (by simp only [runs,bJ,bZ,bW,ev,fK,gM,eT,dc,List.lookup,Nat.reduceBEq,Nat.reduceAdd,Nat.reduceMul,Nat.zero_add,SV.cells,if_true,if_false,reduceIte,Bool.false_eq_true,bF,bn,bz,bA,cw,cB,bL,br,lk,List.filter,Nat.reduceBNe,bne_self_eq_false,iw,fJ,a_,dP,dQ,jh,ag.cells_one,BEq.rfl,beq_self_eq_true,Bool.true_or,Nat.reduceEqDiff,List.map_cons,List.map_nil,List.nil_append,List.cons_append,List.append_nil,Int.toNat_natCast,Nat.mul_one,Nat.add_zero,bM,bK,bD,ck,cI,bX,bE,Option.isSome_some,Option.isSome_none,Option.isNone_some,Option.isNone_none,Nat.zero_ne_one,Nat.one_ne_zero,Bool.and_false,Bool.and_true,List.drop_zero,ag.ak,ag.aq,ag.aB,Dt.cells_one,Dt.aq,Dt.eu,Dt.ew,Dt.aB,Dt.ak,Dt.ec,c9,bC,dR,dL,List.all_cons,List.all_nil,SV.aZ,Int.cast_ofNat_Int,Int.reduceBNe,Int.reduceBEq,Int.reduceLT,Int.reduceLE,Int.reduceGT,Int.reduceGE,bt,cN,cQ,Bool.not_true,Bool.not_false,Bool.or_false,Bool.or_true,Bool.false_or,Bool.or_self,ag.bO,ag.ey,ag.cL,ag.cM,ag.av,ag.ax,Dt.bO,Dt.ez,Dt.av,Dt.ax,List.all_append,ag.dX,Dt.fV,Bool.cond_true,Bool.cond_false];rfl) (by simp [-List.length_flatMap,-Int.natCast_add] <;> omega) (by rfl) ?_
 refine SW.block ?_
 refine SW.Ax (α:={i:Nat // i≤8}) (fun i=>⟨[(7,i64 i.1),(6,.agg v.cells),(3,u64 (v.sum i.1))],[],1⟩) (fun i=>8 - i.1) ⟨0,by omega⟩ (by simp only [ag.sum];simp [Go.Sl.Sub,tH,C7,SV.ok,Ob.ok,SV.aF,lk,List.lookup,ag.an]) ?_
 rintro ⟨i,hi⟩
 refine SW.seq ?_
 refine SW.c7 [] mixed (by simp only [runs,bJ,bZ,bW,ev,fK,gM,eT,dc,List.lookup,Nat.reduceBEq,Nat.reduceAdd,Nat.reduceMul,Nat.zero_add,SV.cells,if_true,if_false,reduceIte,Bool.false_eq_true,bF,bn,bz,bA,cw,cB,bL,br,lk,List.filter,Nat.reduceBNe,bne_self_eq_false,iw,fJ,a_,dP,dQ,jh,ag.cells_one,BEq.rfl,beq_self_eq_true,Bool.true_or,Nat.reduceEqDiff,List.map_cons,List.map_nil,List.nil_append,List.cons_append,List.append_nil,Int.toNat_natCast,Nat.mul_one,Nat.add_zero,bM,bK,bD,ck,cI,bX,bE,Option.isSome_some,Option.isSome_none,Option.isNone_some,Option.isNone_none,Nat.zero_ne_one,Nat.one_ne_zero,Bool.and_false,Bool.and_true,List.drop_zero,ag.ak,ag.aq,ag.aB,Dt.cells_one,Dt.aq,Dt.eu,Dt.ew,Dt.aB,Dt.ak,Dt.ec,c9,bC,dR,dL,List.all_cons,List.all_nil,SV.aZ,Int.cast_ofNat_Int,Int.reduceBNe,Int.reduceBEq,Int.reduceLT,Int.reduceLE,Int.reduceGT,Int.reduceGE,bt,cN,cQ,Bool.not_true,Bool.not_false,Bool.or_false,Bool.or_true,Bool.false_or,Bool.or_self,ag.bO,ag.ey,ag.cL,ag.cM,ag.av,ag.ax,Dt.bO,Dt.ez,Dt.av,Dt.ax,List.all_append,ag.dX,Dt.fV,Bool.cond_true,Bool.cond_false];rfl) (by simp [-List.length_flatMap,-Int.natCast_add] <;> omega) (by rfl) ?_
 refine SW.seq ?_
 refine SW.cond rfl (fun h=>SW.skip ?_) (fun h=>SW.exit ?_)
 ·have h:i<8:=by simp at h;omega
  have b1:=v.AD hv i hi
  have b2:=hv i h
  refine SW.seq ?_
  refine SW.block ?_
  refine SW.seq ?_
  refine SW.c7 [] mixed (by simp only [runs,bJ,bZ,bW,ev,fK,gM,eT,dc,List.lookup,Nat.reduceBEq,Nat.reduceAdd,Nat.reduceMul,Nat.zero_add,SV.cells,if_true,if_false,reduceIte,Bool.false_eq_true,bF,bn,bz,bA,cw,cB,bL,br,lk,List.filter,Nat.reduceBNe,bne_self_eq_false,iw,fJ,a_,dP,dQ,jh,ag.cells_one,BEq.rfl,beq_self_eq_true,Bool.true_or,Nat.reduceEqDiff,List.map_cons,List.map_nil,List.nil_append,List.cons_append,List.append_nil,Int.toNat_natCast,Nat.mul_one,Nat.add_zero,bM,bK,bD,ck,cI,bX,bE,Option.isSome_some,Option.isSome_none,Option.isNone_some,Option.isNone_none,Nat.zero_ne_one,Nat.one_ne_zero,Bool.and_false,Bool.and_true,List.drop_zero,ag.ak,ag.aq,ag.aB,Dt.cells_one,Dt.aq,Dt.eu,Dt.ew,Dt.aB,Dt.ak,Dt.ec,c9,bC,dR,dL,List.all_cons,List.all_nil,SV.aZ,Int.cast_ofNat_Int,Int.reduceBNe,Int.reduceBEq,Int.reduceLT,Int.reduceLE,Int.reduceGT,Int.reduceGE,bt,cN,cQ,Bool.not_true,Bool.not_false,Bool.or_false,Bool.or_true,Bool.false_or,Bool.or_self,ag.bO,ag.ey,ag.cL,ag.cM,ag.av,ag.ax,Dt.bO,Dt.ez,Dt.av,Dt.ax,List.all_append,ag.dX,Dt.fV,Bool.cond_true,Bool.cond_false,v.er h];rfl) (by simp [-List.length_flatMap,-Int.natCast_add] <;> omega) (by rfl) ?_
  have e:IntKind.u64.wrap ((v.sum i:Int)+v.get i)=((v.sum (i+1):Nat):Int):=wrap_u64 (v.sum i+v.get i) (by omega)
  refine SW.c7 [] mixed (by simp only [runs,bJ,bZ,bW,ev,fK,gM,eT,dc,List.lookup,Nat.reduceBEq,Nat.reduceAdd,Nat.reduceMul,Nat.zero_add,SV.cells,if_true,if_false,reduceIte,Bool.false_eq_true,bF,bn,bz,bA,cw,cB,bL,br,lk,List.filter,Nat.reduceBNe,bne_self_eq_false,iw,fJ,a_,dP,dQ,jh,ag.cells_one,BEq.rfl,beq_self_eq_true,Bool.true_or,Nat.reduceEqDiff,List.map_cons,List.map_nil,List.nil_append,List.cons_append,List.append_nil,Int.toNat_natCast,Nat.mul_one,Nat.add_zero,bM,bK,bD,ck,cI,bX,bE,Option.isSome_some,Option.isSome_none,Option.isNone_some,Option.isNone_none,Nat.zero_ne_one,Nat.one_ne_zero,Bool.and_false,Bool.and_true,List.drop_zero,ag.ak,ag.aq,ag.aB,Dt.cells_one,Dt.aq,Dt.eu,Dt.ew,Dt.aB,Dt.ak,Dt.ec,c9,bC,dR,dL,List.all_cons,List.all_nil,SV.aZ,Int.cast_ofNat_Int,Int.reduceBNe,Int.reduceBEq,Int.reduceLT,Int.reduceLE,Int.reduceGT,Int.reduceGE,bt,cN,cQ,Bool.not_true,Bool.not_false,Bool.or_false,Bool.or_true,Bool.false_or,Bool.or_self,ag.bO,ag.ey,ag.cL,ag.cM,ag.av,ag.ax,Dt.bO,Dt.ez,Dt.av,Dt.ax,List.all_append,ag.dX,Dt.fV,Bool.cond_true,Bool.cond_false,wrap_u64 (v.get i) (by omega),e];rfl) (by simp [-List.length_flatMap,-Int.natCast_add] <;> omega) (by rfl) ?_
  refine SW.c7 [] mixed (by simp only [runs,bJ,bZ,bW,ev,fK,gM,eT,dc,List.lookup,Nat.reduceBEq,Nat.reduceAdd,Nat.reduceMul,Nat.zero_add,SV.cells,if_true,if_false,reduceIte,Bool.false_eq_true,bF,bn,bz,bA,cw,cB,bL,br,lk,List.filter,Nat.reduceBNe,bne_self_eq_false,iw,fJ,a_,dP,dQ,jh,ag.cells_one,BEq.rfl,beq_self_eq_true,Bool.true_or,Nat.reduceEqDiff,List.map_cons,List.map_nil,List.nil_append,List.cons_append,List.append_nil,Int.toNat_natCast,Nat.mul_one,Nat.add_zero,bM,bK,bD,ck,cI,bX,bE,Option.isSome_some,Option.isSome_none,Option.isNone_some,Option.isNone_none,Nat.zero_ne_one,Nat.one_ne_zero,Bool.and_false,Bool.and_true,List.drop_zero,ag.ak,ag.aq,ag.aB,Dt.cells_one,Dt.aq,Dt.eu,Dt.ew,Dt.aB,Dt.ak,Dt.ec,c9,bC,dR,dL,List.all_cons,List.all_nil,SV.aZ,Int.cast_ofNat_Int,Int.reduceBNe,Int.reduceBEq,Int.reduceLT,Int.reduceLE,Int.reduceGT,Int.reduceGE,bt,cN,cQ,Bool.not_true,Bool.not_false,Bool.or_false,Bool.or_true,Bool.false_or,Bool.or_self,ag.bO,ag.ey,ag.cL,ag.cM,ag.av,ag.ax,Dt.bO,Dt.ez,Dt.av,Dt.ax,List.all_append,ag.dX,Dt.fV,Bool.cond_true,Bool.cond_false,od i (by omega)];rfl) (by simp [-List.length_flatMap,-Int.natCast_add] <;> omega) (by rfl) ?_
  exact ⟨⟨i+1,by omega⟩,by simp;omega,by simp [Go.Sl.Sub,tH,C7,SV.ok,Ob.ok,SV.aF,lk,List.lookup,ag.an]⟩
 ·have h:i=8:=by simp at h;omega
  subst h
  refine SW.seq ?_
  refine SW.c7 [] mixed (by simp only [runs,bJ,bZ,bW,ev,fK,gM,eT,dc,List.lookup,Nat.reduceBEq,Nat.reduceAdd,Nat.reduceMul,Nat.zero_add,SV.cells,if_true,if_false,reduceIte,Bool.false_eq_true,bF,bn,bz,bA,cw,cB,bL,br,lk,List.filter,Nat.reduceBNe,bne_self_eq_false,iw,fJ,a_,dP,dQ,jh,ag.cells_one,BEq.rfl,beq_self_eq_true,Bool.true_or,Nat.reduceEqDiff,List.map_cons,List.map_nil,List.nil_append,List.cons_append,List.append_nil,Int.toNat_natCast,Nat.mul_one,Nat.add_zero,bM,bK,bD,ck,cI,bX,bE,Option.isSome_some,Option.isSome_none,Option.isNone_some,Option.isNone_none,Nat.zero_ne_one,Nat.one_ne_zero,Bool.and_false,Bool.and_true,List.drop_zero,ag.ak,ag.aq,ag.aB,Dt.cells_one,Dt.aq,Dt.eu,Dt.ew,Dt.aB,Dt.ak,Dt.ec,c9,bC,dR,dL,List.all_cons,List.all_nil,SV.aZ,Int.cast_ofNat_Int,Int.reduceBNe,Int.reduceBEq,Int.reduceLT,Int.reduceLE,Int.reduceGT,Int.reduceGE,bt,cN,cQ,Bool.not_true,Bool.not_false,Bool.or_false,Bool.or_true,Bool.false_or,Bool.or_self,ag.bO,ag.ey,ag.cL,ag.cM,ag.av,ag.ax,Dt.bO,Dt.ez,Dt.av,Dt.ax,List.all_append,ag.dX,Dt.fV,Bool.cond_true,Bool.cond_false];rfl) (by simp [-List.length_flatMap,-Int.natCast_add] <;> omega) (by rfl) ?_
  refine SW.ret ?_
  refine kY (by rfl) (by simp [fJ]) ?_ rfl
  simp [gI,ag.Da]
theorem vH (v:ag)(hv:v.wf)(k:Nat):bB Tryz.prog vector_Count.f [.agg v.cells] [] k 0 (u64 v.count) []:=(B5 v hv).sc rfl k
end
end Go.Proofs.YtnakpdoioammhaaGreatDoor
