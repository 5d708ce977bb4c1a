/-
 Operations by dots: the iterator over a map's dots.
-/
import Derived.Test.YtaelhkkjgfobhaaGreatK6
import Derived.Test.YtaelhkkjgfobhaaGreatKE
import Derived.Test.YtaelhkkjgfobhaaGreatKJ
import Derived.Test.YtaelhkkjgfobhaaGreatKM
set_option linter.unusedSectionVars false
set_option linter.unusedVariables false
set_option linter.unusedSimpArgs false
namespace Go.Proofs.YtaelhkkjgfobhaaGreat
open Go.Sl Go.Proofs
section
attribute [local irreducible] SW RW aM SC ak au
structure DL {σ:Type}(Fh:σ→Hp)(Step:σ→Dt→σ→Prop)(go:σ→Bool)(aX b m k:Nat)(L:(MM Dt ag))(s0 s:σ)(xs:(MM Dt ag))(kk:Nat):Prop where
 p1:gV Step s0 (MM.keys xs) s
 p2:go s=true
 p3:∀ x,x∈xs→x∈L
 p4:(xs.map (·.1)).Nodup
 p5:k+1≤kk
 p6:kk≤k+1+xs.length*(1+aX)
 p7:(Fh s).ok (fun n=>decide (n<kk))=true
 p8:lk (Fh s) b=none
 p9:lk (Fh s) m=none
 A8:lk (Fh s) k=none
set_option maxHeartbeats 1000000 in
theorem Ba {σ:Type}{Fh:σ→Hp}{Step:σ→Dt→σ→Prop}{go:σ→Bool}{aX y b m k c:Nat}{L:(MM Dt ag)}(hwf:MM.wf L c)(s0:σ)(hy:nR Tryz.prog y (fun x:Dt=> .agg x.cells) aX Fh Step go s0 L.length)(h0:(Fh s0).ok (fun n=>decide (n<k))=true)
  (hb:b<k) (hm:m<k) (JQ:b≠m) (hdb:lk (Fh s0) b=none) (JR:lk (Fh s0) m=none) (wV:go s0=true):
  SB Tryz.prog maps_Keys_map_api_Dot_api_Op_api_Dot_api_Op_1.f [.yl y,.ptr b 0] ((b,.box 107 [.mp m])::(m,.map (an Dt.cells ov L) c)::Fh s0) k (1+L.length*(1+aX))
   fun r F=>r= .dM []∧∃ (xs:(MM Dt ag)) (s':σ),gV Step s0 (MM.keys xs) s'∧(∀ x,x∈xs→x∈L)∧(xs.map (·.1)).Nodup∧(go s'=true→∀ x,x∈L→x∈xs)∧(lk (Fh s') b=none∧lk (Fh s') m=none)∧F=(b,.box 107 [.mp m])::(m,.map (an Dt.cells ov L) c)::Fh s':=by
 have hyk:y<k:=by
  obtain ⟨ob,ho⟩:=Option.ne_none_iff_exists'.1 (hy.pK s0)
  simpa using (Hp.dH h0 ho).1
 refine maps_Keys_map_api_Dot_api_Op_api_Dot_api_Op_1.enter (by simp [SV.ok,SV.ay];omega) (by simp only [Hp.ok,List.all_cons,Ob.ok,SV.ay,SV.ok,bq,Bool.and_true,Bool.and_eq_true,decide_eq_true_eq];exact ⟨⟨hb,hm⟩,hm,h0⟩) (by simp) ?_
 dsimp only [maps_Keys_map_api_Dot_api_Op_api_Dot_api_Op_1.s,Co.M,Co.G,Co.J,Co.H,Co.N,Co.F,Co.C,Co.Z,Co.B,Co.b8,Co.aB,Co.bL,Co.i6,Co.z8,Co.bU]
 have f1:=bA (show m≠b by omega)
 have f2:=bA (show k≠b by omega)
 have f3:=bA (show k≠m by omega)
 have f4:List.lookup k (Fh s0)=none:=by
  cases hh:lk (Fh s0) k with
  | none=>exact hh
  | some ob=>have:=(Hp.dH h0 hh).1;simp at this
 refine SW.seq ?_
 refine SW.g0 [0,1,3,5,7,13] mixed (And.intro (f1) (And.intro (f2) (And.intro (f3) (f4)))) ?_
 refine SW.block (SW.pL (es:=fun _=>an Dt.cells ov L) (c:=fun _=>c) (s7:=fun _=>k) (nm:=fun _=>m) (since:=fun _=>c) (zF:=fun _=>c)
  (α:={i:σ×(MM Dt ag)×Nat // DL Fh Step go aX b m k L s0 i.1 i.2.1 i.2.2})
  (fun i=>⟨[(5,.it k),(0,.yl y),(1,.ptr b 0)],(k,.iter (some m) c (i.1.2.1.map (·.1)) c)::(b,.box 107 [.mp m])::(m,.map (an Dt.cells ov L) c)::Fh i.1.1,i.1.2.2⟩)
  (fun i=>jq (an Dt.cells ov L) (i.1.2.1.map (·.1))) ⟨(s0,[],k+1),⟨.nil,wV,by simp,by simp,by simp,by simp,Hp.bE (by simp) h0,hdb,JR,f4⟩⟩ id (seen:=fun i=>i.1.2.1.map (·.1)) ?_ (fun i=>by simp [List.lookup]) (fun i=>by simp [aa]) (fun i=> ?_) (fun i=>by omega) (fun i e he=> ?_) (fun i=>Nat.le_refl _) (fun i hall=> ?_) (fun i e he hs=> ?_))
 ·refine aJ.same (by simp) (by simp [aY,kA,List.lookup,SV.aC,SV.ok];omega) ?_ ?_
  ·simp only [Hp.ok,List.all_cons,Ob.ok,SV.ay,SV.ok,bq,Bool.and_true,Bool.and_eq_true,decide_eq_true_eq]
   exact ⟨⟨by omega,by omega⟩,⟨by omega,by omega⟩,by omega,Hp.bE (by simp) h0⟩
  ·intro x hx
   simp only [List.mem_cons] at hx
   rcases hx with rfl | rfl | rfl | hx
   ·simp [aa]
   ·simp [aa,f1,f2,f3]
   ·simp [aa,f1,f2,f3]
   ·have:=hy.nd s0 x hx
    have h1:x.1≠k:=fun e=>by rw [e] at this;rw [show lk (Fh s0) k=none from f4] at this;cases this
    have h2:x.1≠b:=fun e=>by rw [e,hdb] at this;cases this
    have h3:x.1≠m:=fun e=>by rw [e,JR] at this;cases this
    simp [aa,h1,h2,h3,this]
 ·simp [aa,f1,f2,f3]
 ·obtain ⟨x,hx,rfl⟩:=eY he
  exact hwf.old x hx
 ·obtain ⟨⟨s,xs,kk⟩,hi⟩:=i
  have hi:DL Fh Step go aX b m k L s0 s xs kk:=hi
  have hi':=hi
  obtain ⟨p1,p2,p3,p4,p5,p6,p7,p8,p9,A8⟩:=hi'
  dsimp only at*
  have hsub:xs.length≤L.length:=by
   have:=p4.length_le_of_subset (l₂:=L.map (·.1)) (fun t ht=>by
    obtain ⟨x,hx,rfl⟩:=List.mem_map.1 ht
    exact List.mem_map.2 ⟨x,p3 x hx,rfl⟩)
   simpa using this
  have hmul:xs.length*(1+aX)≤L.length*(1+aX):=Nat.mul_le_mul_right _ hsub
  have hhp:∀ kx,kk≤kx→Hp.ok (fun n=>decide (n<kx)) ((b,Ob.box 107 [.mp m])::(m,.map (an Dt.cells ov L) c)::Fh s)=true:=fun kx hkx=>by
   simp only [Hp.ok,List.all_cons,Ob.ok,SV.ay,SV.ok,bq,Bool.and_true,Bool.and_eq_true,decide_eq_true_eq]
   exact ⟨⟨by omega,by omega⟩,by omega,Hp.bE hkx p7⟩
  refine ⟨⟨[],(b,.box 107 [.mp m])::(m,.map (an Dt.cells ov L) c)::Fh s,k+(1+L.length*(1+aX))⟩,id,aJ.same (Nat.le_add_right _ _) trivial (hhp _ (by show kk≤k+(1+L.length*(1+aX));omega)) ?_,?_⟩
  ·intro x hx
   simp only [List.mem_cons] at hx
   rcases hx with rfl | rfl | hx
   ·simp [aa,f1,f2,f3]
   ·simp [aa,f1,f2,f3]
   ·have:=hy.nd s x hx
    have h1:x.1≠k:=fun e=>by rw [e,A8] at this;cases this
    have h2:x.1≠b:=fun e=>by rw [e,p8] at this;cases this
    have h3:x.1≠m:=fun e=>by rw [e,p9] at this;cases this
    simp [aa,h1,h2,h3,this]
  ·rw [if_pos rfl]
   refine End.mk ((b,.box 107 [.mp m])::(m,.map (an Dt.cells ov L) c)::Fh s) (h3:=fun _ _ h=>h) (h4:=⟨rfl,xs,s,p1,p3,p4,fun _ x hx=> ?_,⟨p8,p9⟩,rfl⟩) (h6:=hhp _ (by omega)) (h7:=Nat.le_refl _)
   have:=hall _ (List.mem_map.2 ⟨x,hx,rfl⟩)
   simp only [List.contains_iff_mem] at this
   obtain ⟨z,hz,e⟩:=List.mem_map.1 this
   have:z=x:=MM.sX hwf.times (p3 z hz) hx e
   rw [← this];exact hz
 ·obtain ⟨⟨s,xs,kk⟩,hi⟩:=i
  have hi:DL Fh Step go aX b m k L s0 s xs kk:=hi
  have hi':=hi
  obtain ⟨p1,p2,p3,p4,p5,p6,p7,p8,p9,A8⟩:=hi'
  dsimp only at*
  obtain ⟨x,hx,rfl⟩:=eY he
  dsimp only at hs
  have g1:=bA (show kk≠k by omega)
  have g2:=bA (show kk≠b by omega)
  have g3:=bA (show kk≠m by omega)
  have g4:List.lookup kk (Fh s)=none:=Hp.out p7 (Nat.le_refl _)
  have g5:(xs.map (·.1)++[x.1]).getLast? =some x.1:=by simp
  have g6:=kU (kc:=Dt.cells) (vs:=ov) hwf.times hx
  rw [jG]
  dsimp only
  refine SW.block (SW.seq ?_)
  refine SW.g0 [0,1,3,5,7,13] mixed (And.intro (f1) (And.intro (f2) (And.intro (f3) (And.intro (g1) (And.intro (g2) (And.intro (g3) (And.intro (g4) (And.intro (g5) (g6))))))))) ?_
  refine SW.seq (SW.yu ?_)
  (repeat (first | refine bw.op (And.intro (g1) (And.intro (g2) (g3))) (h:= ?_) | refine bw.eF (And.intro (g1) (And.intro (g2) (g3))) (h:= ?_) | refine bw.skip (h:= ?_)))
  have hokk:(Fh s).ok (fun n=>decide (n<kk+1))=true:=Hp.bE (by omega) p7
  have nq:∀ s',(∀ n,lk (Fh s') n≠none→lk (Fh s) n≠none∨(kk+1≤n∧n<kk+1+aX))→lk (Fh s') b=none∧lk (Fh s') m=none∧lk (Fh s') k=none:=fun s' h=>by
   refine ⟨?_,?_,?_⟩
   ·exact Classical.byContradiction fun hn=>(h b hn).elim (fun h=>h p8) (fun h=>by omega)
   ·exact Classical.byContradiction fun hn=>(h m hn).elim (fun h=>h p9) (fun h=>by omega)
   ·exact Classical.byContradiction fun hn=>(h k hn).elim (fun h=>h A8) (fun h=>by omega)
  have hxs:x∉xs:=fun h=>by
   have:(xs.map (·.1)).contains x.1=true:=by simp only [List.contains_iff_mem];exact List.mem_map.2 ⟨x,h,rfl⟩
   rw [this] at hs;cases hs
  have hxt:x.1∉xs.map (·.1):=fun h=>by
   have:(xs.map (·.1)).contains x.1=true:=by simpa only [List.contains_iff_mem] using h
   rw [this] at hs;cases hs
  have q3:∀ z,z∈xs++[x]→z∈L:=fun z hz=>by
   rcases List.mem_append.1 hz with hz | hz
   ·exact p3 z hz
   ·rw [List.mem_singleton.1 hz];exact hx
  have q4:((xs++[x]).map (·.1)).Nodup:=by
   rw [List.map_append,List.nodup_append]
   refine ⟨p4,by simp,fun a ha b' hb'=> ?_⟩
   simp only [List.map_cons,List.map_nil,List.mem_singleton] at hb'
   intro e
   exact hxt (by rw [← hb',← e];exact ha)
  have hsub2:(xs++[x]).length≤L.length:=by
   have:=q4.length_le_of_subset (l₂:=L.map (·.1)) (fun t ht=>by
    obtain ⟨z,hz,rfl⟩:=List.mem_map.1 ht
    exact List.mem_map.2 ⟨z,q3 z hz,rfl⟩)
   simpa using this
  have hlt:(MM.keys xs).length<L.length:=by
   simp only [List.length_append,List.length_singleton] at hsub2
   simp only [MM.keys,List.length_map];omega
  have hsub:HSub (Fh s) ((kk,Ob.box 37 x.2.1.cells)::(k,Ob.iter (some m) c (xs.map (·.1)++[x.1]) c)::(b,Ob.box 107 [.mp m])::(m,.map (an Dt.cells ov L) c)::Fh s):=fun n ob hn=>by
   have h1:n≠k:=fun e=>by rw [e,A8] at hn;cases hn
   have h2:n≠b:=fun e=>by rw [e,p8] at hn;cases hn
   have h3:n≠m:=fun e=>by rw [e,p9] at hn;cases hn
   have h4:n≠kk:=fun e=>by rw [e,show lk (Fh s) kk=none from g4] at hn;cases hn
   simp [aa,h1,h2,h3,h4,hn]
  refine bw.yield (by simp only [ev,List.lookup,Nat.reduceBEq] <;> rfl) (by simp only [ev,oG,List.lookup,Nat.reduceBEq] <;> rfl) (hy.pK s) (hy.call s _ x.2.1 (kk+1) p1 hlt hokk p2) hsub ?_
  rintro v F' ⟨s',hstep,rfl,rfl,hok',hnm⟩
  obtain ⟨n1,n2,n3⟩:=nq s' hnm
  rw [ig]
  show bw Tryz.prog 14 k _ ⟨(12,.d (.bool (go s')))::_,_,_⟩ _
  (repeat (first | refine bw.op af (h:= ?_) | refine bw.eF af (h:= ?_) | refine bw.skip (h:= ?_)))
  refine bw.nil ?_
  have hlk:=fA (ro:=false) hsub (F':=Fh s') (fun h=>by cases h)
  have hhp:∀ kx,kk+1+aX≤kx→Hp.ok (fun n=>decide (n<kx)) ((b,Ob.box 107 [.mp m])::(m,.map (an Dt.cells ov L) c)::Fh s')=true:=fun kx hkx=>by
   simp only [Hp.ok,List.all_cons,Ob.ok,SV.ay,SV.ok,bq,Bool.and_true,Bool.and_eq_true,decide_eq_true_eq]
   exact ⟨⟨by omega,by omega⟩,by omega,Hp.bE hkx hok'⟩
  have hin:∀ z,z∈((b,Ob.box 107 [.mp m])::(m,.map (an Dt.cells ov L) c)::Fh s')→ya (lk ((kk,Ob.box 37 x.2.1.cells)::(k,Ob.iter (some m) c (xs.map (·.1)++[x.1]) c)::(b,Ob.box 107 [.mp m])::(m,.map (an Dt.cells ov L) c)::Fh s)) (lk (Fh s)) (lk (Fh s')) z.1=some z.2:=by
   intro z hz
   simp only [List.mem_cons] at hz
   rcases hz with rfl | rfl | hz
   ·rw [cM p8 n1];simp [aa,f1,f2,f3,g1,g2,g3]
   ·rw [cM p9 n2];simp [aa,f1,f2,f3,g1,g2,g3]
   ·have:=hy.nd s' z hz
    rw [dN (.inr (by rw [this];simp)),this]
  have q1:gV Step s0 (MM.keys (xs++[x])) s':=by
   have:=gV.snoc p1 hstep
   simpa [MM.keys] using this
  have q6:kk+1+aX≤k+1+(xs++[x]).length*(1+aX):=by
   have e:(xs++[x]).length*(1+aX)=xs.length*(1+aX)+(1+aX):=by rw [List.length_append,List.length_singleton,Nat.add_mul,Nat.one_mul]
   rw [e];omega
  have hmul:(xs++[x]).length*(1+aX)≤L.length*(1+aX):=Nat.mul_le_mul_right _ hsub2
  cases hg:go s' with
  | true=>
   refine SW.aj (by simp [ev,List.lookup,hg]) (SW.skip ?_)
   refine ⟨⟨(s',xs++[x],kk+1+aX),q1,hg,q3,q4,by show k+1≤kk+1+aX;omega,q6,hok',n1,n2,n3⟩,id,?_,aJ.same (by show k≤kk+1+aX;omega) (by simp [aY,List.lookup,SV.aC,SV.ok];omega) ?_ ?_⟩
   ·have:=k_ he hs
    simpa using this
   ·have:=hhp (kk+1+aX) (Nat.le_refl _)
    simp only [Hp.ok,List.all_cons,Ob.ok,Bool.and_eq_true,decide_eq_true_eq] at this ⊢
    exact ⟨⟨by omega,by omega⟩,this⟩
   ·intro z hz
    rcases List.mem_cons.1 hz with rfl | hz
    ·have:lk (bV false ((kk,Ob.box 37 x.2.1.cells)::(k,Ob.iter (some m) c (xs.map (·.1)++[x.1]) c)::(b,Ob.box 107 [.mp m])::(m,.map (an Dt.cells ov L) c)::Fh s) (Fh s) (Fh s')) k=some (.iter (some m) c (xs.map (·.1)++[x.1]) c):=by
      rw [hlk,cM A8 n3];simp [aa,g1]
     simpa [bV] using this
    ·have:lk (bV false ((kk,Ob.box 37 x.2.1.cells)::(k,Ob.iter (some m) c (xs.map (·.1)++[x.1]) c)::(b,Ob.box 107 [.mp m])::(m,.map (an Dt.cells ov L) c)::Fh s) (Fh s) (Fh s')) z.1=some z.2:=by
      rw [hlk];exact hin z hz
     exact this
  | false=>
   refine SW.ah (by simp [ev,List.lookup,hg]) ?_
   refine SW.weak id (st1:=⟨[],(b,.box 107 [.mp m])::(m,.map (an Dt.cells ov L) c)::Fh s',k+(1+L.length*(1+aX))⟩) (aJ.same (Nat.le_add_right _ _) trivial (hhp _ (by show kk+1+aX≤k+(1+L.length*(1+aX));omega)) fun z hz=> ?_) (SW.ret ?_)
   ·have:lk (bV false ((kk,Ob.box 37 x.2.1.cells)::(k,Ob.iter (some m) c (xs.map (·.1)++[x.1]) c)::(b,Ob.box 107 [.mp m])::(m,.map (an Dt.cells ov L) c)::Fh s) (Fh s) (Fh s')) z.1=some z.2:=by
     rw [hlk];exact hin z hz
    exact this
   ·refine End.mk ((b,.box 107 [.mp m])::(m,.map (an Dt.cells ov L) c)::Fh s') (h3:=fun _ _ h=>h) (h4:=⟨rfl,xs++[x],s',q1,q3,q4,fun (h:go s'=true)=>absurd h (by rw [hg];decide),⟨n1,n2⟩,rfl⟩) (h6:=hhp _ (by omega)) (h7:=Nat.le_refl _)
end
section
attribute [local irreducible] SW RW aM SC ak au
theorem ux {L xs:(MM Dt ag)}{c:Nat}(hwf:MM.wf L c)(h1:∀ x,x∈xs→x∈L)(h2:(xs.map (·.1)).Nodup)(h3:∀ x,x∈L→x∈xs):(MM.keys xs).Perm (MM.keys L):=
 ((List.perm_ext_iff_of_nodup (ij _ h2) (ij _ hwf.times)).2 fun a=>⟨h1 a,h3 a⟩).map _
def eE (b m:Nat)(L:(MM Dt ag))(c:Nat):Hp:=[(b,.box 107 [.mp m]),(m,.map (an Dt.cells ov L) c)]
set_option maxHeartbeats 1000000 in
theorem uy {L:(MM Dt ag)}{c:Nat}(hwf:MM.wf L c)(hL:L.length<1000000000):
  SB Tryz.prog slices_AppendSeq_Lapi_Dot_api_Dot.f [.d .aU,.fn (.func maps_Keys_map_api_Dot_api_Op_api_Dot_api_Op_1.f) [] [.ptr 0 0]] (eE 0 1 L c) 2 1
   fun r F=>r= .gs 2 L.length∧∃ l:List Dt,l.Perm (MM.keys L)∧F=(2,.arr 37 2 L.length ((l.flatMap Dt.ds).map .d))::eE 0 1 L c:=by
 refine slices_AppendSeq_Lapi_Dot_api_Dot.enter (by simp [SV.ok,SV.ay]) (by simp [eE,Hp.ok,Ob.ok,SV.ay,SV.ok,bq]) (by simp) ?_
 dsimp only [slices_AppendSeq_Lapi_Dot_api_Dot.s,Co.M,Co.G,Co.J,Co.H,Co.N,Co.F,Co.C,Co.Z,Co.B,Co.b8,Co.aB,Co.bL,Co.i6,Co.z8,Co.bU]
 refine SW.sW 0 37 2 rfl ?_
 simp only [eE]
 refine SW.seq ?_
 refine SW.g0 [0,1,2,4,5,6,7] mixed af ?_
 refine SW.seq (SW.seq ?_)
 refine SW.g0 [0,1,2,4,5,6,7] mixed af ?_
 refine SW.block (SW.mL (nk:=1+L.length*(1+2)) [2] [.ptr 3 0] rfl ⟨rfl,trivial⟩ fun ca cb hca hcb=> ?_)
 let s0:A9 4 3:=⟨[],2,by decide,by decide⟩
 have hy:=tM (y:=4) (bx:=3) (B:=L.length) (by decide) s0 (by simp [s0];omega) hca hcb
 have hsb:=Ba (y:=4) (b:=0) (m:=1) (k:=5) hwf s0 hy (by simp [dQ,s0,Hp.ok,Ob.ok,SV.ay,SV.ok]) (by decide) (by decide) (by decide) (by simp [dQ,s0,aa,bt]) (by simp [dQ,s0,aa,bt]) rfl
 have hsubF:HSub ((0,.box 107 [.mp 1])::(1,.map (an Dt.cells ov L) c)::dQ 4 3 13 [2] [7] ca cb s0) ((4,.kJ 13 [2] [.ptr 3 0] [7] ca cb .ready none)::[(3,.box 31 [.gs 2 0]),(2,.arr 37 2 0 []),(0,.box 107 [.mp 1]),(1,.map (an Dt.cells ov L) c)]):=by
  intro n ob hn
  match n with
  | 0 | 1 | 2 | 3 | 4=>simpa [dQ,s0,aa] using hn
  | n+5=>simp [dQ,s0,aa,bt] at hn
 have hsc:=(hsb.here (fun n=>decide (n<5)) (fun n hn=> ?_) (by simp [SV.ay,SV.ok]) (by simp [dQ,s0,Hp.ok,Ob.ok,SV.ay,SV.ok,bq]) ?_).frame hsubF
 ·refine hsc.mono ?_
  rintro r F' ⟨F1,⟨rfl,xs,s',hon,hin,nq,hall,⟨hn0,hn1⟩,rfl⟩,rfl⟩
  have hl:=xQ hon
  have hperm:=ux hwf hin nq (hall rfl)
  obtain ⟨l,rn,hr1,hr2⟩:=s'
  have hl:l=MM.keys xs:=by simpa [s0] using hl
  have hn0:rn≠0:=fun e=>by simp [dQ,e,aa] at hn0
  have hn1:rn≠1:=fun e=>by simp [dQ,e,aa] at hn1
  have hll:l.length=L.length:=by rw [hl,hperm.length_eq];simp [MM.keys]
  rw [← hl] at hperm
  have hlk:=fA (ro:=false) (h:=(4,.kJ 13 [2] [.ptr 3 0] [7] ca cb .ready none)::[(3,.box 31 [.gs 2 0]),(2,.arr 37 2 0 []),(0,.box 107 [.mp 1]),(1,.map (an Dt.cells ov L) c)]) (F:=(0,.box 107 [.mp 1])::(1,.map (an Dt.cells ov L) c)::dQ 4 3 13 [2] [7] ca cb s0) (F':=(0,.box 107 [.mp 1])::(1,.map (an Dt.cells ov L) c)::dQ 4 3 13 [2] [7] ca cb ⟨l,rn,hr1,hr2⟩) hsubF (fun h=>by cases h)
  generalize bV false _ _ _=G at hlk
  have hG:∀ n ob,lk ((0,Ob.box 107 [.mp 1])::(1,.map (an Dt.cells ov L) c)::dQ 4 3 13 [2] [7] ca cb ⟨l,rn,hr1,hr2⟩) n=some ob→lk G n=some ob:=fun n ob h=>by
   rw [hlk,dN (.inr (by rw [h];simp)),h]
  refine ⟨none,hG 4 _ (by simp [dQ,aa,jQ]),?_⟩
  refine SW.weak (fun n=>if n=2 then rn else n) (st1:=⟨[(2,.ptr 3 0)],[(3,.box 31 [.gs 2 L.length]),(2,.arr 37 2 L.length ((l.flatMap Dt.ds).map .d)),(0,.box 107 [.mp 1]),(1,.map (an Dt.cells ov L) c)],6⟩) ?_ ?_
  ·have q3:=hG 3 (.box 31 [.gs rn l.length]) (by simp [dQ,aa])
   have q2:=hG rn (.arr 37 2 l.length ((l.flatMap Dt.ds).map .d)) (by simp [dQ,aa,hn0,hn1,hr1,hr2])
   have q0:=hG 0 (.box 107 [.mp 1]) (by simp [aa])
   have q1:=hG 1 (.map (an Dt.cells ov L) c) (by simp [aa])
   rw [hll] at q3 q2
   refine ⟨by show 2≤6;omega,fun n hn=>if_neg (by omega),?_,?_,?_⟩
   ·simp [aY,List.lookup,SV.aC,SV.ok]
   ·simp [uk,cR,Ob.aC,SV.aW,SV.aC,SV.ia,SV.bh,Ob.ok,SV.ay,SV.ok,q3,q2,q0,q1,hr1,cF,bq]
   ·intro a ha b hb e
    simp only [List.map_cons,List.map_nil,List.mem_cons,List.not_mem_nil,or_false] at ha hb
    rcases ha with rfl | rfl | rfl | rfl <;> rcases hb with rfl | rfl | rfl | rfl <;> simp at e <;> first | rfl | omega
  ·(repeat (first | refine SW.seq ?_ | refine SW.block ?_ | refine SW.g0 [0,1,2,4,5,6,7] mixed af ?_ | refine SW.skip ?_ | refine SW.exit ?_ | refine SW.ret ?_ | refine SW.ah rfl ?_ | refine SW.aj rfl ?_))
   exact End.mk ((2,.arr 37 2 L.length ((l.flatMap Dt.ds).map .d))::eE 0 1 L c) (h4:=⟨rfl,l,hperm,rfl⟩) (h6:=by simp [eE,Hp.ok,Ob.ok,SV.ay,SV.ok,SV.bh,bq])
 ·match n,hn with
  | 0,_ | 1,_ | 2,_ | 3,_ | 4,_=>simp [dQ,s0,aa]
  | n +5,h=>
    have:n+5<5:=by simpa using h
    omega
 ·rintro r F' _ h1 h2
  refine ⟨SV.eT (fun n hn=> ?_) _ h1,Hp.dy (fun n hn=> ?_) h2⟩ <;> (simp at hn ⊢;omega)
end
end Go.Proofs.YtaelhkkjgfobhaaGreat
namespace Go.Proofs.YtaelhkkjgfobhaaGreat
open Go.Sl Go.Proofs Go.Sort
attribute [local irreducible] SW RW aM SC ak au
theorem qT (L:(MM Dt ag))(c n:Nat)(h:decide (n<2)=true):lk (eE 0 1 L c) n≠none:=by
 match n,h with
 | 0,_ | 1,_=>simp [eE,aa]
 | n +2,h=>
   have:n+2<2:=by simpa using h
   omega
theorem mY (q:Nat→Bool)(b m:Nat)(L:(MM Dt ag))(c:Nat)(hb:q b=true)(hm:q m=true):(eE b m L c).ok q=true:=by
 simp [eE,Hp.ok,Ob.ok,SV.ay,SV.ok,bq,hb,hm]
theorem uz {L:(MM Dt ag)}{c:Nat}(hwf:MM.wf L c)(hL:L.length<1000000000):
  SC Tryz.prog slices_AppendSeq_Lapi_Dot_api_Dot.f [.d .aU,.fn (.func maps_Keys_map_api_Dot_api_Op_api_Dot_api_Op_1.f) [] [.ptr 0 0]] (eE 0 1 L c) 2 1
   fun r F=>r= .gs 2 L.length∧∃ l:List Dt,l.Perm (MM.keys L)∧F=(2,.arr 37 2 L.length ((l.flatMap Dt.ds).map .d))::eE 0 1 L c:=
 (uy hwf hL).here (fun n=>decide (n<2)) (qT L c) (by simp [SV.ay,SV.ok]) (mY _ _ _ _ _ rfl rfl) fun r F' _ h1 h2=>⟨SV.eT (fun n hn=>by simp at hn ⊢;omega) _ h1,Hp.dy (fun n hn=>by simp at hn ⊢;omega) h2⟩
theorem xT {L:(MM Dt ag)}{c:Nat}(hwf:MM.wf L c)(hL:L.length<1000000000):
  SB Tryz.prog slices_Collect_api_Dot.f [.fn (.func maps_Keys_map_api_Dot_api_Op_api_Dot_api_Op_1.f) [] [.ptr 0 0]] (eE 0 1 L c) 2 1
   fun r F=>r= .gs 2 L.length∧∃ l:List Dt,l.Perm (MM.keys L)∧F=(2,.arr 37 2 L.length ((l.flatMap Dt.ds).map .d))::eE 0 1 L c:=by
 refine slices_Collect_api_Dot.enter (by simp [SV.ok,SV.ay]) (mY _ _ _ _ _ rfl rfl) (by simp) ?_
 dsimp only [slices_Collect_api_Dot.s,Co.M,Co.G,Co.J,Co.H,Co.N,Co.F,Co.C,Co.Z,Co.B,Co.b8,Co.aB,Co.bL,Co.i6,Co.z8,Co.bU]
 refine SW.seq ?_
 refine SW.g0 [0,2] mixed af ?_
 refine SW.seq (SW.yu ?_)
 (repeat (first | refine bw.op af (h:= ?_) | refine bw.eF af (h:= ?_) | refine bw.skip (h:= ?_)))
 refine bw.bJ (uz hwf hL) (fun _ _ h=>h) (h:= ?_)
 rintro v F' ⟨rfl,l,hl,rfl⟩
 simp only [bV,dg,dh,fZ,gw,di,lk,List.lookup,Nat.reduceBEq,BEq.rfl,beq_self_eq_true,if_true,if_false,reduceIte,Nat.reduceEqDiff,Bool.false_eq_true,Option.isSome_some,Option.isSome_none,Nat.reduceAdd,eE]
 (repeat (first | refine bw.op af (h:= ?_) | refine bw.eF af (h:= ?_) | refine bw.skip (h:= ?_)))
 refine bw.nil (SW.ret ?_)
 exact End.mk ((2,.arr 37 2 L.length ((l.flatMap Dt.ds).map .d))::eE 0 1 L c) (h4:=⟨rfl,l,hl,rfl⟩) (h6:=by simp [eE,Hp.ok,Ob.ok,SV.ay,SV.ok,SV.bh,bq])
theorem xU {L:(MM Dt ag)}{c:Nat}(hwf:MM.wf L c)(hL:L.length<1000000000):
  SC Tryz.prog slices_Collect_api_Dot.f [.fn (.func maps_Keys_map_api_Dot_api_Op_api_Dot_api_Op_1.f) [] [.ptr 0 0]] (eE 0 1 L c) 2 1
   fun r F=>r= .gs 2 L.length∧∃ l:List Dt,l.Perm (MM.keys L)∧F=(2,.arr 37 2 L.length ((l.flatMap Dt.ds).map .d))::eE 0 1 L c:=
 (xT hwf hL).here (fun n=>decide (n<2)) (qT L c) (by simp [SV.ay,SV.ok]) (mY _ _ _ _ _ rfl rfl) fun r F' _ h1 h2=>⟨SV.eT (fun n hn=>by simp at hn ⊢;omega) _ h1,Hp.dy (fun n hn=>by simp at hn ⊢;omega) h2⟩
theorem tO {L:(MM Dt ag)}{c:Nat}(hwf:MM.wf L c)(hL:L.length<1000000000):
  SB Tryz.prog slices_SortedFunc_api_Dot.f [.fn (.func maps_Keys_map_api_Dot_api_Op_api_Dot_api_Op_1.f) [] [.ptr 0 0],.fn (.func dot_Compare.f) [] []] (eE 0 1 L c) 2 0
   fun r F=>r=bS (Dt.sorted (MM.keys L))∧F=eE 0 1 L c:=by
 refine slices_SortedFunc_api_Dot.enter (by simp [SV.ok,SV.ay]) (mY _ _ _ _ _ rfl rfl) (by simp) ?_
 dsimp only [slices_SortedFunc_api_Dot.s,Co.M,Co.G,Co.J,Co.H,Co.N,Co.F,Co.C,Co.Z,Co.B,Co.b8,Co.aB,Co.bL,Co.i6,Co.z8,Co.bU]
 refine SW.seq ?_
 refine SW.g0 [0,1,4,5] mixed af ?_
 refine SW.seq (SW.yu ?_)
 (repeat (first | refine bw.op af (h:= ?_) | refine bw.eF af (h:= ?_) | refine bw.skip (h:= ?_)))
 refine bw.bJ (xU hwf hL) (fun _ _ h=>h) (h:= ?_)
 rintro v F' ⟨rfl,l,hl,rfl⟩
 simp only [bV,dg,dh,fZ,gw,di,lk,List.lookup,Nat.reduceBEq,BEq.rfl,beq_self_eq_true,if_true,if_false,reduceIte,Nat.reduceEqDiff,Bool.false_eq_true,Option.isSome_some,Option.isSome_none,Nat.reduceAdd,eE]
 (repeat (first | refine bw.op af (h:= ?_) | refine bw.eF af (h:= ?_) | refine bw.skip (h:= ?_)))
 refine bw.nil ?_
 have hlen:l.length=L.length:=by rw [hl.length_eq];simp [MM.keys]
 refine SW.seq (SW.yu ?_)
 (repeat (first | refine bw.op af (h:= ?_) | refine bw.eF af (h:= ?_) | refine bw.skip (h:= ?_)))
 rw [← hlen]
 refine bw.oC af (rH 2 l (by omega) 3) (h:= ?_)
 refine bw.nil ?_
 refine SW.seq ?_
 refine SW.g0 [0,1,4,5] mixed af ?_
 have fQ:(Dt.sorted l).length=l.length:=(Dt.sorted_perm l).length_eq
 have hse:Dt.sorted l=Dt.sorted (MM.keys L):=Dt.kD ((Dt.sorted_perm l).trans hl) (Dt.gC l)
 refine SW.weak id (st1:=⟨[(4,.gs 2 l.length)],[(2,.arr 37 2 l.length (((Dt.sorted l).flatMap Dt.ds).map .d)),(0,.box 107 [.mp 1]),(1,.map (an Dt.cells ov L) c)],3⟩) (aJ.same (by simp) (by simp [aY,List.lookup,SV.aC,SV.ok]) (by simp [Hp.ok,Ob.ok,SV.ay,SV.ok,SV.bh,bq]) (by simp [aa])) ?_
 refine SW.freeze 2 ((Dt.sorted l).flatMap Dt.ds) rfl rfl ?_
 have e1:kQ 2 l.length ((Dt.sorted l).flatMap Dt.ds) [(4,.gs 2 l.length)]=[(4,bS (Dt.sorted (MM.keys L)))]:=by
  rw [← hse]
  simp only [kQ,List.map_cons,List.map_nil,SV.iB,if_true,bS,fQ]
 show Go.Sl.SW _ _ _ _ ⟨kQ 2 l.length ((Dt.sorted l).flatMap Dt.ds) [(4,.gs 2 l.length)],eE 0 1 L c,3⟩ _
 rw [e1]
 refine SW.ret ?_
 exact End.mk (eE 0 1 L c) (h3:=fun _ _ h=>h) (h4:=⟨rfl,rfl⟩) (h5:=rfl) (h6:=mY _ _ _ _ _ rfl rfl)
theorem tP {L:(MM Dt ag)}{c:Nat}(hwf:MM.wf L c)(hL:L.length<1000000000)(k:Nat)(b m:Nat)(JQ:b≠m):
  aM Tryz.prog slices_SortedFunc_api_Dot.f [.fn (.func maps_Keys_map_api_Dot_api_Op_api_Dot_api_Op_1.f) [] [.ptr b 0],.fn (.func dot_Compare.f) [] []] (eE b m L c) k 0 (bS (Dt.sorted (MM.keys L))) (eE b m L c):=by
 have h:=SB.qA [b,m] (tO hwf hL) (by simp [JQ]) (fun i hi=>qT L c i (by simpa using hi)) k
 simpa [SV.aW,SV.aC,gx,eE,Hp.aC,Ob.aC,cF] using h
theorem DM (L:(MM Dt ag))(c:Nat):SB Tryz.prog maps_Keys_map_api_Dot_api_Op_api_Dot_api_Op.f [.mp 0] [(0,.map (an Dt.cells ov L) c)] 1 1 fun r F=>r= .fn (.func maps_Keys_map_api_Dot_api_Op_api_Dot_api_Op_1.f) [] [.ptr 1 0]∧F=[(1,.box 107 [.mp 0]),(0,.map (an Dt.cells ov L) c)]:=by
 refine maps_Keys_map_api_Dot_api_Op_api_Dot_api_Op.enter rfl (by simp [Hp.ok,Ob.ok,bq]) (by simp) ?_
 dsimp only [maps_Keys_map_api_Dot_api_Op_api_Dot_api_Op.s,Co.M,Co.G,Co.J,Co.H,Co.N,Co.F,Co.C,Co.Z,Co.B,Co.b8,Co.aB,Co.bL,Co.i6,Co.z8,Co.bU]
 (repeat (first | refine SW.seq ?_ | refine SW.block ?_ | refine SW.g0 [0,1,2] mixed af ?_ | refine SW.skip ?_ | refine SW.exit ?_ | refine SW.ret ?_ | refine SW.ah rfl ?_ | refine SW.aj rfl ?_))
 exact End.mk [(1,.box 107 [.mp 0]),(0,.map (an Dt.cells ov L) c)] (h4:=⟨rfl,rfl⟩) (h6:=by simp [Hp.ok,Ob.ok,SV.ay,SV.ok,bq])
theorem DN (L:(MM Dt ag))(c:Nat)(n k:Nat):aM Tryz.prog maps_Keys_map_api_Dot_api_Op_api_Dot_api_Op.f [.mp n] [(n,.map (an Dt.cells ov L) c)] k 1 (.fn (.func maps_Keys_map_api_Dot_api_Op_api_Dot_api_Op_1.f) [] [.ptr k 0]) [(k,.box 107 [.mp n]),(n,.map (an Dt.cells ov L) c)]:=by
 have h:=SB.qA [n] (DM L c) (by simp) (fun i hi=>by cases i with | zero=>simp [aa] | succ i=>simp at hi) k
 simpa [SV.aW,SV.aC,gx,Hp.aC,Ob.aC,cF] using h
end Go.Proofs.YtaelhkkjgfobhaaGreat
namespace Go.Proofs.YtaelhkkjgfobhaaGreat
open Go.Sl Go.Proofs
theorem cN.FX {l:List ag}{S:Sh}(h:cN l S):Dt.sorted (MM.keys S.ops)=Dt.set (l.map (·.dot)):=
 Dt.jA (Dt.p0 h.base.ops.wf.keys) (Dt.jI _) fun v=>by
  rw [(Dt.sorted_perm _).mem_iff,Dt.mem_set,← MM.iV,h.base.has,pM,List.mem_map]
theorem cN.iX {l:List ag}{S:Sh}(h:cN l S):S.ops.length≤l.length:=by
 have:=h.base.ops.wf.keys.length_le_of_subset (l₂:=l.map (·.dot)) fun d hd=>by
  rw [← MM.iV,h.base.has,pM] at hd
  obtain ⟨o,ho,e⟩:=hd
  exact List.mem_map.2 ⟨o,ho,e⟩
 simpa [MM.keys] using this
section
attribute [local irreducible] SW RW aM SC ak au
set_option maxHeartbeats 4000000 in
theorem DO (S:Sh)(hwf:MM.wf S.ops S.co)(hL:S.ops.length<1000000000):SB Tryz.prog shape_Shape_Dots.f [.ptr 0 0] S.h0 7 0 fun r F=>r=bS (Dt.sorted (MM.keys S.ops))∧F=S.h0:=by
 refine shape_Shape_Dots.enter (by simp [SV.ay,SV.ok]) (S.ok (Nat.le_refl 7)) (by simp) ?_
 dsimp only [shape_Shape_Dots.s,Co.M,Co.G,Co.J,Co.H,Co.N,Co.F,Co.C,Co.Z,Co.B,Co.b8,Co.aB,Co.bL,Co.i6,Co.z8,Co.bU]
 refine SW.seq ?_
 refine SW.g0 [0,2,4] mixed af ?_
 refine SW.seq (SW.seq ?_)
 refine SW.g1 [0,2,4] mixed af (sq S) ?_
 refine SW.aj rfl (SW.skip ?_)
 refine SW.seq ?_
 have cS:∀ k,aM Tryz.prog slices_SortedFunc_api_Dot.f [.fn (.func maps_Keys_map_api_Dot_api_Op_api_Dot_api_Op_1.f) [] [.ptr 7 0],.fn (.func dot_Compare.f) [] []] [(7,.box 107 [.mp 1]),(1,.map (an Dt.cells ov S.ops) S.co)] k 0 (bS (Dt.sorted (MM.keys S.ops))) [(7,.box 107 [.mp 1]),(1,.map (an Dt.cells ov S.ops) S.co)]:=fun k=>tP hwf hL k 7 1 (by decide)
 have cK:=DN S.ops S.co 1
 refine SW.g2 [0,2,4] mixed af cK cS ?_
 refine SW.ret ?_
 exact End.mk S.h0 (h4:=⟨rfl,rfl⟩) (h6:=S.ok (Nat.le_refl 7))
theorem cN.DP {l:List ag}{S:Sh}(h:cN l S)(hl:l.length≤80)(k:Nat):aM Tryz.prog shape_Shape_Dots.f [.ptr 10 0] S.jk k 0 (bS (Dt.set (l.map (·.dot)))) S.jk:=by
 have:=S.at_ (args:=[]) (DO S h.base.ops.wf (by have:=h.iX;omega)) (fun _=>rfl) (fun _=>rfl) n10 wk k
 rw [h.FX] at this
 exact this
end
end Go.Proofs.YtaelhkkjgfobhaaGreat
