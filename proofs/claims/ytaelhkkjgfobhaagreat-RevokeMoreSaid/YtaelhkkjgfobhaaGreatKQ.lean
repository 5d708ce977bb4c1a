/-
 Revoke: rows of dots that grow, one by one.
-/
import Derived.Test.YtaelhkkjgfobhaaGreatK6
import Derived.Test.YtaelhkkjgfobhaaGreatKP
set_option linter.unusedSectionVars false
set_option linter.unusedVariables false
set_option linter.unusedSimpArgs false
namespace Go.Proofs.YtaelhkkjgfobhaaGreat
open Go.Sl Go.Proofs
section
attribute [local irreducible] SW RW aM SC ak au
structure qX where
 l:List Dt
 rn:Nat
theorem F3 (d:Dt):SB Tryz.prog revoke_Index_Threats_1.f [.agg d.cells] [] 0 2 fun r F=>r= .agg d.cells∧F=[]:=by
 refine revoke_Index_Threats_1.enter (by simp [SV.ay,SV.ok]) rfl (by simp) ?_
 dsimp only [revoke_Index_Threats_1.s,Co.M,Co.G,Co.J,Co.H,Co.N,Co.F,Co.C,Co.Z,Co.B,Co.b8,Co.aB,Co.bL,Co.i6,Co.z8,Co.bU]
 have s1:cU [SV.d (.int .u8 0),.d (.int .u32 0)] 0 d.cells=d.cells:=rfl
 (repeat (first | refine SW.seq ?_ | refine SW.block ?_ | refine SW.g0 [0,1,2] mixed (s1) ?_ | refine SW.skip ?_ | refine SW.exit ?_ | refine SW.ret ?_ | refine SW.ah rfl ?_ | refine SW.aj rfl ?_))
 exact End.mk [] (h4:=⟨rfl,rfl⟩)
theorem F4 (d:Dt)(k:Nat):aM Tryz.prog revoke_Index_Threats_1.f [.agg d.cells] [] k 2 (.agg d.cells) []:=by
 have:=SB.new (F3 d) k
 simpa [SV.aW,SV.aC,Dt.ax,Hp.aC] using this
theorem D1 (o:ag):SB Tryz.prog revoke_Index_Threatened_2.f [.agg o.cells] [] 0 2 fun r F=>r= .agg o.dot.cells∧F=[]:=by
 refine revoke_Index_Threatened_2.enter (by simp [SV.ay,SV.ok,ag.ai]) rfl (by simp) ?_
 dsimp only [revoke_Index_Threatened_2.s,Co.M,Co.G,Co.J,Co.H,Co.N,Co.F,Co.C,Co.Z,Co.B,Co.b8,Co.aB,Co.bL,Co.i6,Co.z8,Co.bU]
 have s1:cU [SV.d (.int .u8 0),.d (.int .u32 0)] 0 o.dot.cells=o.dot.cells:=rfl
 have s2:List.take 2 o.cells=o.dot.cells:=rfl
 (repeat (first | refine SW.seq ?_ | refine SW.block ?_ | refine SW.g0 [0,1,2] mixed (And.intro (s1) (s2)) ?_ | refine SW.skip ?_ | refine SW.exit ?_ | refine SW.ret ?_ | refine SW.ah rfl ?_ | refine SW.aj rfl ?_))
 exact End.mk [] (h4:=⟨rfl,rfl⟩)
theorem D2 (o:ag)(k:Nat):aM Tryz.prog revoke_Index_Threatened_2.f [.agg o.cells] [] k 2 (.agg o.dot.cells) []:=by
 have:=SB.new (D1 o) k
 simpa [SV.aW,SV.aC,Dt.ax,ag.ax,Hp.aC] using this
def gl (y bx bf:Nat)(ca cb:Code)(s:qX):Hp:=
 [(y,.kJ 17 [5,3] [.ptr bx 0,.ptr bf 0] [8] ca cb .ready none),(bx,.box 31 [.gs s.rn s.l.length]),(bf,.box 123 [.fn (.func revoke_Index_Threats_1.f) [] []]),(s.rn,.arr 37 2 s.l.length ((s.l.flatMap Dt.ds).map .d))]
def JX (y bx bf:Nat)(s:qX)(j:Nat):Prop:=(s.rn≠y∧s.rn≠bx∧s.rn≠bf)∧s.l.length+j≤100000000000
def JY (s:qX)(x:Dt)(k:Nat):qX:=⟨s.l++[x],k+3⟩
set_option maxHeartbeats 4000000 in
theorem JZ {y bx bf:Nat}(h1:y≠bx)(h2:y≠bf)(h3:bx≠bf){ca cb:Code}
    (hca:cK Tryz.prog 17 ca=some (.ey [⟨some 6,.alloc 37 [.d (.int .u8 0),.d (.int .u32 0)],none⟩,⟨none,.store 2 (.t 6) (.t 8),none⟩] (jK 2) false))
    (hcb:cK Tryz.prog 17 cb=some (.block 1 (.ey [⟨some 9,.load none (.t 5),none⟩,⟨some 10,.load none (.t 3),none⟩,⟨some 11,.load (some 2) (.t 6),none⟩,⟨some 12,.call (.t 10) [(.t 11)],none⟩,⟨some 13,.oU 37 2 1 [.d (.int .u8 0),.d (.int .u32 0)] [(0,2,.t 12)],none⟩,⟨some 14,.app 37 2 8 (.t 9) (.t 13),none⟩,⟨none,.store 1 (.t 5) (.t 14),none⟩] [0,0,0,6,14,31,63] true))):
    qW Tryz.prog y (fun x:Dt=> .agg x.cells) 4 (gl y bx bf ca cb) JY (JX y bx bf):=by
  have f1:=bA h1
  have f2:=bA h2
  have f3:=bA h3
  refine ⟨fun s=>by simp [gl,aa],fun s j hinv x hx=> ?_,fun s j hinv=> ?_,fun s x k j hinv hok=> ?_⟩
  rotate_left
  · obtain ⟨⟨a1,a2,a3⟩,_⟩:=hinv
    simp [gl,Hp.ok,Ob.ok,SV.ay,SV.ok,SV.bh,aa,f1,f2,f3,bA a1,bA a2,bA a3]
  rotate_left
  · obtain ⟨⟨a1,a2,a3⟩,_⟩:=hinv
    have g1:=bA a1
    have g2:=bA a2
    have g3:=bA a3
    simp only [gl,List.mem_cons,List.not_mem_nil,or_false] at hx
    rcases hx with rfl | rfl | rfl | rfl <;> simp [gl,aa,f1,f2,f3,g1,g2,g3]
  · obtain ⟨l,rn⟩:=s
    obtain ⟨⟨a1,a2,a3⟩,hlen⟩:=hinv
    dsimp only at a1 a2 a3 hlen
    have g1:=bA a1
    have g2:=bA a2
    have g3:=bA a3
    simp only [gl,Hp.ok,List.all_cons,List.all_nil,Ob.ok,SV.ay,SV.ok,SV.bh,Bool.and_true,Bool.and_eq_true,decide_eq_true_eq] at hok
    obtain ⟨⟨k1,_⟩,⟨k2,_⟩,k3,k4⟩:=hok
    have q1:=bA (show k≠y by omega)
    have q2:=bA (show k≠bx by omega)
    have q3:=bA (show k≠bf by omega)
    have q4:=bA (show k≠rn by omega)
    have w0:=bA (show k+3≠k by omega)
    have w1:=bA (show k+3≠y by omega)
    have w2:=bA (show k+3≠bx by omega)
    have w3:=bA (show k+3≠bf by omega)
    have w4:=bA (show k+3≠rn by omega)
    have ea:k+1+2=k+3:=rfl
    have hF :∀ n,lk (gl y bx bf ca cb ⟨l++[x],k+3⟩) n≠none→lk (gl y bx bf ca cb ⟨l,rn⟩) n≠none∨(k≤n∧n<k+4):=fun n hn=>by
      by_cases e1:n=y
      · exact .inl (by simp [gl,aa,e1])
      · by_cases e2:n=bx
        · exact .inl (by simp [gl,aa,e2,f1])
        · by_cases e3:n=bf
          · exact .inl (by simp [gl,aa,e3,f2,f3])
          · refine .inr ?_
            have:n=k+3:=Classical.byContradiction fun hne=>hn (by simp [gl,aa,bt,e1,e2,e3,hne])
            omega
    refine ⟨?_,⟨⟨by show k+3≠y;omega,by show k+3≠bx;omega,by show k+3≠bf;omega⟩,by show (l++[x]).length+j≤_;rw [List.length_append];show l.length+1+j≤_;omega⟩,?_,hF⟩
    · unfold Gw
      refine wL.here (fun n=>n == y || n == bx || n == bf || n == rn) (wL.lY (cs:=[.ptr bx 0,.ptr bf 0]) (H:=[(bx,.box 31 [.gs rn l.length]),(bf,.box 123 [.fn (.func revoke_Index_Threats_1.f) [] []]),(rn,.arr 37 2 l.length ((l.flatMap Dt.ds).map .d))]) hca hcb rfl rfl rfl (by simp) k1 (by simp [aa,bt,f1,f2,g1]) (by simp [SV.ay,SV.ok,Dt.ai]) (by simp [Hp.ok,Ob.ok,SV.ay,SV.ok,SV.bh];omega) (by simp [SV.ay,SV.ok];omega) ?_) ?_ (by simp [SV.ay,SV.ok,Dt.ai]) (by simp [gl,Hp.ok,Ob.ok,SV.ay,SV.ok,SV.bh]) ?_
      · skip
        show Go.Sl.SW _ _ _ _ ⟨[(8,.agg x.cells),(5,.ptr bx 0),(3,.ptr bf 0)],_,_⟩ _
        refine SW.g0 [3,5,6,8] mixed (And.intro (f1) (And.intro (f2) (And.intro (f3) (And.intro (g1) (And.intro (g2) (And.intro (g3) (And.intro (q1) (And.intro (q2) (And.intro (q3) (q4)))))))))) ?_
        refine ⟨rfl,SW.block ?_⟩
        have hcc:=fun k=>F4 x k
        refine SW.gK [3,5,6,8] mixed (And.intro (f1) (And.intro (f2) (And.intro (f3) (And.intro (g1) (And.intro (g2) (And.intro (g3) (And.intro (q1) (And.intro (q2) (And.intro (q3) (And.intro (q4) (And.intro (w0) (And.intro (w1) (And.intro (w2) (And.intro (w3) (And.intro (w4) (ea)))))))))))))))) (And.intro f1 (And.intro f2 (And.intro f3 (And.intro g1 (And.intro g2 (And.intro g3 (And.intro q1 (And.intro q2 (And.intro q3 (And.intro q4 (And.intro w0 (And.intro w1 (And.intro w2 (And.intro w3 w4)))))))))))))) (And.intro hcc True.intro) ?_
        have e2:((l++[x]).flatMap Dt.ds).map SV.d=(List.flatMap Dt.ds l).map SV.d++x.ds.map SV.d:=by simp
        refine ⟨none,true,[(bx,.box 31 [.gs (k+3) (l++[x]).length]),(bf,.box 123 [.fn (.func revoke_Index_Threats_1.f) [] []]),(k+3,.arr 37 2 (l++[x]).length (((l++[x]).flatMap Dt.ds).map .d))],⟨rfl,rfl⟩,?_,?_,by simp,⟨rfl,rfl⟩⟩
        · refine HSub.cons ?_ (HSub.cons ?_ (HSub.cons ?_ (HSub.nil _)))
          · simp [aa,f1,f2,f3,g1,g2,g3,q1,q2,q3,q4,w0,w1,w2,w3,w4,cU]
          · simp [aa,f1,f2,f3,g1,g2,g3,q1,q2,q3,q4,w0,w1,w2,w3,w4,cU]
          · rw [e2];simp [aa,Dt.qx]
        · simp [Hp.ok,Ob.ok,SV.ay,SV.ok,SV.bh,-List.flatMap_append,-List.map_append];omega
      · intro n hn
        simp only [Bool.or_eq_true,beq_iff_eq] at hn
        rcases hn with ((rfl | rfl) | rfl) | rfl <;> simp [gl,aa,f1,f2,f3,g1,g2,g3]
      · rintro r F' ⟨rfl,rfl⟩ _ _
        refine ⟨rfl,?_⟩
        simp [JY,gl,Hp.ok,Ob.ok,SV.ay,SV.ok,SV.bh,-List.flatMap_append,-List.map_append]
    · simp [JY,gl,Hp.ok,Ob.ok,SV.ay,SV.ok,SV.bh,-List.flatMap_append,-List.map_append]
      omega
theorem Lu {s0 s:qX}{xs:List Dt}(h:gV (yV JY) s0 xs s):s.l=s0.l++xs:=by
 induction h with
 | nil=>simp
 | snoc _ h ih=>
  obtain ⟨k,rfl⟩:=h
  show _++[_]=_
  rw [ih];simp
def gz (y bx bf:Nat)(ca cb:Code)(s:qX):Hp:=
 [(y,.kJ 17 [5,3] [.ptr bx 0,.ptr bf 0] [8] ca cb .ready none),(bx,.box 31 [.gs s.rn s.l.length]),(bf,.box 130 [.fn (.func revoke_Index_Threatened_2.f) [] []]),(s.rn,.arr 37 2 s.l.length ((s.l.flatMap Dt.ds).map .d))]
def Ik (y bx bf:Nat)(s:qX)(j:Nat):Prop:=(s.rn≠y∧s.rn≠bx∧s.rn≠bf)∧s.l.length+j≤100000000000
def Ky (s:qX)(x:ag)(k:Nat):qX:=⟨s.l++[x.dot],k+3⟩
set_option maxHeartbeats 4000000 in
theorem J1 {y bx bf:Nat}(h1:y≠bx)(h2:y≠bf)(h3:bx≠bf){ca cb:Code}
    (hca:cK Tryz.prog 17 ca=some (.ey [⟨some 6,.alloc 43 AB,none⟩,⟨none,.store 29 (.t 6) (.t 8),none⟩] (jK 2) false))
    (hcb:cK Tryz.prog 17 cb=some (.block 1 (.ey [⟨some 9,.load none (.t 5),none⟩,⟨some 10,.load none (.t 3),none⟩,⟨some 11,.load (some 29) (.t 6),none⟩,⟨some 12,.call (.t 10) [(.t 11)],none⟩,⟨some 13,.oU 37 2 1 [.d (.int .u8 0),.d (.int .u32 0)] [(0,2,.t 12)],none⟩,⟨some 14,.app 37 2 8 (.t 9) (.t 13),none⟩,⟨none,.store 1 (.t 5) (.t 14),none⟩] [0,0,0,6,14,31,63] true))):
    qW Tryz.prog y (fun x:ag=> .agg x.cells) 4 (gz y bx bf ca cb) Ky (Ik y bx bf):=by
  have f1:=bA h1
  have f2:=bA h2
  have f3:=bA h3
  refine ⟨fun s=>by simp [gz,aa],fun s j hinv x hx=> ?_,fun s j hinv=> ?_,fun s x k j hinv hok=> ?_⟩
  rotate_left
  · obtain ⟨⟨a1,a2,a3⟩,_⟩:=hinv
    simp [gz,Hp.ok,Ob.ok,SV.ay,SV.ok,SV.bh,aa,f1,f2,f3,bA a1,bA a2,bA a3]
  rotate_left
  · obtain ⟨⟨a1,a2,a3⟩,_⟩:=hinv
    have g1:=bA a1
    have g2:=bA a2
    have g3:=bA a3
    simp only [gz,List.mem_cons,List.not_mem_nil,or_false] at hx
    rcases hx with rfl | rfl | rfl | rfl <;> simp [gz,aa,f1,f2,f3,g1,g2,g3]
  · obtain ⟨l,rn⟩:=s
    obtain ⟨⟨a1,a2,a3⟩,hlen⟩:=hinv
    dsimp only at a1 a2 a3 hlen
    have g1:=bA a1
    have g2:=bA a2
    have g3:=bA a3
    simp only [gz,Hp.ok,List.all_cons,List.all_nil,Ob.ok,SV.ay,SV.ok,SV.bh,Bool.and_true,Bool.and_eq_true,decide_eq_true_eq] at hok
    obtain ⟨⟨k1,_⟩,⟨k2,_⟩,k3,k4⟩:=hok
    have q1:=bA (show k≠y by omega)
    have q2:=bA (show k≠bx by omega)
    have q3:=bA (show k≠bf by omega)
    have q4:=bA (show k≠rn by omega)
    have w0:=bA (show k+3≠k by omega)
    have w1:=bA (show k+3≠y by omega)
    have w2:=bA (show k+3≠bx by omega)
    have w3:=bA (show k+3≠bf by omega)
    have w4:=bA (show k+3≠rn by omega)
    have ea:k+1+2=k+3:=rfl
    have hF :∀ n,lk (gz y bx bf ca cb ⟨l++[x.dot],k+3⟩) n≠none→lk (gz y bx bf ca cb ⟨l,rn⟩) n≠none∨(k≤n∧n<k+4):=fun n hn=>by
      by_cases e1:n=y
      · exact .inl (by simp [gz,aa,e1])
      · by_cases e2:n=bx
        · exact .inl (by simp [gz,aa,e2,f1])
        · by_cases e3:n=bf
          · exact .inl (by simp [gz,aa,e3,f2,f3])
          · refine .inr ?_
            have:n=k+3:=Classical.byContradiction fun hne=>hn (by simp [gz,aa,bt,e1,e2,e3,hne])
            omega
    refine ⟨?_,⟨⟨by show k+3≠y;omega,by show k+3≠bx;omega,by show k+3≠bf;omega⟩,by show (l++[x.dot]).length+j≤_;rw [List.length_append];show l.length+1+j≤_;omega⟩,?_,hF⟩
    · unfold Gw
      refine wL.here (fun n=>n == y || n == bx || n == bf || n == rn) (wL.lY (cs:=[.ptr bx 0,.ptr bf 0]) (H:=[(bx,.box 31 [.gs rn l.length]),(bf,.box 130 [.fn (.func revoke_Index_Threatened_2.f) [] []]),(rn,.arr 37 2 l.length ((l.flatMap Dt.ds).map .d))]) hca hcb rfl rfl rfl (by simp) k1 (by simp [aa,bt,f1,f2,g1]) (by simp [SV.ay,SV.ok,ag.ai]) (by simp [Hp.ok,Ob.ok,SV.ay,SV.ok,SV.bh];omega) (by simp [SV.ay,SV.ok];omega) ?_) ?_ (by simp [SV.ay,SV.ok,ag.ai]) (by simp [gz,Hp.ok,Ob.ok,SV.ay,SV.ok,SV.bh]) ?_
      · skip
        show Go.Sl.SW _ _ _ _ ⟨[(8,.agg x.cells),(5,.ptr bx 0),(3,.ptr bf 0)],_,_⟩ _
        refine SW.g0 [3,5,6,8] mixed (And.intro (f1) (And.intro (f2) (And.intro (f3) (And.intro (g1) (And.intro (g2) (And.intro (g3) (And.intro (q1) (And.intro (q2) (And.intro (q3) (q4)))))))))) ?_
        refine ⟨rfl,SW.block ?_⟩
        have hcc:=fun k=>D2 x k
        refine SW.gK [3,5,6,8] mixed (And.intro (f1) (And.intro (f2) (And.intro (f3) (And.intro (g1) (And.intro (g2) (And.intro (g3) (And.intro (q1) (And.intro (q2) (And.intro (q3) (And.intro (q4) (And.intro (w0) (And.intro (w1) (And.intro (w2) (And.intro (w3) (And.intro (w4) (ea)))))))))))))))) (And.intro f1 (And.intro f2 (And.intro f3 (And.intro g1 (And.intro g2 (And.intro g3 (And.intro q1 (And.intro q2 (And.intro q3 (And.intro q4 (And.intro w0 (And.intro w1 (And.intro w2 (And.intro w3 w4)))))))))))))) (And.intro hcc True.intro) ?_
        have e2:((l++[x.dot]).flatMap Dt.ds).map SV.d=(List.flatMap Dt.ds l).map SV.d++x.dot.ds.map SV.d:=by simp
        refine ⟨none,true,[(bx,.box 31 [.gs (k+3) (l++[x.dot]).length]),(bf,.box 130 [.fn (.func revoke_Index_Threatened_2.f) [] []]),(k+3,.arr 37 2 (l++[x.dot]).length (((l++[x.dot]).flatMap Dt.ds).map .d))],⟨rfl,rfl⟩,?_,?_,by simp,⟨rfl,rfl⟩⟩
        · refine HSub.cons ?_ (HSub.cons ?_ (HSub.cons ?_ (HSub.nil _)))
          · simp [aa,f1,f2,f3,g1,g2,g3,q1,q2,q3,q4,w0,w1,w2,w3,w4,cU]
          · simp [aa,f1,f2,f3,g1,g2,g3,q1,q2,q3,q4,w0,w1,w2,w3,w4,cU]
          · rw [e2];simp [aa,Dt.qx]
        · simp [Hp.ok,Ob.ok,SV.ay,SV.ok,SV.bh,-List.flatMap_append,-List.map_append];omega
      · intro n hn
        simp only [Bool.or_eq_true,beq_iff_eq] at hn
        rcases hn with ((rfl | rfl) | rfl) | rfl <;> simp [gz,aa,f1,f2,f3,g1,g2,g3]
      · rintro r F' ⟨rfl,rfl⟩ _ _
        refine ⟨rfl,?_⟩
        simp [Ky,gz,Hp.ok,Ob.ok,SV.ay,SV.ok,SV.bh,-List.flatMap_append,-List.map_append]
    · simp [Ky,gz,Hp.ok,Ob.ok,SV.ay,SV.ok,SV.bh,-List.flatMap_append,-List.map_append]
      omega
theorem Lv {s0 s:qX}{xs:List ag}(h:gV (yV Ky) s0 xs s):s.l=s0.l++xs.map (·.dot):=by
 induction h with
 | nil=>simp
 | snoc _ h ih=>
  obtain ⟨k,rfl⟩:=h
  show _++[_]=_
  rw [ih];simp
end
section
attribute [local irreducible] SW RW aM SC ak au ir
theorem D3 (k:Nat):aM Tryz.prog dot_Sort.f [.d .aU] [] k 0 (bS (Dt.set [])) []:=by
 have:=sr [] (by simp) k
 unfold aM at this ⊢
 refine SC.args (fun p μ M vs h=> ?_) this
 obtain ⟨u,us,e,h1,h2⟩:=aR.aF.1 h
 exact aR.aF.2 ⟨u,us,e,nt _ _ _ _ h1,h2⟩
theorem D4 (L:List Dt)(hl:L.length<1000000000)(k:Nat):aM Tryz.prog dot_Sort.f [dn L] [] k 0 (bS (Dt.set L)) []:=by
 cases L with
 | nil=>exact D3 k
 | cons d L=>exact sr (d::L) hl k
set_option maxHeartbeats 4000000 in
theorem F5 (X:Ix)(hX:X.small)(c:Dt):SB Tryz.prog revoke_Index_Revokes.f [.ptr 0 0,.agg c.cells] X.h0 4 1 fun r F=>r=bS (Dt.set (X.nj c))∧F=X.h0:=by
 refine revoke_Index_Revokes.enter (by simp [SV.ay,SV.ok]) (X.wE (Nat.le_refl 4)) (by simp) ?_
 dsimp only [revoke_Index_Revokes.s,Co.M,Co.G,Co.J,Co.H,Co.N,Co.F,Co.C,Co.Z,Co.B,Co.b8,Co.aB,Co.bL,Co.i6,Co.z8,Co.bU]
 have hn:=wF X
 refine SW.seq ?_
 refine SW.g0 [0,1,3,4,6] mixed af ?_
 refine SW.seq (SW.seq ?_)
 refine SW.g1 [0,1,3,4,6] mixed af hn ?_
 refine SW.aj rfl (SW.skip ?_)
 refine SW.seq ?_
 have hlk:=su X.jV c
 change fH _ _ _=dn (X.nj c) at hlk
 have hs:=D4 (X.nj c) (by have:=hX.rv c;omega)
 refine SW.g1 [0,1,3,4,6] mixed (hlk) hs ?_
 refine SW.ret ?_
 exact End.mk X.h0 (h4:=⟨rfl,rfl⟩) (h6:=X.wE (by decide))
theorem F6 (X:Ix)(hX:X.small)(c:Dt)(k:Nat):aM Tryz.prog revoke_Index_Revokes.f [.ptr 14 0,.agg c.cells] X.qc k 1 (bS (Dt.set (X.nj c))) X.qc:=
 Ix.FZ (F5 X hX c) (fun k=>by simp [SV.aW,SV.aC,gx,Dt.ax]) (fun k=>by simp [SV.aC]) k
theorem l_ (X:Ix)(hX:X.small)(o:ag):(X.lD o).length≤1000000:=by
 unfold Ix.lD
 rw [List.length_flatMap]
 have hl:=hX.ch o.dot
 have key:∀ l:List Dt,(l.map fun c=>((X.nj c).filter fun t=> !o.before (X.op t)).length).sum≤l.length*1000:=fun l=>by
  induction l with
  | nil=>simp
  | cons c l ih=>
   rw [List.map_cons,List.sum_cons,List.length_cons,Nat.add_mul,Nat.one_mul]
   have h1:=List.length_filter_le (fun t=> !o.before (X.op t)) (X.nj c)
   have h2:=hX.rv c
   omega
 exact Nat.le_trans (key _) (Nat.le_trans (Nat.mul_le_mul_right 1000 hl) (by decide))
theorem yX {q:Nat→Bool}{A B:Hp}(h1:A.ok q=true)(h2:B.ok q=true):(A++B:Hp).ok q=true:=by
 unfold Hp.ok at*
 rw [List.all_append,h1,h2];rfl
abbrev EI (X:Ix)(o:ag):Hp:=TG X o 4 5
theorem tT (X:Ix)(o:ag){k:Nat}(h:6≤k):(EI X o).ok (fun n=>decide (n<k))=true:=
 av (by simp;omega) (by simp [Ob.ok,SV.ay,SV.ok];omega) (av (by simp;omega) (by simp [Ob.ok,ag.ai]) (X.wE (by omega)))
set_option maxHeartbeats 4000000 in
theorem D5 (X:Ix)(hX:X.small)(o:ag):SB Tryz.prog revoke_sorted_api_Dot.f [.fn (.func revoke_Index_threats_1.f) [] [.ptr 4 0,.ptr 5 0],.fn (.func revoke_Index_Threats_1.f) [] []] (EI X o) 6 (4+ir 4)
  fun r F=>r=bS (Dt.set (X.lD o))∧F=EI X o:=by
 have hlen:=l_ X hX o
 refine revoke_sorted_api_Dot.enter (by simp [SV.ay,SV.ok]) (tT X o (Nat.le_refl 6)) (by simp) ?_
 dsimp only [revoke_sorted_api_Dot.s,Co.M,Co.G,Co.J,Co.H,Co.N,Co.F,Co.C,Co.Z,Co.B,Co.b8,Co.aB,Co.bL,Co.i6,Co.z8,Co.bU]
 refine SW.seq ?_
 refine SW.g0 [0,1,3,4,5,6,7,8] mixed af ?_
 refine SW.seq ?_
 refine SW.g0 [0,1,3,4,5,6,7,8] mixed af ?_
 refine SW.th 7 31 37 2 (by rfl) ?_
 refine SW.seq (SW.seq ?_)
 refine SW.g0 [0,1,3,4,5,6,7,8] mixed af ?_
 refine SW.block (SW.mL (nk:=ir 4) [5,3] [.ptr 7 0,.ptr 6 0] rfl ⟨rfl,rfl,trivial⟩ fun ca cb hca hcb=> ?_)
 let s0:qX:=⟨[],8⟩
 have hy:=JZ (y:=9) (bx:=7) (bf:=6) (by decide) (by decide) (by decide) hca hcb
 have hF0:(gl 9 7 6 ca cb s0).ok (fun n=>decide (n<10))=true:=by simp [gl,s0,Hp.ok,Ob.ok,SV.ay,SV.ok]
 have hO:gW (TG X o 4 5) (gl 9 7 6 ca cb) s0 10:=by
  refine ⟨by simp,fun n hn=> ?_,fun n hn=> ?_,tT X o (by omega),hF0⟩
  ·simp only [TG,List.map_cons,List.map_nil,List.mem_cons,List.not_mem_nil,or_false] at hn;omega
  ·simp only [TG,List.map_cons,List.map_nil,List.mem_cons,List.not_mem_nil,or_false] at hn
   rcases hn with rfl | rfl | rfl | rfl | rfl | rfl <;> simp [gl,s0,aa,bt]
 have h0:TI X o (gl 9 7 6 ca cb) JY (JX 9 7 6) s0 10 4 5 10 (X.lD o) s0 10:=⟨⟨[],.nil,rfl⟩,⟨⟨by decide,by decide,by decide⟩,by show 0+_≤_;omega⟩,hO,Nat.le_refl _,by decide,fun n hn=> .inl hn⟩
 have hsb:=Ae (y:=9) (bx:=4) (bo:=5) (k:=10) X hX o s0 hy h0
 have hsubF:HSub (TG X o 4 5++gl 9 7 6 ca cb s0) ((9,.kJ 17 [5,3] [.ptr 7 0,.ptr 6 0] [8] ca cb .ready none)::(7,.box 31 [.gs 8 0])::(8,.arr 37 2 0 [])::(7,.box 31 [.d .aU])::(6,.box 123 [.fn (.func revoke_Index_Threats_1.f) [] []])::EI X o):=by
  intro n ob hn
  match n with
  | 0 | 1 | 2 | 3 | 4 | 5 | 6 | 7 | 8 | 9=>simpa [TG,gl,s0,aa] using hn
  | n+10=>simp [TG,gl,s0,aa,bt] at hn
 have hsc:=(hsb.here (fun n=>decide (n<10)) (fun n hn=> ?_) (by simp [SV.ay,SV.ok]) (yX (tT X o (by omega)) hF0) ?_).frame hsubF
 ·refine hsc.mono ?_
  rintro r F' ⟨F1,⟨rfl,s',hTI,rfl⟩,rfl⟩
  obtain ⟨xs,hon,hxs⟩:=hTI.h1
  rw [List.append_nil] at hxs
  have hl':=Lu hon
  obtain ⟨L,rn⟩:=s'
  have hL:L=X.lD o:=by rw [hxs];simpa [s0] using hl'
  obtain ⟨⟨b1,b2,b3⟩,_⟩:=hTI.h2
  dsimp only at b1 b2 b3
  have hno:∀ n,n∈(TG X o 4 5).map (·.1)→n≠rn:=fun n hn e=>by
   have:=hTI.own.no n hn
   rw [e] at this
   simp [gl,aa,b1,b2,b3] at this
  have b4:=hno 4 (by simp)
  have b5:=hno 5 (by simp)
  have c0:=hno 0 (by simp)
  have c1:=hno 1 (by simp)
  have c2:=hno 2 (by simp)
  have c3:=hno 3 (by simp)
  rw [← hL]
  have hlk:=fA (ro:=false) (F':=TG X o 4 5++gl 9 7 6 ca cb ⟨L,rn⟩) hsubF (fun h=>by cases h)
  generalize bV false _ _ _=G at hlk
  have hG:∀ n ob,lk (TG X o 4 5++gl 9 7 6 ca cb ⟨L,rn⟩) n=some ob→lk G n=some ob:=fun n ob h=>by
   rw [hlk,dN (.inr (by rw [h];simp)),h]
  refine ⟨none,hG 9 _ (by simp [TG,gl,aa,jQ]),?_⟩
  have hrn:rn<10+ir 4:=by
   have:=(Hp.dH hTI.own.okF (show lk (gl 9 7 6 ca cb ⟨L,rn⟩) rn=some (.arr 37 2 L.length ((L.flatMap Dt.ds).map .d)) by simp [gl,aa,b1,b2,b3])).1
   simpa using this
  refine SW.weak (fun n=>if n=8 then rn else n) (st1:=⟨[(5,.ptr 7 0)],(7,.box 31 [.gs 8 L.length])::(8,.arr 37 2 L.length ((L.flatMap Dt.ds).map .d))::EI X o,10⟩) ?_ ?_
  ·have q7:=hG 7 (.box 31 [.gs rn L.length]) (by simp [TG,gl,aa])
   have q8:=hG rn (.arr 37 2 L.length ((L.flatMap Dt.ds).map .d)) (by simp [TG,gl,aa,b1,b2,b3,b4.symm,b5.symm,c0.symm,c1.symm,c2.symm,c3.symm])
   have q4:=hG 4 (.box 27 [.ptr 0 0]) (by simp [TG,aa])
   have q5:=hG 5 (.box 43 o.cells) (by simp [TG,aa])
   have q0:=hG 0 (.box 110 [.any,.mp 1,.mp 2,.mp 3]) (by simp [TG,aa])
   have q1:=hG 1 (.map (an Dt.cells ov X.ops) X.co) (by simp [TG,aa])
   have q2:=hG 2 (.map (an Dt.cells dn X.ch) X.cc) (by simp [TG,aa])
   have q3:=hG 3 (.map (an Dt.cells dn X.jV) X.cf) (by simp [TG,aa])
   refine ⟨by show 6≤10;omega,fun n hn=>if_neg (by omega),?_,?_,?_⟩
   ·simp [aY,List.lookup,SV.aC,SV.ok]
   ·simp [uk,cR,Ob.aC,SV.aW,SV.aC,SV.ia,SV.bh,Ob.ok,SV.ay,SV.ok,q7,q8,q4,q5,q0,q1,q2,q3,b1,ag.ax,ag.ai,cF,bq,gy,dZ]
   ·intro a ha b hb e
    simp only [EI,TG,List.map_cons,List.map_nil,List.mem_cons,List.not_mem_nil,or_false] at ha hb
    rcases ha with rfl | rfl | rfl | rfl | rfl | rfl | rfl | rfl <;> rcases hb with rfl | rfl | rfl | rfl | rfl | rfl | rfl | rfl <;> simp at e <;> first | rfl | omega
  ·refine SW.pP 8 (L.flatMap Dt.ds) rfl rfl ?_
   simp only [kQ,SV.iB,List.map_cons,List.map_nil,if_true,if_false,reduceIte,di,Nat.reduceEqDiff,yy,EI,TG,Ix.h0,Ob.iB,SV.rP]
   have e0:∀ m:MM Dt ag,(an Dt.cells ov m).map (fun e=>(e.1,e.2.1,e.2.2.iB 8 L.length (L.flatMap Dt.ds)))=an Dt.cells ov m:=fun m=>qU (q:=fun _=>false) rfl (bq _ _)
   have e1:∀ m:MM Dt (List Dt),(an Dt.cells dn m).map (fun e=>(e.1,e.2.1,e.2.2.iB 8 L.length (L.flatMap Dt.ds)))=an Dt.cells dn m:=fun m=>qU (q:=fun _=>false) rfl (dZ _ _)
   have e2:SV.rP 8 L.length (L.flatMap Dt.ds) o.cells=o.cells:=SV.lC (q:=fun _=>false) rfl _ (ag.ai _ _)
   simp only [e0,e1,e2]
   have hs:=sr L (by rw [hL];omega)
   refine SW.seq ?_
   refine SW.g1 [0,1,3,4,5,6,7,8] mixed af hs ?_
   refine SW.weak id (st1:=⟨[(4,bS (Dt.set L))],EI X o,10+ir 4⟩) (aJ.same (by show 6≤10+ir 4;omega) (by simp [aY,List.lookup,SV.aC,SV.ok]) (tT X o (by show 6≤10+ir 4;omega)) (fun y hy=> ?_)) (SW.ret ?_)
   ·simp only [EI,TG,Ix.h0,List.mem_cons,List.not_mem_nil,or_false] at hy
    rcases hy with rfl | rfl | rfl | rfl | rfl | rfl <;> rfl
   exact End.mk (EI X o) (h4:=⟨rfl,rfl⟩) (h6:=tT X o (by omega)) (h7:=by show 6+(4+ir 4)≤10+ir 4;omega)
 ·match n,hn with
  | 0,_ | 1,_ | 2,_ | 3,_ | 4,_ | 5,_ | 6,_ | 7,_ | 8,_ | 9,_=>simp [TG,gl,s0,aa]
  | n +10,h=>
    have:n+10<10:=by simpa using h
    omega
 ·rintro r F' _ h1 h2
  refine ⟨SV.eT (fun n hn=> ?_) _ h1,Hp.dy (fun n hn=> ?_) h2⟩ <;> (simp at hn ⊢;omega)
end
section
attribute [local irreducible] SW RW aM SC ak au ir
def cL (X:Ix)(d:Dt):SV:=if MM.has X.ops d then .dM [bS (Dt.set (X.lD (X.op d))),i64 0] else .dM [.d .aU,i64 7]
theorem jL {X:Ix}{d:Dt}(hh:MM.has X.ops d=true):MM.get X.ops d=some (X.op d):=by
 obtain ⟨o,ho⟩:=Option.isSome_iff_exists.1 (show (MM.get X.ops d).isSome=true from hh)
 unfold Ix.op
 rw [ho];rfl
theorem D6 (X:Ix)(hX:X.small)(d:Dt)(k:Nat):aM Tryz.prog revoke_Index_Level.f [.ptr 0 0,.agg d.cells] X.h0 k 2 (fq X d) X.h0:=by
 have:=SB.qA [0,1,2,3] (vz X hX d) (by decide) X.Kx k
 rw [show X.h0.aC (gx [0,1,2,3] k)=X.h0 by simp [Hp.aC,Ob.aC,SV.aW,SV.aC,gx,cF,gy],show (fq X d).aC (gx [0,1,2,3] k)=fq X d by unfold fq;split <;> simp [SV.aW,SV.aC]] at this
 simpa [SV.aW,SV.aC,gx,Dt.ax] using this
theorem vA (X:Ix)(o:ag)(k:Nat):aM Tryz.prog revoke_Index_threats.f [.ptr 0 0,.agg o.cells] X.h0 k 2 (.fn (.func revoke_Index_threats_1.f) [] [.ptr k 0,.ptr (k+1) 0]) ((k+1,.box 43 o.cells)::(k,.box 27 [.ptr 0 0])::X.h0):=by
 have:=SB.qA [0,1,2,3] (yW X o) (by decide) X.Kx k
 have e0:gx [0,1,2,3] k 4=k:=by simp [gx]
 have e1:gx [0,1,2,3] k 5=k+1:=by simp [gx];omega
 simp [SV.aW,SV.aC,e0,e1,gx,ag.ax,Hp.aC,Ob.aC,cF,gy] at this
 rw [Nat.add_comm 1 k] at this
 exact this
theorem D7 (X:Ix)(hX:X.small)(o:ag)(k:Nat):aM Tryz.prog revoke_sorted_api_Dot.f [.fn (.func revoke_Index_threats_1.f) [] [.ptr 7 0,.ptr 8 0],.fn (.func revoke_Index_Threats_1.f) [] []] (TG X o 7 8) k (4+ir 4) (bS (Dt.set (X.lD o))) (TG X o 7 8):=by
 have:=SB.qA [0,1,2,3,7,8] (D5 X hX o) (by decide) (fun i hi=>by
  match i,hi with
  | 0,_ | 1,_ | 2,_ | 3,_ | 4,_ | 5,_=>simp [aa]) k
 simpa [SV.aW,SV.aC,gx,ag.ax,Hp.aC,Ob.aC,cF,gy] using this
set_option maxHeartbeats 4000000 in
theorem Af (X:Ix)(hX:X.small)(d:Dt):SB Tryz.prog revoke_Index_Threats.f [.ptr 0 0,.agg d.cells] X.h0 4 (9+ir 4) fun r F=>r=cL X d∧F=X.h0:=by
 refine revoke_Index_Threats.enter (by simp [SV.ay,SV.ok]) (X.wE (Nat.le_refl 4)) (by simp) ?_
 dsimp only [revoke_Index_Threats.s,Co.M,Co.G,Co.J,Co.H,Co.N,Co.F,Co.C,Co.Z,Co.B,Co.b8,Co.aB,Co.bL,Co.i6,Co.z8,Co.bU]
 have hl:=D6 X hX d
 refine SW.seq ?_
 refine SW.g0 [0,1,3,4,5,7,15] mixed af ?_
 refine SW.seq (SW.seq ?_)
 rcases hh:MM.has X.ops d with _ | _
 ·have hlv:fq X d= .dM [i64 0,i64 7]:=by unfold fq;rw [hh];rfl
  rw [hlv] at hl
  refine SW.g1 [0,1,3,4,5,7,15] mixed af hl ?_
  refine SW.seq ?_
  refine SW.g0 [0,1,3,4,5,7,15] mixed af ?_
  refine SW.ah rfl (SW.seq ?_)
  refine SW.g0 [0,1,3,4,5,7,15] mixed af ?_
  refine SW.weak id (st1:=⟨[(4,.d .aU),(5,i64 7)],X.h0,4+(9+ir 4)⟩) (aJ.same (by show 4≤4+(9+ir 4);omega) (by simp [aY,List.lookup,SV.aC,SV.ok]) (X.wE (by show 4≤4+(9+ir 4);omega)) (fun y hy=> ?_)) (SW.ret ?_)
  ·simp only [Ix.h0,List.mem_cons,List.not_mem_nil,or_false] at hy
   rcases hy with rfl | rfl | rfl | rfl <;> rfl
  exact End.mk X.h0 (h3:=fun _ _ h=>h) (h4:=⟨by simp [cL,hh,eP],rfl⟩) (h6:=X.wE (by omega)) (h7:=Nat.le_refl _)
 ·have hlv:fq X d= .dM [.d (.int .i64 (((X.kE d).length:Int) - 1)),i64 0]:=by unfold fq;rw [hh];rfl
  rw [hlv] at hl
  refine SW.g1 [0,1,3,4,5,7,15] mixed af hl ?_
  refine SW.seq ?_
  refine SW.g0 [0,1,3,4,5,7,15] mixed af ?_
  refine SW.aj rfl (SW.skip ?_)
  refine SW.seq ?_
  obtain ⟨o,ho⟩:∃ o,(MM.get X.ops d).getD ag.zero=o:=⟨_,rfl⟩
  have hto:X.op d=o:=ho
  have hthr:aM Tryz.prog revoke_Index_threats.f [.ptr 0 0,.agg o.cells] X.h0 7 2 (.fn (.func revoke_Index_threats_1.f) [] [.ptr 7 0,.ptr 8 0]) ((8,.box 43 o.cells)::(7,.box 27 [.ptr 0 0])::X.h0):=vA X o 7
  have hs:=D7 X hX o
  refine SW.g2 [0,1,3,4,5,7,15] mixed (ho) hthr hs ?_
  refine SW.ret ?_
  exact End.mk X.h0 (h3:=HSub.cons rfl (HSub.cons rfl (HSub.cons rfl (HSub.cons rfl (HSub.nil _))))) (h4:=⟨by unfold cL;rw [hh,hto];rfl,rfl⟩) (h6:=X.wE (by omega)) (h7:=by show 4+(9+ir 4)≤7+2+(4+ir 4);omega)
theorem sy (X:Ix)(hX:X.small)(d:Dt)(k:Nat):aM Tryz.prog revoke_Index_Threats.f [.ptr 14 0,.agg d.cells] X.qc k (9+ir 4) (cL X d) X.qc:=
 Ix.FZ (Af X hX d) (fun k=>by simp [SV.aW,SV.aC,gx,Dt.ax]) (fun k=>by unfold cL;split <;> simp [SV.aW,SV.aC]) k
end
end Go.Proofs.YtaelhkkjgfobhaaGreat
