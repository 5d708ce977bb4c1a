/-
 Revoke: rows of dots that grow, one by one.
-/
import Derived.Test.YtaelhkkjgfobhaaGreatU6
import Derived.Test.YtaelhkkjgfobhaaGreatUP
set_option linter.unusedSectionVars false
set_option linter.unusedVariables false
set_option linter.unusedSimpArgs false
namespace Go.Proofs.YtaelhkkjgfobhaaGreat
open Go.Sl Go.Proofs
section
attribute [local irreducible] SW RW aG SC aj an
structure rN where
 l:List Dt
 rn:Nat
theorem GZ (d:Dt):SB Tryz.prog revoke_Index_Threats_1.f [.agg d.cells] [] 0 2 fun r F=>r= .agg d.cells∧F=[]:=by
 refine revoke_Index_Threats_1.enter (by simp [SV.av,SV.ok]) rfl (by simp) ?_
 dsimp only [revoke_Index_Threats_1.s,Co.M,Co.G,Co.J,Co.H,Co.N,Co.F,Co.C,Co.Z,Co.B,Co.b8,Co.ay,Co.bz,Co.i6,Co.z8,Co.bC]
 have s1:cR [SV.d (.int .u8 0),.d (.int .u32 0)] 0 d.cells=d.cells:=rfl
 (repeat (first | refine SW.seq ?_ | refine SW.block ?_ | refine SW.g0 [0,1,2] mixed (s1) ?_ | refine SW.skip ?_ | refine SW.exit ?_ | refine SW.ret ?_ | refine SW.ak rfl ?_ | refine SW.ai rfl ?_))
 exact End.mk [] (h4:=⟨rfl,rfl⟩)
theorem G2 (d:Dt)(k:Nat):aG Tryz.prog revoke_Index_Threats_1.f [.agg d.cells] [] k 2 (.agg d.cells) []:=by
 have:=SB.new (GZ d) k
 simpa [SV.aX,SV.aB,Dt.ax,Hp.aB] using this
theorem EE (o:ag):SB Tryz.prog revoke_Index_Threatened_2.f [.agg o.cells] [] 0 2 fun r F=>r= .agg o.dot.cells∧F=[]:=by
 refine revoke_Index_Threatened_2.enter (by simp [SV.av,SV.ok,ag.ah]) rfl (by simp) ?_
 dsimp only [revoke_Index_Threatened_2.s,Co.M,Co.G,Co.J,Co.H,Co.N,Co.F,Co.C,Co.Z,Co.B,Co.b8,Co.ay,Co.bz,Co.i6,Co.z8,Co.bC]
 have s1:cR [SV.d (.int .u8 0),.d (.int .u32 0)] 0 o.dot.cells=o.dot.cells:=rfl
 have s2:List.take 2 o.cells=o.dot.cells:=rfl
 (repeat (first | refine SW.seq ?_ | refine SW.block ?_ | refine SW.g0 [0,1,2] mixed (And.intro (s1) (s2)) ?_ | refine SW.skip ?_ | refine SW.exit ?_ | refine SW.ret ?_ | refine SW.ak rfl ?_ | refine SW.ai rfl ?_))
 exact End.mk [] (h4:=⟨rfl,rfl⟩)
theorem EF (o:ag)(k:Nat):aG Tryz.prog revoke_Index_Threatened_2.f [.agg o.cells] [] k 2 (.agg o.dot.cells) []:=by
 have:=SB.new (EE o) k
 simpa [SV.aX,SV.aB,Dt.ax,ag.ax,Hp.aB] using this
def gw (y bx bf:Nat)(ca cb:Code)(s:rN):Hp:=
 [(y,.lC 17 [5,3] [.ptr bx 0,.ptr bf 0] [8] ca cb .ready none),(bx,.box 31 [.gs s.rn s.l.length]),(bf,.box 123 [.fn (.func revoke_Index_Threats_1.f) [] []]),(s.rn,.arr 37 2 s.l.length ((s.l.flatMap Dt.ds).map .d))]
def KV (y bx bf:Nat)(s:rN)(j:Nat):Prop:=(s.rn≠y∧s.rn≠bx∧s.rn≠bf)∧s.l.length+j≤100000000000
def KW (s:rN)(x:Dt)(k:Nat):rN:=⟨s.l++[x],k+3⟩
set_option maxHeartbeats 4000000 in
theorem KX {y bx bf:Nat}(h1:y≠bx)(h2:y≠bf)(h3:bx≠bf){ca cb:Code}
    (hca:cK Tryz.prog 17 ca=some (.ez [⟨some 6,.alloc 37 [.d (.int .u8 0),.d (.int .u32 0)],none⟩,⟨none,.store 2 (.t 6) (.t 8),none⟩] (jV 2) false))
    (hcb:cK Tryz.prog 17 cb=some (.block 1 (.ez [⟨some 9,.load none (.t 5),none⟩,⟨some 10,.load none (.t 3),none⟩,⟨some 11,.load (some 2) (.t 6),none⟩,⟨some 12,.call (.t 10) [(.t 11)],none⟩,⟨some 13,.lD 37 2 1 [.d (.int .u8 0),.d (.int .u32 0)] [(0,2,.t 12)],none⟩,⟨some 14,.app 37 2 8 (.t 9) (.t 13),none⟩,⟨none,.store 1 (.t 5) (.t 14),none⟩] [0,0,0,6,14,31,63] true))):
    rM Tryz.prog y (fun x:Dt=> .agg x.cells) 4 (gw y bx bf ca cb) KW (KV y bx bf):=by
  have f1:=bt h1
  have f2:=bt h2
  have f3:=bt h3
  refine ⟨fun s=>by simp [gw,aa],fun s j hinv x hx=> ?_,fun s j hinv=> ?_,fun s x k j hinv hok=> ?_⟩
  rotate_left
  · obtain ⟨⟨a1,a2,a3⟩,_⟩:=hinv
    simp [gw,Hp.ok,Ob.ok,SV.av,SV.ok,SV.bk,aa,f1,f2,f3,bt a1,bt a2,bt a3]
  rotate_left
  · obtain ⟨⟨a1,a2,a3⟩,_⟩:=hinv
    have g1:=bt a1
    have g2:=bt a2
    have g3:=bt a3
    simp only [gw,List.mem_cons,List.not_mem_nil,or_false] at hx
    rcases hx with rfl | rfl | rfl | rfl <;> simp [gw,aa,f1,f2,f3,g1,g2,g3]
  · obtain ⟨l,rn⟩:=s
    obtain ⟨⟨a1,a2,a3⟩,hlen⟩:=hinv
    dsimp only at a1 a2 a3 hlen
    have g1:=bt a1
    have g2:=bt a2
    have g3:=bt a3
    simp only [gw,Hp.ok,List.all_cons,List.all_nil,Ob.ok,SV.av,SV.ok,SV.bk,Bool.and_true,Bool.and_eq_true,decide_eq_true_eq] at hok
    obtain ⟨⟨k1,_⟩,⟨k2,_⟩,k3,k4⟩:=hok
    have q1:=bt (show k≠y by omega)
    have q2:=bt (show k≠bx by omega)
    have q3:=bt (show k≠bf by omega)
    have q4:=bt (show k≠rn by omega)
    have w0:=bt (show k+3≠k by omega)
    have w1:=bt (show k+3≠y by omega)
    have w2:=bt (show k+3≠bx by omega)
    have w3:=bt (show k+3≠bf by omega)
    have w4:=bt (show k+3≠rn by omega)
    have ea:k+1+2=k+3:=rfl
    have hF :∀ n,lk (gw y bx bf ca cb ⟨l++[x],k+3⟩) n≠none→lk (gw y bx bf ca cb ⟨l,rn⟩) n≠none∨(k≤n∧n<k+4):=fun n hn=>by
      by_cases e1:n=y
      · exact .inl (by simp [gw,aa,e1])
      · by_cases e2:n=bx
        · exact .inl (by simp [gw,aa,e2,f1])
        · by_cases e3:n=bf
          · exact .inl (by simp [gw,aa,e3,f2,f3])
          · refine .inr ?_
            have:n=k+3:=Classical.byContradiction fun hne=>hn (by simp [gw,aa,bw,e1,e2,e3,hne])
            omega
    refine ⟨?_,⟨⟨by show k+3≠y;omega,by show k+3≠bx;omega,by show k+3≠bf;omega⟩,by show (l++[x]).length+j≤_;rw [List.length_append];show l.length+1+j≤_;omega⟩,?_,hF⟩
    · unfold HD
      refine w_.here (fun n=>n == y || n == bx || n == bf || n == rn) (w_.mN (cs:=[.ptr bx 0,.ptr bf 0]) (H:=[(bx,.box 31 [.gs rn l.length]),(bf,.box 123 [.fn (.func revoke_Index_Threats_1.f) [] []]),(rn,.arr 37 2 l.length ((l.flatMap Dt.ds).map .d))]) hca hcb rfl rfl rfl (by simp) k1 (by simp [aa,bw,f1,f2,g1]) (by simp [SV.av,SV.ok,Dt.ah]) (by simp [Hp.ok,Ob.ok,SV.av,SV.ok,SV.bk];omega) (by simp [SV.av,SV.ok];omega) ?_) ?_ (by simp [SV.av,SV.ok,Dt.ah]) (by simp [gw,Hp.ok,Ob.ok,SV.av,SV.ok,SV.bk]) ?_
      · skip
        show Go.Sl.SW _ _ _ _ ⟨[(8,.agg x.cells),(5,.ptr bx 0),(3,.ptr bf 0)],_,_⟩ _
        refine SW.g0 [3,5,6,8] mixed (And.intro (f1) (And.intro (f2) (And.intro (f3) (And.intro (g1) (And.intro (g2) (And.intro (g3) (And.intro (q1) (And.intro (q2) (And.intro (q3) (q4)))))))))) ?_
        refine ⟨rfl,SW.block ?_⟩
        have hcc:=fun k=>G2 x k
        refine SW.gK [3,5,6,8] mixed (And.intro (f1) (And.intro (f2) (And.intro (f3) (And.intro (g1) (And.intro (g2) (And.intro (g3) (And.intro (q1) (And.intro (q2) (And.intro (q3) (And.intro (q4) (And.intro (w0) (And.intro (w1) (And.intro (w2) (And.intro (w3) (And.intro (w4) (ea)))))))))))))))) (And.intro f1 (And.intro f2 (And.intro f3 (And.intro g1 (And.intro g2 (And.intro g3 (And.intro q1 (And.intro q2 (And.intro q3 (And.intro q4 (And.intro w0 (And.intro w1 (And.intro w2 (And.intro w3 w4)))))))))))))) (And.intro hcc True.intro) ?_
        have e2:((l++[x]).flatMap Dt.ds).map SV.d=(List.flatMap Dt.ds l).map SV.d++x.ds.map SV.d:=by simp
        refine ⟨none,true,[(bx,.box 31 [.gs (k+3) (l++[x]).length]),(bf,.box 123 [.fn (.func revoke_Index_Threats_1.f) [] []]),(k+3,.arr 37 2 (l++[x]).length (((l++[x]).flatMap Dt.ds).map .d))],⟨rfl,rfl⟩,?_,?_,by simp,⟨rfl,rfl⟩⟩
        · refine HSub.cons ?_ (HSub.cons ?_ (HSub.cons ?_ (HSub.nil _)))
          · simp [aa,f1,f2,f3,g1,g2,g3,q1,q2,q3,q4,w0,w1,w2,w3,w4,cR]
          · simp [aa,f1,f2,f3,g1,g2,g3,q1,q2,q3,q4,w0,w1,w2,w3,w4,cR]
          · rw [e2];simp [aa,Dt.jr]
        · simp [Hp.ok,Ob.ok,SV.av,SV.ok,SV.bk,-List.flatMap_append,-List.map_append];omega
      · intro n hn
        simp only [Bool.or_eq_true,beq_iff_eq] at hn
        rcases hn with ((rfl | rfl) | rfl) | rfl <;> simp [gw,aa,f1,f2,f3,g1,g2,g3]
      · rintro r F' ⟨rfl,rfl⟩ _ _
        refine ⟨rfl,?_⟩
        simp [KW,gw,Hp.ok,Ob.ok,SV.av,SV.ok,SV.bk,-List.flatMap_append,-List.map_append]
    · simp [KW,gw,Hp.ok,Ob.ok,SV.av,SV.ok,SV.bk,-List.flatMap_append,-List.map_append]
      omega
theorem MG {s0 s:rN}{xs:List Dt}(h:ir (zH KW) s0 xs s):s.l=s0.l++xs:=by
 induction h with
 | nil=>simp
 | snoc _ h ih=>
  obtain ⟨k,rfl⟩:=h
  show _++[_]=_
  rw [ih];simp
def gD (y bx bf:Nat)(ca cb:Code)(s:rN):Hp:=
 [(y,.lC 17 [5,3] [.ptr bx 0,.ptr bf 0] [8] ca cb .ready none),(bx,.box 31 [.gs s.rn s.l.length]),(bf,.box 130 [.fn (.func revoke_Index_Threatened_2.f) [] []]),(s.rn,.arr 37 2 s.l.length ((s.l.flatMap Dt.ds).map .d))]
def Jx (y bx bf:Nat)(s:rN)(j:Nat):Prop:=(s.rn≠y∧s.rn≠bx∧s.rn≠bf)∧s.l.length+j≤100000000000
def Lv (s:rN)(x:ag)(k:Nat):rN:=⟨s.l++[x.dot],k+3⟩
set_option maxHeartbeats 4000000 in
theorem KY {y bx bf:Nat}(h1:y≠bx)(h2:y≠bf)(h3:bx≠bf){ca cb:Code}
    (hca:cK Tryz.prog 17 ca=some (.ez [⟨some 6,.alloc 43 CF,none⟩,⟨none,.store 29 (.t 6) (.t 8),none⟩] (jV 2) false))
    (hcb:cK Tryz.prog 17 cb=some (.block 1 (.ez [⟨some 9,.load none (.t 5),none⟩,⟨some 10,.load none (.t 3),none⟩,⟨some 11,.load (some 29) (.t 6),none⟩,⟨some 12,.call (.t 10) [(.t 11)],none⟩,⟨some 13,.lD 37 2 1 [.d (.int .u8 0),.d (.int .u32 0)] [(0,2,.t 12)],none⟩,⟨some 14,.app 37 2 8 (.t 9) (.t 13),none⟩,⟨none,.store 1 (.t 5) (.t 14),none⟩] [0,0,0,6,14,31,63] true))):
    rM Tryz.prog y (fun x:ag=> .agg x.cells) 4 (gD y bx bf ca cb) Lv (Jx y bx bf):=by
  have f1:=bt h1
  have f2:=bt h2
  have f3:=bt h3
  refine ⟨fun s=>by simp [gD,aa],fun s j hinv x hx=> ?_,fun s j hinv=> ?_,fun s x k j hinv hok=> ?_⟩
  rotate_left
  · obtain ⟨⟨a1,a2,a3⟩,_⟩:=hinv
    simp [gD,Hp.ok,Ob.ok,SV.av,SV.ok,SV.bk,aa,f1,f2,f3,bt a1,bt a2,bt a3]
  rotate_left
  · obtain ⟨⟨a1,a2,a3⟩,_⟩:=hinv
    have g1:=bt a1
    have g2:=bt a2
    have g3:=bt a3
    simp only [gD,List.mem_cons,List.not_mem_nil,or_false] at hx
    rcases hx with rfl | rfl | rfl | rfl <;> simp [gD,aa,f1,f2,f3,g1,g2,g3]
  · obtain ⟨l,rn⟩:=s
    obtain ⟨⟨a1,a2,a3⟩,hlen⟩:=hinv
    dsimp only at a1 a2 a3 hlen
    have g1:=bt a1
    have g2:=bt a2
    have g3:=bt a3
    simp only [gD,Hp.ok,List.all_cons,List.all_nil,Ob.ok,SV.av,SV.ok,SV.bk,Bool.and_true,Bool.and_eq_true,decide_eq_true_eq] at hok
    obtain ⟨⟨k1,_⟩,⟨k2,_⟩,k3,k4⟩:=hok
    have q1:=bt (show k≠y by omega)
    have q2:=bt (show k≠bx by omega)
    have q3:=bt (show k≠bf by omega)
    have q4:=bt (show k≠rn by omega)
    have w0:=bt (show k+3≠k by omega)
    have w1:=bt (show k+3≠y by omega)
    have w2:=bt (show k+3≠bx by omega)
    have w3:=bt (show k+3≠bf by omega)
    have w4:=bt (show k+3≠rn by omega)
    have ea:k+1+2=k+3:=rfl
    have hF :∀ n,lk (gD y bx bf ca cb ⟨l++[x.dot],k+3⟩) n≠none→lk (gD y bx bf ca cb ⟨l,rn⟩) n≠none∨(k≤n∧n<k+4):=fun n hn=>by
      by_cases e1:n=y
      · exact .inl (by simp [gD,aa,e1])
      · by_cases e2:n=bx
        · exact .inl (by simp [gD,aa,e2,f1])
        · by_cases e3:n=bf
          · exact .inl (by simp [gD,aa,e3,f2,f3])
          · refine .inr ?_
            have:n=k+3:=Classical.byContradiction fun hne=>hn (by simp [gD,aa,bw,e1,e2,e3,hne])
            omega
    refine ⟨?_,⟨⟨by show k+3≠y;omega,by show k+3≠bx;omega,by show k+3≠bf;omega⟩,by show (l++[x.dot]).length+j≤_;rw [List.length_append];show l.length+1+j≤_;omega⟩,?_,hF⟩
    · unfold HD
      refine w_.here (fun n=>n == y || n == bx || n == bf || n == rn) (w_.mN (cs:=[.ptr bx 0,.ptr bf 0]) (H:=[(bx,.box 31 [.gs rn l.length]),(bf,.box 130 [.fn (.func revoke_Index_Threatened_2.f) [] []]),(rn,.arr 37 2 l.length ((l.flatMap Dt.ds).map .d))]) hca hcb rfl rfl rfl (by simp) k1 (by simp [aa,bw,f1,f2,g1]) (by simp [SV.av,SV.ok,ag.ah]) (by simp [Hp.ok,Ob.ok,SV.av,SV.ok,SV.bk];omega) (by simp [SV.av,SV.ok];omega) ?_) ?_ (by simp [SV.av,SV.ok,ag.ah]) (by simp [gD,Hp.ok,Ob.ok,SV.av,SV.ok,SV.bk]) ?_
      · skip
        show Go.Sl.SW _ _ _ _ ⟨[(8,.agg x.cells),(5,.ptr bx 0),(3,.ptr bf 0)],_,_⟩ _
        refine SW.g0 [3,5,6,8] mixed (And.intro (f1) (And.intro (f2) (And.intro (f3) (And.intro (g1) (And.intro (g2) (And.intro (g3) (And.intro (q1) (And.intro (q2) (And.intro (q3) (q4)))))))))) ?_
        refine ⟨rfl,SW.block ?_⟩
        have hcc:=fun k=>EF x k
        refine SW.gK [3,5,6,8] mixed (And.intro (f1) (And.intro (f2) (And.intro (f3) (And.intro (g1) (And.intro (g2) (And.intro (g3) (And.intro (q1) (And.intro (q2) (And.intro (q3) (And.intro (q4) (And.intro (w0) (And.intro (w1) (And.intro (w2) (And.intro (w3) (And.intro (w4) (ea)))))))))))))))) (And.intro f1 (And.intro f2 (And.intro f3 (And.intro g1 (And.intro g2 (And.intro g3 (And.intro q1 (And.intro q2 (And.intro q3 (And.intro q4 (And.intro w0 (And.intro w1 (And.intro w2 (And.intro w3 w4)))))))))))))) (And.intro hcc True.intro) ?_
        have e2:((l++[x.dot]).flatMap Dt.ds).map SV.d=(List.flatMap Dt.ds l).map SV.d++x.dot.ds.map SV.d:=by simp
        refine ⟨none,true,[(bx,.box 31 [.gs (k+3) (l++[x.dot]).length]),(bf,.box 130 [.fn (.func revoke_Index_Threatened_2.f) [] []]),(k+3,.arr 37 2 (l++[x.dot]).length (((l++[x.dot]).flatMap Dt.ds).map .d))],⟨rfl,rfl⟩,?_,?_,by simp,⟨rfl,rfl⟩⟩
        · refine HSub.cons ?_ (HSub.cons ?_ (HSub.cons ?_ (HSub.nil _)))
          · simp [aa,f1,f2,f3,g1,g2,g3,q1,q2,q3,q4,w0,w1,w2,w3,w4,cR]
          · simp [aa,f1,f2,f3,g1,g2,g3,q1,q2,q3,q4,w0,w1,w2,w3,w4,cR]
          · rw [e2];simp [aa,Dt.jr]
        · simp [Hp.ok,Ob.ok,SV.av,SV.ok,SV.bk,-List.flatMap_append,-List.map_append];omega
      · intro n hn
        simp only [Bool.or_eq_true,beq_iff_eq] at hn
        rcases hn with ((rfl | rfl) | rfl) | rfl <;> simp [gD,aa,f1,f2,f3,g1,g2,g3]
      · rintro r F' ⟨rfl,rfl⟩ _ _
        refine ⟨rfl,?_⟩
        simp [Lv,gD,Hp.ok,Ob.ok,SV.av,SV.ok,SV.bk,-List.flatMap_append,-List.map_append]
    · simp [Lv,gD,Hp.ok,Ob.ok,SV.av,SV.ok,SV.bk,-List.flatMap_append,-List.map_append]
      omega
theorem MH {s0 s:rN}{xs:List ag}(h:ir (zH Lv) s0 xs s):s.l=s0.l++xs.map (·.dot):=by
 induction h with
 | nil=>simp
 | snoc _ h ih=>
  obtain ⟨k,rfl⟩:=h
  show _++[_]=_
  rw [ih];simp
end
section
attribute [local irreducible] SW RW aG SC aj an iI
theorem EG (k:Nat):aG Tryz.prog dot_Sort.f [.d .aD] [] k 0 (aU (Dt.set [])) []:=by
 have:=sN [] (by simp) k
 unfold aG at this ⊢
 refine SC.args (fun p μ M vs h=> ?_) this
 obtain ⟨u,us,e,h1,h2⟩:=aS.aC.1 h
 exact aS.aC.2 ⟨u,us,e,me _ _ _ _ h1,h2⟩
theorem yy (L:List Dt)(hl:L.length<1000000000)(k:Nat):aG Tryz.prog dot_Sort.f [dn L] [] k 0 (aU (Dt.set L)) []:=by
 cases L with
 | nil=>exact EG k
 | cons d L=>exact sN (d::L) hl k
set_option maxHeartbeats 4000000 in
theorem AK (X:Ix)(hX:X.small)(c:Dt):SB Tryz.prog revoke_Index_Revokes.f [.ptr 0 0,.agg c.cells] X.h0 4 1 fun r F=>r=aU (Dt.set (X.nu c))∧F=X.h0:=by
 refine revoke_Index_Revokes.enter (by simp [SV.av,SV.ok]) (X.sB (Nat.le_refl 4)) (by simp) ?_
 dsimp only [revoke_Index_Revokes.s,Co.M,Co.G,Co.J,Co.H,Co.N,Co.F,Co.C,Co.Z,Co.B,Co.b8,Co.ay,Co.bz,Co.i6,Co.z8,Co.bC]
 have hn:=sO X
 refine SW.seq ?_
 refine SW.g0 [0,1,3,4,6] mixed af ?_
 refine SW.seq (SW.seq ?_)
 refine SW.g1 [0,1,3,4,6] mixed af hn ?_
 refine SW.ai rfl (SW.skip ?_)
 refine SW.seq ?_
 have hlk:=qA X.jP c
 change eW _ _ _=dn (X.nu c) at hlk
 have hs:=yy (X.nu c) (by have:=hX.rv c;omega)
 refine SW.g1 [0,1,3,4,6] mixed (hlk) hs ?_
 refine SW.ret ?_
 exact End.mk X.h0 (h4:=⟨rfl,rfl⟩) (h6:=X.sB (by decide))
theorem G3 (X:Ix)(hX:X.small)(c:Dt)(k:Nat):aG Tryz.prog revoke_Index_Revokes.f [.ptr 14 0,.agg c.cells] X.qC k 1 (aU (Dt.set (X.nu c))) X.qC:=
 Ix.GY (AK X hX c) (fun k=>by simp [SV.aX,SV.aB,fH,Dt.ax]) (fun k=>by simp [SV.aB]) k
theorem wO (X:Ix)(hX:X.small)(o:ag):(X.pM o).length≤1000000:=by
 unfold Ix.pM
 rw [List.length_flatMap]
 have hl:=hX.ch o.dot
 have key:∀ l:List Dt,(l.map fun c=>((X.nu c).filter fun t=> !o.before (X.op t)).length).sum≤l.length*1000:=fun l=>by
  induction l with
  | nil=>simp
  | cons c l ih=>
   rw [List.map_cons,List.sum_cons,List.length_cons,Nat.add_mul,Nat.one_mul]
   have h1:=List.length_filter_le (fun t=> !o.before (X.op t)) (X.nu c)
   have h2:=hX.rv c
   omega
 exact Nat.le_trans (key _) (Nat.le_trans (Nat.mul_le_mul_right 1000 hl) (by decide))
theorem wP {q:Nat→Bool}{A B:Hp}(h1:A.ok q=true)(h2:B.ok q=true):(A++B:Hp).ok q=true:=by
 unfold Hp.ok at*
 rw [List.all_append,h1,h2];rfl
abbrev Fk (X:Ix)(o:ag):Hp:=TG X o 4 5
theorem ur (X:Ix)(o:ag){k:Nat}(h:6≤k):(Fk X o).ok (fun n=>decide (n<k))=true:=
 au (by simp;omega) (by simp [Ob.ok,SV.av,SV.ok];omega) (au (by simp;omega) (by simp [Ob.ok,ag.ah]) (X.sB (by omega)))
set_option maxHeartbeats 4000000 in
theorem EH (X:Ix)(hX:X.small)(o:ag):SB Tryz.prog revoke_sorted_api_Dot.f [.fn (.func revoke_Index_threats_1.f) [] [.ptr 4 0,.ptr 5 0],.fn (.func revoke_Index_Threats_1.f) [] []] (Fk X o) 6 (4+iI 4)
  fun r F=>r=aU (Dt.set (X.pM o))∧F=Fk X o:=by
 have hlen:=wO X hX o
 refine revoke_sorted_api_Dot.enter (by simp [SV.av,SV.ok]) (ur X o (Nat.le_refl 6)) (by simp) ?_
 dsimp only [revoke_sorted_api_Dot.s,Co.M,Co.G,Co.J,Co.H,Co.N,Co.F,Co.C,Co.Z,Co.B,Co.b8,Co.ay,Co.bz,Co.i6,Co.z8,Co.bC]
 refine SW.seq ?_
 refine SW.g0 [0,1,3,4,5,6,7,8] mixed af ?_
 refine SW.seq ?_
 refine SW.g0 [0,1,3,4,5,6,7,8] mixed af ?_
 refine SW.tQ 7 31 37 2 (by rfl) ?_
 refine SW.seq (SW.seq ?_)
 refine SW.g0 [0,1,3,4,5,6,7,8] mixed af ?_
 refine SW.block (SW.nE (nk:=iI 4) [5,3] [.ptr 7 0,.ptr 6 0] rfl ⟨rfl,rfl,trivial⟩ fun ca cb hca hcb=> ?_)
 let s0:rN:=⟨[],8⟩
 have hy:=KX (y:=9) (bx:=7) (bf:=6) (by decide) (by decide) (by decide) hca hcb
 have hF0:(gw 9 7 6 ca cb s0).ok (fun n=>decide (n<10))=true:=by simp [gw,s0,Hp.ok,Ob.ok,SV.av,SV.ok]
 have hO:iu (TG X o 4 5) (gw 9 7 6 ca cb) s0 10:=by
  refine ⟨by simp,fun n hn=> ?_,fun n hn=> ?_,ur X o (by omega),hF0⟩
  ·simp only [TG,List.map_cons,List.map_nil,List.mem_cons,List.not_mem_nil,or_false] at hn;omega
  ·simp only [TG,List.map_cons,List.map_nil,List.mem_cons,List.not_mem_nil,or_false] at hn
   rcases hn with rfl | rfl | rfl | rfl | rfl | rfl <;> simp [gw,s0,aa,bw]
 have h0:TI X o (gw 9 7 6 ca cb) KW (KV 9 7 6) s0 10 4 5 10 (X.pM o) s0 10:=⟨⟨[],.nil,rfl⟩,⟨⟨by decide,by decide,by decide⟩,by show 0+_≤_;omega⟩,hO,Nat.le_refl _,by decide,fun n hn=> .inl hn⟩
 have hsb:=AJ (y:=9) (bx:=4) (bo:=5) (k:=10) X hX o s0 hy h0
 have hsubF:HSub (TG X o 4 5++gw 9 7 6 ca cb s0) ((9,.lC 17 [5,3] [.ptr 7 0,.ptr 6 0] [8] ca cb .ready none)::(7,.box 31 [.gs 8 0])::(8,.arr 37 2 0 [])::(7,.box 31 [.d .aD])::(6,.box 123 [.fn (.func revoke_Index_Threats_1.f) [] []])::Fk X o):=by
  intro n ob hn
  match n with
  | 0 | 1 | 2 | 3 | 4 | 5 | 6 | 7 | 8 | 9=>simpa [TG,gw,s0,aa] using hn
  | n+10=>simp [TG,gw,s0,aa,bw] at hn
 have hsc:=(hsb.here (fun n=>decide (n<10)) (fun n hn=> ?_) (by simp [SV.av,SV.ok]) (wP (ur X o (by omega)) hF0) ?_).frame hsubF
 ·refine hsc.mono ?_
  rintro r F' ⟨F1,⟨rfl,s',hTI,rfl⟩,rfl⟩
  obtain ⟨xs,hon,hxs⟩:=hTI.h1
  rw [List.append_nil] at hxs
  have hl':=MG hon
  obtain ⟨L,rn⟩:=s'
  have hL:L=X.pM o:=by rw [hxs];simpa [s0] using hl'
  obtain ⟨⟨b1,b2,b3⟩,_⟩:=hTI.h2
  dsimp only at b1 b2 b3
  have hno:∀ n,n∈(TG X o 4 5).map (·.1)→n≠rn:=fun n hn e=>by
   have:=hTI.own.no n hn
   rw [e] at this
   simp [gw,aa,b1,b2,b3] at this
  have b4:=hno 4 (by simp)
  have b5:=hno 5 (by simp)
  have c0:=hno 0 (by simp)
  have c1:=hno 1 (by simp)
  have c2:=hno 2 (by simp)
  have c3:=hno 3 (by simp)
  rw [← hL]
  have hlk:=fG (ro:=false) (F':=TG X o 4 5++gw 9 7 6 ca cb ⟨L,rn⟩) hsubF (fun h=>by cases h)
  generalize bL false _ _ _=G at hlk
  have hG:∀ n ob,lk (TG X o 4 5++gw 9 7 6 ca cb ⟨L,rn⟩) n=some ob→lk G n=some ob:=fun n ob h=>by
   rw [hlk,dL (.inr (by rw [h];simp)),h]
  refine ⟨none,hG 9 _ (by simp [TG,gw,aa,ko]),?_⟩
  have hrn:rn<10+iI 4:=by
   have:=(Hp.dJ hTI.own.okF (show lk (gw 9 7 6 ca cb ⟨L,rn⟩) rn=some (.arr 37 2 L.length ((L.flatMap Dt.ds).map .d)) by simp [gw,aa,b1,b2,b3])).1
   simpa using this
  refine SW.weak (fun n=>if n=8 then rn else n) (st1:=⟨[(5,.ptr 7 0)],(7,.box 31 [.gs 8 L.length])::(8,.arr 37 2 L.length ((L.flatMap Dt.ds).map .d))::Fk X o,10⟩) ?_ ?_
  ·have q7:=hG 7 (.box 31 [.gs rn L.length]) (by simp [TG,gw,aa])
   have q8:=hG rn (.arr 37 2 L.length ((L.flatMap Dt.ds).map .d)) (by simp [TG,gw,aa,b1,b2,b3,b4.symm,b5.symm,c0.symm,c1.symm,c2.symm,c3.symm])
   have q4:=hG 4 (.box 27 [.ptr 0 0]) (by simp [TG,aa])
   have q5:=hG 5 (.box 43 o.cells) (by simp [TG,aa])
   have q0:=hG 0 (.box 110 [.any,.mp 1,.mp 2,.mp 3]) (by simp [TG,aa])
   have q1:=hG 1 (.map (aq Dt.cells ov X.ops) X.co) (by simp [TG,aa])
   have q2:=hG 2 (.map (aq Dt.cells dn X.ch) X.cc) (by simp [TG,aa])
   have q3:=hG 3 (.map (aq Dt.cells dn X.jP) X.cf) (by simp [TG,aa])
   refine ⟨by show 6≤10;omega,fun n hn=>if_neg (by omega),?_,?_,?_⟩
   ·simp [aP,List.lookup,SV.aB,SV.ok]
   ·simp [uO,bT,Ob.aB,SV.aX,SV.aB,SV.iz,SV.bk,Ob.ok,SV.av,SV.ok,q7,q8,q4,q5,q0,q1,q2,q3,b1,ag.ax,ag.ah,cF,bu,gC,dH]
   ·intro a ha b hb e
    simp only [Fk,TG,List.map_cons,List.map_nil,List.mem_cons,List.not_mem_nil,or_false] at ha hb
    rcases ha with rfl | rfl | rfl | rfl | rfl | rfl | rfl | rfl <;> rcases hb with rfl | rfl | rfl | rfl | rfl | rfl | rfl | rfl <;> simp at e <;> first | rfl | omega
  ·refine SW.qm 8 (L.flatMap Dt.ds) rfl rfl ?_
   simp only [iP,SV.gp,List.map_cons,List.map_nil,if_true,if_false,reduceIte,bS,Nat.reduceEqDiff,zg,Fk,TG,Ix.h0,Ob.gp,SV.jl]
   have e0:∀ m:MM Dt ag,(aq Dt.cells ov m).map (fun e=>(e.1,e.2.1,e.2.2.gp 8 L.length (L.flatMap Dt.ds)))=aq Dt.cells ov m:=fun m=>rI (q:=fun _=>false) rfl (bu _ _)
   have e1:∀ m:MM Dt (List Dt),(aq Dt.cells dn m).map (fun e=>(e.1,e.2.1,e.2.2.gp 8 L.length (L.flatMap Dt.ds)))=aq Dt.cells dn m:=fun m=>rI (q:=fun _=>false) rfl (dH _ _)
   have e2:SV.jl 8 L.length (L.flatMap Dt.ds) o.cells=o.cells:=SV.kE (q:=fun _=>false) rfl _ (ag.ah _ _)
   simp only [e0,e1,e2]
   have hs:=sN L (by rw [hL];omega)
   refine SW.seq ?_
   refine SW.g1 [0,1,3,4,5,6,7,8] mixed af hs ?_
   refine SW.weak id (st1:=⟨[(4,aU (Dt.set L))],Fk X o,10+iI 4⟩) (aK.same (by show 6≤10+iI 4;omega) (by simp [aP,List.lookup,SV.aB,SV.ok]) (ur X o (by show 6≤10+iI 4;omega)) (fun y hy=> ?_)) (SW.ret ?_)
   ·simp only [Fk,TG,Ix.h0,List.mem_cons,List.not_mem_nil,or_false] at hy
    rcases hy with rfl | rfl | rfl | rfl | rfl | rfl <;> rfl
   exact End.mk (Fk X o) (h4:=⟨rfl,rfl⟩) (h6:=ur X o (by omega)) (h7:=by show 6+(4+iI 4)≤10+iI 4;omega)
 ·match n,hn with
  | 0,_ | 1,_ | 2,_ | 3,_ | 4,_ | 5,_ | 6,_ | 7,_ | 8,_ | 9,_=>simp [TG,gw,s0,aa]
  | n +10,h=>
    have:n+10<10:=by simpa using h
    omega
 ·rintro r F' _ h1 h2
  refine ⟨SV.eA (fun n hn=> ?_) _ h1,Hp.cW (fun n hn=> ?_) h2⟩ <;> (simp at hn ⊢;omega)
end
section
attribute [local irreducible] SW RW aG SC aj an iI
def fV (X:Ix)(d:Dt):SV:=if MM.has X.ops d then .cN [aU (Dt.set (X.pM (X.op d))),i64 0] else .cN [.d .aD,i64 7]
theorem jW {X:Ix}{d:Dt}(hh:MM.has X.ops d=true):MM.get X.ops d=some (X.op d):=by
 obtain ⟨o,ho⟩:=Option.isSome_iff_exists.1 (show (MM.get X.ops d).isSome=true from hh)
 unfold Ix.op
 rw [ho];rfl
theorem EI (X:Ix)(hX:X.small)(d:Dt)(k:Nat):aG Tryz.prog revoke_Index_Level.f [.ptr 0 0,.agg d.cells] X.h0 k 2 (eu X d) X.h0:=by
 have:=SB.q_ [0,1,2,3] (rK X hX d) (by decide) X.Lu k
 rw [show X.h0.aB (fH [0,1,2,3] k)=X.h0 by simp [Hp.aB,Ob.aB,SV.aX,SV.aB,fH,cF,gC],show (eu X d).aB (fH [0,1,2,3] k)=eu X d by unfold eu;split <;> simp [SV.aX,SV.aB]] at this
 simpa [SV.aX,SV.aB,fH,Dt.ax] using this
theorem vJ (X:Ix)(o:ag)(k:Nat):aG Tryz.prog revoke_Index_threats.f [.ptr 0 0,.agg o.cells] X.h0 k 2 (.fn (.func revoke_Index_threats_1.f) [] [.ptr k 0,.ptr (k+1) 0]) ((k+1,.box 43 o.cells)::(k,.box 27 [.ptr 0 0])::X.h0):=by
 have:=SB.q_ [0,1,2,3] (zI X o) (by decide) X.Lu k
 have e0:fH [0,1,2,3] k 4=k:=by simp [fH]
 have e1:fH [0,1,2,3] k 5=k+1:=by simp [fH];omega
 simp [SV.aX,SV.aB,e0,e1,fH,ag.ax,Hp.aB,Ob.aB,cF,gC] at this
 rw [Nat.add_comm 1 k] at this
 exact this
theorem EJ (X:Ix)(hX:X.small)(o:ag)(k:Nat):aG Tryz.prog revoke_sorted_api_Dot.f [.fn (.func revoke_Index_threats_1.f) [] [.ptr 7 0,.ptr 8 0],.fn (.func revoke_Index_Threats_1.f) [] []] (TG X o 7 8) k (4+iI 4) (aU (Dt.set (X.pM o))) (TG X o 7 8):=by
 have:=SB.q_ [0,1,2,3,7,8] (EH X hX o) (by decide) (fun i hi=>by
  match i,hi with
  | 0,_ | 1,_ | 2,_ | 3,_ | 4,_ | 5,_=>simp [aa]) k
 simpa [SV.aX,SV.aB,fH,ag.ax,Hp.aB,Ob.aB,cF,gC] using this
set_option maxHeartbeats 4000000 in
theorem AL (X:Ix)(hX:X.small)(d:Dt):SB Tryz.prog revoke_Index_Threats.f [.ptr 0 0,.agg d.cells] X.h0 4 (9+iI 4) fun r F=>r=fV X d∧F=X.h0:=by
 refine revoke_Index_Threats.enter (by simp [SV.av,SV.ok]) (X.sB (Nat.le_refl 4)) (by simp) ?_
 dsimp only [revoke_Index_Threats.s,Co.M,Co.G,Co.J,Co.H,Co.N,Co.F,Co.C,Co.Z,Co.B,Co.b8,Co.ay,Co.bz,Co.i6,Co.z8,Co.bC]
 have hl:=EI X hX d
 refine SW.seq ?_
 refine SW.g0 [0,1,3,4,5,7,15] mixed af ?_
 refine SW.seq (SW.seq ?_)
 rcases hh:MM.has X.ops d with _ | _
 ·have hlv:eu X d= .cN [i64 0,i64 7]:=by unfold eu;rw [hh];rfl
  rw [hlv] at hl
  refine SW.g1 [0,1,3,4,5,7,15] mixed af hl ?_
  refine SW.seq ?_
  refine SW.g0 [0,1,3,4,5,7,15] mixed af ?_
  refine SW.ak rfl (SW.seq ?_)
  refine SW.g0 [0,1,3,4,5,7,15] mixed af ?_
  refine SW.weak id (st1:=⟨[(4,.d .aD),(5,i64 7)],X.h0,4+(9+iI 4)⟩) (aK.same (by show 4≤4+(9+iI 4);omega) (by simp [aP,List.lookup,SV.aB,SV.ok]) (X.sB (by show 4≤4+(9+iI 4);omega)) (fun y hy=> ?_)) (SW.ret ?_)
  ·simp only [Ix.h0,List.mem_cons,List.not_mem_nil,or_false] at hy
   rcases hy with rfl | rfl | rfl | rfl <;> rfl
  exact End.mk X.h0 (h3:=fun _ _ h=>h) (h4:=⟨by simp [fV,hh,ej],rfl⟩) (h6:=X.sB (by omega)) (h7:=Nat.le_refl _)
 ·have hlv:eu X d= .cN [.d (.int .i64 (((X.kI d).length:Int) - 1)),i64 0]:=by unfold eu;rw [hh];rfl
  rw [hlv] at hl
  refine SW.g1 [0,1,3,4,5,7,15] mixed af hl ?_
  refine SW.seq ?_
  refine SW.g0 [0,1,3,4,5,7,15] mixed af ?_
  refine SW.ai rfl (SW.skip ?_)
  refine SW.seq ?_
  obtain ⟨o,ho⟩:∃ o,(MM.get X.ops d).getD ag.zero=o:=⟨_,rfl⟩
  have hto:X.op d=o:=ho
  have hthr:aG Tryz.prog revoke_Index_threats.f [.ptr 0 0,.agg o.cells] X.h0 7 2 (.fn (.func revoke_Index_threats_1.f) [] [.ptr 7 0,.ptr 8 0]) ((8,.box 43 o.cells)::(7,.box 27 [.ptr 0 0])::X.h0):=vJ X o 7
  have hs:=EJ X hX o
  refine SW.g2 [0,1,3,4,5,7,15] mixed (ho) hthr hs ?_
  refine SW.ret ?_
  exact End.mk X.h0 (h3:=HSub.cons rfl (HSub.cons rfl (HSub.cons rfl (HSub.cons rfl (HSub.nil _))))) (h4:=⟨by unfold fV;rw [hh,hto];rfl,rfl⟩) (h6:=X.sB (by omega)) (h7:=by show 4+(9+iI 4)≤7+2+(4+iI 4);omega)
theorem wQ (X:Ix)(hX:X.small)(d:Dt)(k:Nat):aG Tryz.prog revoke_Index_Threats.f [.ptr 14 0,.agg d.cells] X.qC k (9+iI 4) (fV X d) X.qC:=
 Ix.GY (AL X hX d) (fun k=>by simp [SV.aX,SV.aB,fH,Dt.ax]) (fun k=>by unfold fV;split <;> simp [SV.aX,SV.aB]) k
end
end Go.Proofs.YtaelhkkjgfobhaaGreat
