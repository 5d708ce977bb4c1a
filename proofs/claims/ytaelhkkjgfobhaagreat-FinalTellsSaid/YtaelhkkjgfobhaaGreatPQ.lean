/-
 Revoke: rows of dots that grow, one by one.
-/
import Derived.Test.YtaelhkkjgfobhaaGreatP6
import Derived.Test.YtaelhkkjgfobhaaGreatPP
set_option linter.unusedSectionVars false
set_option linter.unusedVariables false
set_option linter.unusedSimpArgs false
namespace Go.Proofs.YtaelhkkjgfobhaaGreat
open Go.Sl Go.Proofs
section
attribute [local irreducible] SW RW aF SC ai aq
structure C9 where
 l:List Dt
 rn:Nat
theorem I1 (d:Dt):SB Tryz.prog revoke_Index_Threats_1.f [.agg d.cells] [] 0 2 fun r F=>r= .agg d.cells∧F=[]:=by
 refine revoke_Index_Threats_1.enter (by simp [SV.ax,SV.ok]) rfl (by simp) ?_;dsimp only [revoke_Index_Threats_1.s,Co.J,Co.F,Co.b8,Co.av,Co.K,Co.x,Co.W,Co.S];have s1:cN [SV.d (.int .u8 0),.d (.int .u32 0)] 0 d.cells=d.cells:=rfl;(repeat (first | refine SW.seq ?_ | refine SW.block ?_ | refine SW.g0 [0,1,2] mixed (s1) ?_ | refine SW.skip ?_ | refine SW.exit ?_ | refine SW.ret ?_ | refine SW.aj rfl ?_ | refine SW.ah rfl ?_));exact End.mk [] (h4:=⟨rfl,rfl⟩)
theorem I2 (d:Dt)(k:Nat):aF Tryz.prog revoke_Index_Threats_1.f [.agg d.cells] [] k 2 (.agg d.cells) []:=by
 have:=SB.new (I1 d) k
 simpa [SV.aT,SV.aC,Dt.ay,Hp.aC] using this
def ia (y bx bf:Nat)(ca cb:Code)(s:C9):Hp:=
 [(y,.pT 17 [5,3] [.ptr bx 0,.ptr bf 0] [8] ca cb .ready none),(bx,.box 31 [.gs s.rn s.l.length]),(bf,.box 123 [.fn (.func revoke_Index_Threats_1.f) [] []]),(s.rn,.arr 37 2 s.l.length ((s.l.flatMap Dt.ds).map .d))]
def MW (y bx bf:Nat)(s:C9)(j:Nat):Prop:=(s.rn≠y∧s.rn≠bx∧s.rn≠bf)∧s.l.length+j≤100000000000
def MX (s:C9)(x:Dt)(k:Nat):C9:=⟨s.l++[x],k+3⟩
set_option maxHeartbeats 4000000 in
theorem MY {y bx bf:Nat}(h1:y≠bx)(h2:y≠bf)(h3:bx≠bf){ca cb:Code}
    (hca:cK Tryz.prog 17 ca=some (.fm [⟨some 6,.alloc 37 [.d (.int .u8 0),.d (.int .u32 0)],none⟩,⟨none,.store 2 (.t 6) (.t 8),none⟩] (nV 2) false))
    (hcb:cK Tryz.prog 17 cb=some (.block 1 (.fm [⟨some 9,.load none (.t 5),none⟩,⟨some 10,.load none (.t 3),none⟩,⟨some 11,.load (some 2) (.t 6),none⟩,⟨some 12,.call (.t 10) [(.t 11)],none⟩,⟨some 13,.lB 37 2 1 [.d (.int .u8 0),.d (.int .u32 0)] [(0,2,.t 12)],none⟩,⟨some 14,.app 37 2 8 (.t 9) (.t 13),none⟩,⟨none,.store 1 (.t 5) (.t 14),none⟩] [0,0,0,6,14,31,63] true))):
    Gc Tryz.prog y (fun x:Dt=> .agg x.cells) 4 (ia y bx bf ca cb) MX (MW y bx bf):=by
  have f1:=cQ h1;have f2:=cQ h2;have f3:=cQ h3;refine ⟨fun s=>by simp [ia,aa],fun s j hinv x hx=> ?_,fun s j hinv=> ?_,fun s x k j hinv hok=> ?_⟩;rotate_left
  · obtain ⟨⟨a1,a2,a3⟩,_⟩:=hinv
    simp [ia,Hp.ok,Ob.ok,SV.ax,SV.ok,SV.br,aa,f1,f2,f3,cQ a1,cQ a2,cQ a3]
  rotate_left
  · obtain ⟨⟨a1,a2,a3⟩,_⟩:=hinv
    have g1:=cQ a1;have g2:=cQ a2;have g3:=cQ a3;simp only [ia,List.mem_cons,List.not_mem_nil,or_false] at hx;rcases hx with rfl | rfl | rfl | rfl <;> simp [ia,aa,f1,f2,f3,g1,g2,g3]
  · obtain ⟨l,rn⟩:=s
    obtain ⟨⟨a1,a2,a3⟩,hlen⟩:=hinv;dsimp only at a1 a2 a3 hlen;have g1:=cQ a1;have g2:=cQ a2;have g3:=cQ a3;simp only [ia,Hp.ok,List.all_cons,List.all_nil,Ob.ok,SV.ax,SV.ok,SV.br,Bool.and_true,Bool.and_eq_true,decide_eq_true_eq] at hok;obtain ⟨⟨k1,_⟩,⟨k2,_⟩,k3,k4⟩:=hok;have q1:=cQ (show k≠y by omega);have q2:=cQ (show k≠bx by omega);have q3:=cQ (show k≠bf by omega);have q4:=cQ (show k≠rn by omega);have w0:=cQ (show k+3≠k by omega);have w1:=cQ (show k+3≠y by omega);have w2:=cQ (show k+3≠bx by omega);have w3:=cQ (show k+3≠bf by omega);have w4:=cQ (show k+3≠rn by omega);have ea:k+1+2=k+3:=rfl;have hF :∀ n,lk (ia y bx bf ca cb ⟨l++[x],k+3⟩) n≠none→lk (ia y bx bf ca cb ⟨l,rn⟩) n≠none∨(k≤n∧n<k+4):=fun n hn=>by
      by_cases e1:n=y
      · exact .inl (by simp [ia,aa,e1])
      · by_cases e2:n=bx
        · exact .inl (by simp [ia,aa,e2,f1])
        · by_cases e3:n=bf
          · exact .inl (by simp [ia,aa,e3,f2,f3])
          · refine .inr ?_
            have:n=k+3:=Classical.byContradiction fun hne=>hn (by simp [ia,aa,bE,e1,e2,e3,hne])
            omega
    refine ⟨?_,⟨⟨by show k+3≠y;omega,by show k+3≠bx;omega,by show k+3≠bf;omega⟩,by show (l++[x]).length+j≤_;rw [List.length_append];show l.length+1+j≤_;omega⟩,?_,hF⟩
    · unfold Md
      refine DN.here (fun n=>n == y || n == bx || n == bf || n == rn) (DN.tF (cs:=[.ptr bx 0,.ptr bf 0]) (H:=[(bx,.box 31 [.gs rn l.length]),(bf,.box 123 [.fn (.func revoke_Index_Threats_1.f) [] []]),(rn,.arr 37 2 l.length ((l.flatMap Dt.ds).map .d))]) hca hcb rfl rfl rfl (by simp) k1 (by simp [aa,bE,f1,f2,g1]) (by simp [SV.ax,SV.ok,Dt.ak]) (by simp [Hp.ok,Ob.ok,SV.ax,SV.ok,SV.br];omega) (by simp [SV.ax,SV.ok];omega) ?_) ?_ (by simp [SV.ax,SV.ok,Dt.ak]) (by simp [ia,Hp.ok,Ob.ok,SV.ax,SV.ok,SV.br]) ?_
      · skip
        show Go.Sl.SW _ _ _ _ ⟨[(8,.agg x.cells),(5,.ptr bx 0),(3,.ptr bf 0)],_,_⟩ _;refine SW.g0 [3,5,6,8] mixed (And.intro (f1) (And.intro (f2) (And.intro (f3) (And.intro (g1) (And.intro (g2) (And.intro (g3) (And.intro (q1) (And.intro (q2) (And.intro (q3) (q4)))))))))) ?_;refine ⟨rfl,SW.block ?_⟩;have hcc:=fun k=>I2 x k
        refine SW.gK [3,5,6,8] mixed (And.intro (f1) (And.intro (f2) (And.intro (f3) (And.intro (g1) (And.intro (g2) (And.intro (g3) (And.intro (q1) (And.intro (q2) (And.intro (q3) (And.intro (q4) (And.intro (w0) (And.intro (w1) (And.intro (w2) (And.intro (w3) (And.intro (w4) (ea)))))))))))))))) (And.intro f1 (And.intro f2 (And.intro f3 (And.intro g1 (And.intro g2 (And.intro g3 (And.intro q1 (And.intro q2 (And.intro q3 (And.intro q4 (And.intro w0 (And.intro w1 (And.intro w2 (And.intro w3 w4)))))))))))))) (And.intro hcc True.intro) ?_;have e2:((l++[x]).flatMap Dt.ds).map SV.d=(List.flatMap Dt.ds l).map SV.d++x.ds.map SV.d:=by simp
        refine ⟨none,true,[(bx,.box 31 [.gs (k+3) (l++[x]).length]),(bf,.box 123 [.fn (.func revoke_Index_Threats_1.f) [] []]),(k+3,.arr 37 2 (l++[x]).length (((l++[x]).flatMap Dt.ds).map .d))],⟨rfl,rfl⟩,?_,?_,by simp,⟨rfl,rfl⟩⟩
        · refine HSub.cons ?_ (HSub.cons ?_ (HSub.cons ?_ (HSub.nil _)))
          · simp [aa,f1,f2,f3,g1,g2,g3,q1,q2,q3,q4,w0,w1,w2,w3,w4,cN]
          · simp [aa,f1,f2,f3,g1,g2,g3,q1,q2,q3,q4,w0,w1,w2,w3,w4,cN]
          · rw [e2];simp [aa,Dt.lX]
        · simp [Hp.ok,Ob.ok,SV.ax,SV.ok,SV.br,-List.flatMap_append,-List.map_append];omega
      · intro n hn
        simp only [Bool.or_eq_true,beq_iff_eq] at hn;rcases hn with ((rfl | rfl) | rfl) | rfl <;> simp [ia,aa,f1,f2,f3,g1,g2,g3]
      · rintro r F' ⟨rfl,rfl⟩ _ _
        refine ⟨rfl,?_⟩;simp [MX,ia,Hp.ok,Ob.ok,SV.ax,SV.ok,SV.br,-List.flatMap_append,-List.map_append]
    · simp [MX,ia,Hp.ok,Ob.ok,SV.ax,SV.ok,SV.br,-List.flatMap_append,-List.map_append]
      omega
theorem Pb {s0 s:C9}{xs:List Dt}(h:lF (MV MX) s0 xs s):s.l=s0.l++xs:=by
 induction h with
 | nil=>simp
 | snoc _ h ih=>
  obtain ⟨k,rfl⟩:=h;show _++[_]=_;rw [ih];simp
end
section
attribute [local irreducible] SW RW aF SC ai aq j6
theorem tL (X:Ix)(hX:X.small)(o:ag):(X.eO o).length≤1000000:=by
 unfold Ix.eO;rw [List.length_flatMap];have hl:=hX.ch o.dot;have key:∀ l:List Dt,(l.map fun c=>((X.qU c).filter fun t=> !o.before (X.op t)).length).sum≤l.length*1000:=fun l=>by
  induction l with
  | nil=>simp
  | cons c l ih=>
   rw [List.map_cons,List.sum_cons,List.length_cons,Nat.add_mul,Nat.one_mul];have h1:=List.length_filter_le (fun t=> !o.before (X.op t)) (X.qU c);have h2:=hX.rv c;omega
 exact Nat.le_trans (key _) (Nat.le_trans (Nat.mul_le_mul_right 1000 hl) (by decide))
theorem Ln {q:Nat→Bool}{A B:Hp}(h1:A.ok q=true)(h2:B.ok q=true):(A++B:Hp).ok q=true:=by
 unfold Hp.ok at*;rw [List.all_append,h1,h2];rfl
abbrev G8 (X:Ix)(o:ag):Hp:=TG X o 4 5
theorem u7 (X:Ix)(o:ag){k:Nat}(h:6≤k):(G8 X o).ok (fun n=>decide (n<k))=true:=
 an (by simp;omega) (by simp [Ob.ok,SV.ax,SV.ok];omega) (an (by simp;omega) (by simp [Ob.ok,ag.ak]) (X.Ab (by omega)))
set_option maxHeartbeats 4000000 in
theorem Ge (X:Ix)(hX:X.small)(o:ag):SB Tryz.prog revoke_sorted_api_Dot.f [.fn (.func revoke_Index_threats_1.f) [] [.ptr 4 0,.ptr 5 0],.fn (.func revoke_Index_Threats_1.f) [] []] (G8 X o) 6 (4+j6 4)
  fun r F=>r=aW (Dt.set (X.eO o))∧F=G8 X o:=by
 have hlen:=tL X hX o;refine revoke_sorted_api_Dot.enter (by simp [SV.ax,SV.ok]) (u7 X o (Nat.le_refl 6)) (by simp) ?_;dsimp only [revoke_sorted_api_Dot.s,Co.M,Co.J,Co.F,Co.b8,Co.av,Co.T,Co.K,Co.P,Co.x,Co.W,Co.S];refine SW.seq ?_;refine SW.g0 [0,1,3,4,5,6,7,8] mixed af ?_;refine SW.seq ?_;refine SW.g0 [0,1,3,4,5,6,7,8] mixed af ?_;refine SW.xC 7 31 37 2 (by rfl) ?_;refine SW.seq (SW.seq ?_);refine SW.g0 [0,1,3,4,5,6,7,8] mixed af ?_;refine SW.block (SW.sn (nk:=j6 4) [5,3] [.ptr 7 0,.ptr 6 0] rfl ⟨rfl,rfl,trivial⟩ fun ca cb hca hcb=> ?_)
 let s0:C9:=⟨[],8⟩
 have hy:=MY (y:=9) (bx:=7) (bf:=6) (by decide) (by decide) (by decide) hca hcb;have hF0:(ia 9 7 6 ca cb s0).ok (fun n=>decide (n<10))=true:=by simp [ia,s0,Hp.ok,Ob.ok,SV.ax,SV.ok]
 have hO:pF (TG X o 4 5) (ia 9 7 6 ca cb) s0 10:=by
  refine ⟨by simp,fun n hn=> ?_,fun n hn=> ?_,u7 X o (by omega),hF0⟩
  ·simp only [TG,List.map_cons,List.map_nil,List.mem_cons,List.not_mem_nil,or_false] at hn;omega
  ·simp only [TG,List.map_cons,List.map_nil,List.mem_cons,List.not_mem_nil,or_false] at hn
   rcases hn with rfl | rfl | rfl | rfl | rfl | rfl <;> simp [ia,s0,aa,bE]
 have h0:TI X o (ia 9 7 6 ca cb) MX (MW 9 7 6) s0 10 4 5 10 (X.eO o) s0 10:=⟨⟨[],.nil,rfl⟩,⟨⟨by decide,by decide,by decide⟩,by show 0+_≤_;omega⟩,hO,Nat.le_refl _,by decide,fun n hn=> .inl hn⟩;have hsb:=IX (y:=9) (bx:=4) (bo:=5) (k:=10) X hX o s0 hy h0;have hsubF:HSub (TG X o 4 5++ia 9 7 6 ca cb s0) ((9,.pT 17 [5,3] [.ptr 7 0,.ptr 6 0] [8] ca cb .ready none)::(7,.box 31 [.gs 8 0])::(8,.arr 37 2 0 [])::(7,.box 31 [.d .aJ])::(6,.box 123 [.fn (.func revoke_Index_Threats_1.f) [] []])::G8 X o):=by
  intro n ob hn
  match n with
  | 0 | 1 | 2 | 3 | 4 | 5 | 6 | 7 | 8 | 9=>simpa [TG,ia,s0,aa] using hn
  | n+10=>simp [TG,ia,s0,aa,bE] at hn
 have hsc:=(hsb.here (fun n=>decide (n<10)) (fun n hn=> ?_) (by simp [SV.ax,SV.ok]) (Ln (u7 X o (by omega)) hF0) ?_).frame hsubF
 ·refine hsc.mono ?_
  rintro r F' ⟨F1,⟨rfl,s',hTI,rfl⟩,rfl⟩;obtain ⟨xs,hon,hxs⟩:=hTI.h1;rw [List.append_nil] at hxs;have hl':=Pb hon;obtain ⟨L,rn⟩:=s';have hL:L=X.eO o:=by rw [hxs];simpa [s0] using hl'
  obtain ⟨⟨b1,b2,b3⟩,_⟩:=hTI.h2;dsimp only at b1 b2 b3;have hno:∀ n,n∈(TG X o 4 5).map (·.1)→n≠rn:=fun n hn e=>by
   have:=hTI.own.no n hn;rw [e] at this;simp [ia,aa,b1,b2,b3] at this
  have b4:=hno 4 (by simp);have b5:=hno 5 (by simp);have c0:=hno 0 (by simp);have c1:=hno 1 (by simp);have c2:=hno 2 (by simp);have c3:=hno 3 (by simp);rw [← hL];have hlk:=iy (ro:=false) (F':=TG X o 4 5++ia 9 7 6 ca cb ⟨L,rn⟩) hsubF (fun h=>by cases h);generalize bS false _ _ _=G at hlk;have hG:∀ n ob,lk (TG X o 4 5++ia 9 7 6 ca cb ⟨L,rn⟩) n=some ob→lk G n=some ob:=fun n ob h=>by
   rw [hlk,fq (.inr (by rw [h];simp)),h]
  refine ⟨none,hG 9 _ (by simp [TG,ia,aa,mA]),?_⟩;have hrn:rn<10+j6 4:=by
   have:=(Hp.eW hTI.own.okF (show lk (ia 9 7 6 ca cb ⟨L,rn⟩) rn=some (.arr 37 2 L.length ((L.flatMap Dt.ds).map .d)) by simp [ia,aa,b1,b2,b3])).1
   simpa using this
  refine SW.weak (fun n=>if n=8 then rn else n) (st1:=⟨[(5,.ptr 7 0)],(7,.box 31 [.gs 8 L.length])::(8,.arr 37 2 L.length ((L.flatMap Dt.ds).map .d))::G8 X o,10⟩) ?_ ?_
  ·have q7:=hG 7 (.box 31 [.gs rn L.length]) (by simp [TG,ia,aa])
   have q8:=hG rn (.arr 37 2 L.length ((L.flatMap Dt.ds).map .d)) (by simp [TG,ia,aa,b1,b2,b3,b4.symm,b5.symm,c0.symm,c1.symm,c2.symm,c3.symm]);have q4:=hG 4 (.box 27 [.ptr 0 0]) (by simp [TG,aa]);have q5:=hG 5 (.box 43 o.cells) (by simp [TG,aa]);have q0:=hG 0 (.box 110 [.any,.mp 1,.mp 2,.mp 3]) (by simp [TG,aa]);have q1:=hG 1 (.map (au Dt.cells ov X.ops) X.co) (by simp [TG,aa]);have q2:=hG 2 (.map (au Dt.cells dn X.ch) X.cc) (by simp [TG,aa]);have q3:=hG 3 (.map (au Dt.cells dn X.lR) X.cf) (by simp [TG,aa]);refine ⟨by show 6≤10;omega,fun n hn=>if_neg (by omega),?_,?_,?_⟩
   ·simp [bp,List.lookup,SV.aC,SV.ok]
   ·simp [vZ,dY,Ob.aC,SV.aT,SV.aC,SV.gD,SV.br,Ob.ok,SV.ax,SV.ok,q7,q8,q4,q5,q0,q1,q2,q3,b1,ag.ay,ag.ak,bK,bq,eN,eB]
   ·intro a ha b hb e
    simp only [G8,TG,List.map_cons,List.map_nil,List.mem_cons,List.not_mem_nil,or_false] at ha hb;rcases ha with rfl | rfl | rfl | rfl | rfl | rfl | rfl | rfl <;> rcases hb with rfl | rfl | rfl | rfl | rfl | rfl | rfl | rfl <;> simp at e <;> first | rfl | omega
  ·refine SW.tG 8 (L.flatMap Dt.ds) rfl rfl ?_
   simp only [iZ,SV.iw,List.map_cons,List.map_nil,if_true,if_false,reduceIte,cM,Nat.reduceEqDiff,Cp,G8,TG,Ix.h0,Ob.iw,SV.vB];have e0:∀ m:MM Dt ag,(au Dt.cells ov m).map (fun e=>(e.1,e.2.1,e.2.2.iw 8 L.length (L.flatMap Dt.ds)))=au Dt.cells ov m:=fun m=>x_ (q:=fun _=>false) rfl (bq _ _)
   have e1:∀ m:MM Dt (List Dt),(au Dt.cells dn m).map (fun e=>(e.1,e.2.1,e.2.2.iw 8 L.length (L.flatMap Dt.ds)))=au Dt.cells dn m:=fun m=>x_ (q:=fun _=>false) rfl (eB _ _)
   have e2:SV.vB 8 L.length (L.flatMap Dt.ds) o.cells=o.cells:=SV.oM (q:=fun _=>false) rfl _ (ag.ak _ _);simp only [e0,e1,e2];have hs:=BQ L (by rw [hL];omega);refine SW.seq ?_;refine SW.g1 [0,1,3,4,5,6,7,8] mixed af hs ?_;refine SW.weak id (st1:=⟨[(4,aW (Dt.set L))],G8 X o,10+j6 4⟩) (aK.same (by show 6≤10+j6 4;omega) (by simp [bp,List.lookup,SV.aC,SV.ok]) (u7 X o (by show 6≤10+j6 4;omega)) (fun y hy=> ?_)) (SW.ret ?_)
   ·simp only [G8,TG,Ix.h0,List.mem_cons,List.not_mem_nil,or_false] at hy
    rcases hy with rfl | rfl | rfl | rfl | rfl | rfl <;> rfl
   exact End.mk (G8 X o) (h4:=⟨rfl,rfl⟩) (h6:=u7 X o (by omega)) (h7:=by show 6+(4+j6 4)≤10+j6 4;omega)
 ·match n,hn with
  | 0,_ | 1,_ | 2,_ | 3,_ | 4,_ | 5,_ | 6,_ | 7,_ | 8,_ | 9,_=>simp [TG,ia,s0,aa]
  | n +10,h=>
    have:n+10<10:=by simpa using h
    omega
 ·rintro r F' _ h1 h2
  refine ⟨SV.gu (fun n hn=> ?_) _ h1,Hp.ez (fun n hn=> ?_) h2⟩ <;> (simp at hn ⊢;omega)
end
section
attribute [local irreducible] SW RW aF SC ai aq j6
def gJ (X:Ix)(d:Dt):SV:=if MM.has X.ops d then .dm [aW (Dt.set (X.eO (X.op d))),i64 0] else .dm [.d .aJ,i64 7]
theorem kK {X:Ix}{d:Dt}(hh:MM.has X.ops d=true):MM.get X.ops d=some (X.op d):=by
 obtain ⟨o,ho⟩:=Option.isSome_iff_exists.1 (show (MM.get X.ops d).isSome=true from hh);unfold Ix.op;rw [ho];rfl
theorem Gf (X:Ix)(hX:X.small)(d:Dt)(k:Nat):aF Tryz.prog revoke_Index_Level.f [.ptr 0 0,.agg d.cells] X.h0 k 2 (j5 X d) X.h0:=by
 have:=SB.pz [0,1,2,3] (C5 X hX d) (by decide) X.N8 k;rw [show X.h0.aC (fF [0,1,2,3] k)=X.h0 by simp [Hp.aC,Ob.aC,SV.aT,SV.aC,fF,bK,eN],show (j5 X d).aC (fF [0,1,2,3] k)=j5 X d by unfold j5;split <;> simp [SV.aT,SV.aC]] at this
 simpa [SV.aT,SV.aC,fF,Dt.ay] using this
theorem C_ (X:Ix)(o:ag)(k:Nat):aF Tryz.prog revoke_Index_threats.f [.ptr 0 0,.agg o.cells] X.h0 k 2 (.fn (.func revoke_Index_threats_1.f) [] [.ptr k 0,.ptr (k+1) 0]) ((k+1,.box 43 o.cells)::(k,.box 27 [.ptr 0 0])::X.h0):=by
 have:=SB.pz [0,1,2,3] (AX X o) (by decide) X.N8 k;have e0:fF [0,1,2,3] k 4=k:=by simp [fF]
 have e1:fF [0,1,2,3] k 5=k+1:=by simp [fF];omega
 simp [SV.aT,SV.aC,e0,e1,fF,ag.ay,Hp.aC,Ob.aC,bK,eN] at this;rw [Nat.add_comm 1 k] at this;exact this
theorem Gg (X:Ix)(hX:X.small)(o:ag)(k:Nat):aF Tryz.prog revoke_sorted_api_Dot.f [.fn (.func revoke_Index_threats_1.f) [] [.ptr 7 0,.ptr 8 0],.fn (.func revoke_Index_Threats_1.f) [] []] (TG X o 7 8) k (4+j6 4) (aW (Dt.set (X.eO o))) (TG X o 7 8):=by
 have:=SB.pz [0,1,2,3,7,8] (Ge X hX o) (by decide) (fun i hi=>by
  match i,hi with
  | 0,_ | 1,_ | 2,_ | 3,_ | 4,_ | 5,_=>simp [aa]) k
 simpa [SV.aT,SV.aC,fF,ag.ay,Hp.aC,Ob.aC,bK,eN] using this
set_option maxHeartbeats 4000000 in
theorem I3 (X:Ix)(hX:X.small)(d:Dt):SB Tryz.prog revoke_Index_Threats.f [.ptr 0 0,.agg d.cells] X.h0 4 (9+j6 4) fun r F=>r=gJ X d∧F=X.h0:=by
 refine revoke_Index_Threats.enter (by simp [SV.ax,SV.ok]) (X.Ab (Nat.le_refl 4)) (by simp) ?_;dsimp only [revoke_Index_Threats.s,Co.M,Co.J,Co.F,Co.C,Co.Z,Co.bF,Co.T,Co.K,Co.E,Co.Q,Co.x,Co.Y,Co.D,Co.A,Co.S];have hl:=Gf X hX d;refine SW.seq ?_;refine SW.g0 [0,1,3,4,5,7,15] mixed af ?_;refine SW.seq (SW.seq ?_);rcases hh:MM.has X.ops d with _ | _
 ·have hlv:j5 X d= .dm [i64 0,i64 7]:=by unfold j5;rw [hh];rfl
  rw [hlv] at hl;refine SW.g1 [0,1,3,4,5,7,15] mixed af hl ?_;refine SW.seq ?_;refine SW.g0 [0,1,3,4,5,7,15] mixed af ?_;refine SW.aj rfl (SW.seq ?_);refine SW.g0 [0,1,3,4,5,7,15] mixed af ?_;refine SW.weak id (st1:=⟨[(4,.d .aJ),(5,i64 7)],X.h0,4+(9+j6 4)⟩) (aK.same (by show 4≤4+(9+j6 4);omega) (by simp [bp,List.lookup,SV.aC,SV.ok]) (X.Ab (by show 4≤4+(9+j6 4);omega)) (fun y hy=> ?_)) (SW.ret ?_)
  ·simp only [Ix.h0,List.mem_cons,List.not_mem_nil,or_false] at hy
   rcases hy with rfl | rfl | rfl | rfl <;> rfl
  exact End.mk X.h0 (h3:=fun _ _ h=>h) (h4:=⟨by simp [gJ,hh,eH],rfl⟩) (h6:=X.Ab (by omega)) (h7:=Nat.le_refl _)
 ·have hlv:j5 X d= .dm [.d (.int .i64 (((X.nY d).length:Int) - 1)),i64 0]:=by unfold j5;rw [hh];rfl
  rw [hlv] at hl;refine SW.g1 [0,1,3,4,5,7,15] mixed af hl ?_;refine SW.seq ?_;refine SW.g0 [0,1,3,4,5,7,15] mixed af ?_;refine SW.ah rfl (SW.skip ?_);refine SW.seq ?_;obtain ⟨o,ho⟩:∃ o,(MM.get X.ops d).getD ag.zero=o:=⟨_,rfl⟩;have hto:X.op d=o:=ho;have hthr:aF Tryz.prog revoke_Index_threats.f [.ptr 0 0,.agg o.cells] X.h0 7 2 (.fn (.func revoke_Index_threats_1.f) [] [.ptr 7 0,.ptr 8 0]) ((8,.box 43 o.cells)::(7,.box 27 [.ptr 0 0])::X.h0):=C_ X o 7;have hs:=Gg X hX o;refine SW.g2 [0,1,3,4,5,7,15] mixed (ho) hthr hs ?_;refine SW.ret ?_;exact End.mk X.h0 (h3:=HSub.cons rfl (HSub.cons rfl (HSub.cons rfl (HSub.cons rfl (HSub.nil _))))) (h4:=⟨by unfold gJ;rw [hh,hto];rfl,rfl⟩) (h6:=X.Ab (by omega)) (h7:=by show 4+(9+j6 4)≤7+2+(4+j6 4);omega)
end
end Go.Proofs.YtaelhkkjgfobhaaGreat
