/-
 Revoke: rows of dots that grow, one by one.
-/
import Derived.Test.YtaelhkkjgfobhaaGreatP6
import Derived.Test.YtaelhkkjgfobhaaGreatPP
set_option linter.unusedSectionVars false
set_option linter.unusedVariables false
set_option linter.unusedSimpArgs false
namespace Go.Proofs.YtaelhkkjgfobhaaGreat
open Go.Sl Go.Proofs
section
attribute [local irreducible] SW RW aF SC aj ak
structure BM where
 l:List Dt
 rn:Nat
theorem GY (d:Dt):SB Tryz.prog revoke_Index_Threats_1.f [.agg d.cells] [] 0 2 fun r F=>r= .agg d.cells∧F=[]:=by
 refine revoke_Index_Threats_1.enter (by simp [SV.aA,SV.ok]) rfl (by simp) ?_
 dsimp only [revoke_Index_Threats_1.s,Co.M,Co.G,Co.J,Co.H,Co.N,Co.F,Co.C,Co.Z,Co.B,Co.b8,Co.ay,Co.bU,Co.i6,Co.z8,Co.cq];have s1:bW [SV.d (.int .u8 0),.d (.int .u32 0)] 0 d.cells=d.cells:=rfl
 (repeat (first | refine SW.seq ?_ | refine SW.block ?_ | refine SW.g0 [0,1,2] mixed (s1) ?_ | refine SW.skip ?_ | refine SW.exit ?_ | refine SW.ret ?_ | refine SW.au rfl ?_ | refine SW.aq rfl ?_))
 exact End.mk [] (h4:=⟨rfl,rfl⟩)
theorem GZ (d:Dt)(k:Nat):aF Tryz.prog revoke_Index_Threats_1.f [.agg d.cells] [] k 2 (.agg d.cells) []:=by
 have:=SB.new (GY d) k
 simpa [SV.aK,SV.aB,Dt.ax,Hp.aB] using this
def gu (y bx bf:Nat)(ca cb:Code)(s:BM):Hp:=
 [(y,.oz 17 [5,3] [.ptr bx 0,.ptr bf 0] [8] ca cb .ready none),(bx,.box 31 [.gs s.rn s.l.length]),(bf,.box 123 [.fn (.func revoke_Index_Threats_1.f) [] []]),(s.rn,.arr 37 2 s.l.length ((s.l.flatMap Dt.ds).map .d))]
def K7 (y bx bf:Nat)(s:BM)(j:Nat):Prop:=(s.rn≠y∧s.rn≠bx∧s.rn≠bf)∧s.l.length+j≤100000000000
def K8 (s:BM)(x:Dt)(k:Nat):BM:=⟨s.l++[x],k+3⟩
set_option maxHeartbeats 4000000 in
theorem K9 {y bx bf:Nat}(h1:y≠bx)(h2:y≠bf)(h3:bx≠bf){ca cb:Code}
    (hca:cK Tryz.prog 17 ca=some (.eM [⟨some 6,.alloc 37 [.d (.int .u8 0),.d (.int .u32 0)],none⟩,⟨none,.store 2 (.t 6) (.t 8),none⟩] (mF 2) false))
    (hcb:cK Tryz.prog 17 cb=some (.block 1 (.eM [⟨some 9,.load none (.t 5),none⟩,⟨some 10,.load none (.t 3),none⟩,⟨some 11,.load (some 2) (.t 6),none⟩,⟨some 12,.call (.t 10) [(.t 11)],none⟩,⟨some 13,.pz 37 2 1 [.d (.int .u8 0),.d (.int .u32 0)] [(0,2,.t 12)],none⟩,⟨some 14,.app 37 2 8 (.t 9) (.t 13),none⟩,⟨none,.store 1 (.t 5) (.t 14),none⟩] [0,0,0,6,14,31,63] true))):
    ED Tryz.prog y (fun x:Dt=> .agg x.cells) 4 (gu y bx bf ca cb) K8 (K7 y bx bf):=by
  have f1:=bZ h1;have f2:=bZ h2;have f3:=bZ h3;refine ⟨fun s=>by simp [gu,aa],fun s j hinv x hx=> ?_,fun s j hinv=> ?_,fun s x k j hinv hok=> ?_⟩
  rotate_left
  · obtain ⟨⟨a1,a2,a3⟩,_⟩:=hinv
    simp [gu,Hp.ok,Ob.ok,SV.aA,SV.ok,SV.aT,aa,f1,f2,f3,bZ a1,bZ a2,bZ a3]
  rotate_left
  · obtain ⟨⟨a1,a2,a3⟩,_⟩:=hinv
    have g1:=bZ a1;have g2:=bZ a2;have g3:=bZ a3;simp only [gu,List.mem_cons,List.not_mem_nil,or_false] at hx;rcases hx with rfl | rfl | rfl | rfl <;> simp [gu,aa,f1,f2,f3,g1,g2,g3]
  · obtain ⟨l,rn⟩:=s
    obtain ⟨⟨a1,a2,a3⟩,hlen⟩:=hinv;dsimp only at a1 a2 a3 hlen;have g1:=bZ a1;have g2:=bZ a2;have g3:=bZ a3;simp only [gu,Hp.ok,List.all_cons,List.all_nil,Ob.ok,SV.aA,SV.ok,SV.aT,Bool.and_true,Bool.and_eq_true,decide_eq_true_eq] at hok;obtain ⟨⟨k1,_⟩,⟨k2,_⟩,k3,k4⟩:=hok;have q1:=bZ (show k≠y by omega)
    have q2:=bZ (show k≠bx by omega)
    have q3:=bZ (show k≠bf by omega)
    have q4:=bZ (show k≠rn by omega)
    have w0:=bZ (show k+3≠k by omega)
    have w1:=bZ (show k+3≠y by omega)
    have w2:=bZ (show k+3≠bx by omega)
    have w3:=bZ (show k+3≠bf by omega)
    have w4:=bZ (show k+3≠rn by omega)
    have ea:k+1+2=k+3:=rfl;have hF :∀ n,lk (gu y bx bf ca cb ⟨l++[x],k+3⟩) n≠none→lk (gu y bx bf ca cb ⟨l,rn⟩) n≠none∨(k≤n∧n<k+4):=fun n hn=>by
      by_cases e1:n=y
      · exact .inl (by simp [gu,aa,e1])
      · by_cases e2:n=bx
        · exact .inl (by simp [gu,aa,e2,f1])
        · by_cases e3:n=bf
          · exact .inl (by simp [gu,aa,e3,f2,f3])
          · refine .inr ?_
            have:n=k+3:=Classical.byContradiction fun hne=>hn (by simp [gu,aa,bC,e1,e2,e3,hne])
            omega
    refine ⟨?_,⟨⟨by show k+3≠y;omega,by show k+3≠bx;omega,by show k+3≠bf;omega⟩,by show (l++[x]).length+j≤_;rw [List.length_append];show l.length+1+j≤_;omega⟩,?_,hF⟩
    · unfold Kk
      refine Ch.here (fun n=>n == y || n == bx || n == bf || n == rn) (Ch.r_ (cs:=[.ptr bx 0,.ptr bf 0]) (H:=[(bx,.box 31 [.gs rn l.length]),(bf,.box 123 [.fn (.func revoke_Index_Threats_1.f) [] []]),(rn,.arr 37 2 l.length ((l.flatMap Dt.ds).map .d))]) hca hcb rfl rfl rfl (by simp) k1 (by simp [aa,bC,f1,f2,g1]) (by simp [SV.aA,SV.ok,Dt.an]) (by simp [Hp.ok,Ob.ok,SV.aA,SV.ok,SV.aT];omega) (by simp [SV.aA,SV.ok];omega) ?_) ?_ (by simp [SV.aA,SV.ok,Dt.an]) (by simp [gu,Hp.ok,Ob.ok,SV.aA,SV.ok,SV.aT]) ?_
      · skip
        show Go.Sl.SW _ _ _ _ ⟨[(8,.agg x.cells),(5,.ptr bx 0),(3,.ptr bf 0)],_,_⟩ _;refine SW.g0 [3,5,6,8] mixed (And.intro (f1) (And.intro (f2) (And.intro (f3) (And.intro (g1) (And.intro (g2) (And.intro (g3) (And.intro (q1) (And.intro (q2) (And.intro (q3) (q4)))))))))) ?_;refine ⟨rfl,SW.block ?_⟩;have hcc:=fun k=>GZ x k
        refine SW.gK [3,5,6,8] mixed (And.intro (f1) (And.intro (f2) (And.intro (f3) (And.intro (g1) (And.intro (g2) (And.intro (g3) (And.intro (q1) (And.intro (q2) (And.intro (q3) (And.intro (q4) (And.intro (w0) (And.intro (w1) (And.intro (w2) (And.intro (w3) (And.intro (w4) (ea)))))))))))))))) (And.intro f1 (And.intro f2 (And.intro f3 (And.intro g1 (And.intro g2 (And.intro g3 (And.intro q1 (And.intro q2 (And.intro q3 (And.intro q4 (And.intro w0 (And.intro w1 (And.intro w2 (And.intro w3 w4)))))))))))))) (And.intro hcc True.intro) ?_;have e2:((l++[x]).flatMap Dt.ds).map SV.d=(List.flatMap Dt.ds l).map SV.d++x.ds.map SV.d:=by simp
        refine ⟨none,true,[(bx,.box 31 [.gs (k+3) (l++[x]).length]),(bf,.box 123 [.fn (.func revoke_Index_Threats_1.f) [] []]),(k+3,.arr 37 2 (l++[x]).length (((l++[x]).flatMap Dt.ds).map .d))],⟨rfl,rfl⟩,?_,?_,by simp,⟨rfl,rfl⟩⟩
        · refine HSub.cons ?_ (HSub.cons ?_ (HSub.cons ?_ (HSub.nil _)))
          · simp [aa,f1,f2,f3,g1,g2,g3,q1,q2,q3,q4,w0,w1,w2,w3,w4,bW]
          · simp [aa,f1,f2,f3,g1,g2,g3,q1,q2,q3,q4,w0,w1,w2,w3,w4,bW]
          · rw [e2];simp [aa,Dt.oZ]
        · simp [Hp.ok,Ob.ok,SV.aA,SV.ok,SV.aT,-List.flatMap_append,-List.map_append];omega
      · intro n hn
        simp only [Bool.or_eq_true,beq_iff_eq] at hn;rcases hn with ((rfl | rfl) | rfl) | rfl <;> simp [gu,aa,f1,f2,f3,g1,g2,g3]
      · rintro r F' ⟨rfl,rfl⟩ _ _
        refine ⟨rfl,?_⟩;simp [K8,gu,Hp.ok,Ob.ok,SV.aA,SV.ok,SV.aT,-List.flatMap_append,-List.map_append]
    · simp [K8,gu,Hp.ok,Ob.ok,SV.aA,SV.ok,SV.aT,-List.flatMap_append,-List.map_append]
      omega
theorem M8 {s0 s:BM}{xs:List Dt}(h:j8 (K6 K8) s0 xs s):s.l=s0.l++xs:=by
 induction h with
 | nil=>simp
 | snoc _ h ih=>
  obtain ⟨k,rfl⟩:=h;show _++[_]=_;rw [ih];simp
end
section
attribute [local irreducible] SW RW aF SC aj ak jl
theorem sn (X:Ix)(hX:X.small)(o:ag):(X.dY o).length≤1000000:=by
 unfold Ix.dY;rw [List.length_flatMap];have hl:=hX.ch o.dot;have key:∀ l:List Dt,(l.map fun c=>((X.pW c).filter fun t=> !o.before (X.op t)).length).sum≤l.length*1000:=fun l=>by
  induction l with
  | nil=>simp
  | cons c l ih=>
   rw [List.map_cons,List.sum_cons,List.length_cons,Nat.add_mul,Nat.one_mul];have h1:=List.length_filter_le (fun t=> !o.before (X.op t)) (X.pW c)
   have h2:=hX.rv c;omega
 exact Nat.le_trans (key _) (Nat.le_trans (Nat.mul_le_mul_right 1000 hl) (by decide))
theorem Js {q:Nat→Bool}{A B:Hp}(h1:A.ok q=true)(h2:B.ok q=true):(A++B:Hp).ok q=true:=by
 unfold Hp.ok at*;rw [List.all_append,h1,h2];rfl
abbrev Fy (X:Ix)(o:ag):Hp:=TG X o 4 5
theorem tA (X:Ix)(o:ag){k:Nat}(h:6≤k):(Fy X o).ok (fun n=>decide (n<k))=true:=
 ah (by simp;omega) (by simp [Ob.ok,SV.aA,SV.ok];omega) (ah (by simp;omega) (by simp [Ob.ok,ag.an]) (X.yJ (by omega)))
set_option maxHeartbeats 4000000 in
theorem EF (X:Ix)(hX:X.small)(o:ag):SB Tryz.prog revoke_sorted_api_Dot.f [.fn (.func revoke_Index_threats_1.f) [] [.ptr 4 0,.ptr 5 0],.fn (.func revoke_Index_Threats_1.f) [] []] (Fy X o) 6 (4+jl 4)
  fun r F=>r=aY (Dt.set (X.dY o))∧F=Fy X o:=by
 have hlen:=sn X hX o;refine revoke_sorted_api_Dot.enter (by simp [SV.aA,SV.ok]) (tA X o (Nat.le_refl 6)) (by simp) ?_
 dsimp only [revoke_sorted_api_Dot.s,Co.M,Co.G,Co.J,Co.H,Co.N,Co.F,Co.C,Co.Z,Co.B,Co.b8,Co.ay,Co.bU,Co.i6,Co.z8,Co.cq];refine SW.seq ?_;refine SW.g0 [0,1,3,4,5,6,7,8] mixed af ?_;refine SW.seq ?_;refine SW.g0 [0,1,3,4,5,6,7,8] mixed af ?_;refine SW.vO 7 31 37 2 (by rfl) ?_
 refine SW.seq (SW.seq ?_);refine SW.g0 [0,1,3,4,5,6,7,8] mixed af ?_;refine SW.block (SW.qH (nk:=jl 4) [5,3] [.ptr 7 0,.ptr 6 0] rfl ⟨rfl,rfl,trivial⟩ fun ca cb hca hcb=> ?_)
 let s0:BM:=⟨[],8⟩
 have hy:=K9 (y:=9) (bx:=7) (bf:=6) (by decide) (by decide) (by decide) hca hcb
 have hF0:(gu 9 7 6 ca cb s0).ok (fun n=>decide (n<10))=true:=by simp [gu,s0,Hp.ok,Ob.ok,SV.aA,SV.ok]
 have hO:oe (TG X o 4 5) (gu 9 7 6 ca cb) s0 10:=by
  refine ⟨by simp,fun n hn=> ?_,fun n hn=> ?_,tA X o (by omega),hF0⟩
  ·simp only [TG,List.map_cons,List.map_nil,List.mem_cons,List.not_mem_nil,or_false] at hn;omega
  ·simp only [TG,List.map_cons,List.map_nil,List.mem_cons,List.not_mem_nil,or_false] at hn
   rcases hn with rfl | rfl | rfl | rfl | rfl | rfl <;> simp [gu,s0,aa,bC]
 have h0:TI X o (gu 9 7 6 ca cb) K8 (K7 9 7 6) s0 10 4 5 10 (X.dY o) s0 10:=⟨⟨[],.nil,rfl⟩,⟨⟨by decide,by decide,by decide⟩,by show 0+_≤_;omega⟩,hO,Nat.le_refl _,by decide,fun n hn=> .inl hn⟩
 have hsb:=GV (y:=9) (bx:=4) (bo:=5) (k:=10) X hX o s0 hy h0;have hsubF:HSub (TG X o 4 5++gu 9 7 6 ca cb s0) ((9,.oz 17 [5,3] [.ptr 7 0,.ptr 6 0] [8] ca cb .ready none)::(7,.box 31 [.gs 8 0])::(8,.arr 37 2 0 [])::(7,.box 31 [.d .aP])::(6,.box 123 [.fn (.func revoke_Index_Threats_1.f) [] []])::Fy X o):=by
  intro n ob hn
  match n with
  | 0 | 1 | 2 | 3 | 4 | 5 | 6 | 7 | 8 | 9=>simpa [TG,gu,s0,aa] using hn
  | n+10=>simp [TG,gu,s0,aa,bC] at hn
 have hsc:=(hsb.here (fun n=>decide (n<10)) (fun n hn=> ?_) (by simp [SV.aA,SV.ok]) (Js (tA X o (by omega)) hF0) ?_).frame hsubF
 ·refine hsc.mono ?_
  rintro r F' ⟨F1,⟨rfl,s',hTI,rfl⟩,rfl⟩;obtain ⟨xs,hon,hxs⟩:=hTI.h1;rw [List.append_nil] at hxs;have hl':=M8 hon;obtain ⟨L,rn⟩:=s';have hL:L=X.dY o:=by rw [hxs];simpa [s0] using hl'
  obtain ⟨⟨b1,b2,b3⟩,_⟩:=hTI.h2;dsimp only at b1 b2 b3;have hno:∀ n,n∈(TG X o 4 5).map (·.1)→n≠rn:=fun n hn e=>by
   have:=hTI.own.no n hn;rw [e] at this;simp [gu,aa,b1,b2,b3] at this
  have b4:=hno 4 (by simp)
  have b5:=hno 5 (by simp)
  have c0:=hno 0 (by simp)
  have c1:=hno 1 (by simp)
  have c2:=hno 2 (by simp)
  have c3:=hno 3 (by simp)
  rw [← hL];have hlk:=gC (ro:=false) (F':=TG X o 4 5++gu 9 7 6 ca cb ⟨L,rn⟩) hsubF (fun h=>by cases h)
  generalize bM false _ _ _=G at hlk;have hG:∀ n ob,lk (TG X o 4 5++gu 9 7 6 ca cb ⟨L,rn⟩) n=some ob→lk G n=some ob:=fun n ob h=>by
   rw [hlk,eC (.inr (by rw [h];simp)),h]
  refine ⟨none,hG 9 _ (by simp [TG,gu,aa,lE]),?_⟩
  have hrn:rn<10+jl 4:=by
   have:=(Hp.ej hTI.own.okF (show lk (gu 9 7 6 ca cb ⟨L,rn⟩) rn=some (.arr 37 2 L.length ((L.flatMap Dt.ds).map .d)) by simp [gu,aa,b1,b2,b3])).1
   simpa using this
  refine SW.weak (fun n=>if n=8 then rn else n) (st1:=⟨[(5,.ptr 7 0)],(7,.box 31 [.gs 8 L.length])::(8,.arr 37 2 L.length ((L.flatMap Dt.ds).map .d))::Fy X o,10⟩) ?_ ?_
  ·have q7:=hG 7 (.box 31 [.gs rn L.length]) (by simp [TG,gu,aa])
   have q8:=hG rn (.arr 37 2 L.length ((L.flatMap Dt.ds).map .d)) (by simp [TG,gu,aa,b1,b2,b3,b4.symm,b5.symm,c0.symm,c1.symm,c2.symm,c3.symm])
   have q4:=hG 4 (.box 27 [.ptr 0 0]) (by simp [TG,aa])
   have q5:=hG 5 (.box 43 o.cells) (by simp [TG,aa])
   have q0:=hG 0 (.box 110 [.any,.mp 1,.mp 2,.mp 3]) (by simp [TG,aa])
   have q1:=hG 1 (.map (ai Dt.cells ov X.ops) X.co) (by simp [TG,aa])
   have q2:=hG 2 (.map (ai Dt.cells dn X.ch) X.cc) (by simp [TG,aa])
   have q3:=hG 3 (.map (ai Dt.cells dn X.kB) X.cf) (by simp [TG,aa])
   refine ⟨by show 6≤10;omega,fun n hn=>if_neg (by omega),?_,?_,?_⟩
   ·simp [aQ,List.lookup,SV.aB,SV.ok]
   ·simp [uC,dH,Ob.aB,SV.aK,SV.aB,SV.fP,SV.aT,Ob.ok,SV.aA,SV.ok,q7,q8,q4,q5,q0,q1,q2,q3,b1,ag.ax,ag.an,bz,aS,dX,dO]
   ·intro a ha b hb e
    simp only [Fy,TG,List.map_cons,List.map_nil,List.mem_cons,List.not_mem_nil,or_false] at ha hb;rcases ha with rfl | rfl | rfl | rfl | rfl | rfl | rfl | rfl <;> rcases hb with rfl | rfl | rfl | rfl | rfl | rfl | rfl | rfl <;> simp at e <;> first | rfl | omega
  ·refine SW.sg 8 (L.flatMap Dt.ds) rfl rfl ?_
   simp only [kZ,SV.jq,List.map_cons,List.map_nil,if_true,if_false,reduceIte,dh,Nat.reduceEqDiff,Bi,Fy,TG,Ix.h0,Ob.jq,SV.tV];have e0:∀ m:MM Dt ag,(ai Dt.cells ov m).map (fun e=>(e.1,e.2.1,e.2.2.jq 8 L.length (L.flatMap Dt.ds)))=ai Dt.cells ov m:=fun m=>wv (q:=fun _=>false) rfl (aS _ _)
   have e1:∀ m:MM Dt (List Dt),(ai Dt.cells dn m).map (fun e=>(e.1,e.2.1,e.2.2.jq 8 L.length (L.flatMap Dt.ds)))=ai Dt.cells dn m:=fun m=>wv (q:=fun _=>false) rfl (dO _ _)
   have e2:SV.tV 8 L.length (L.flatMap Dt.ds) o.cells=o.cells:=SV.nj (q:=fun _=>false) rfl _ (ag.an _ _)
   simp only [e0,e1,e2];have hs:=Ay L (by rw [hL];omega)
   refine SW.seq ?_;refine SW.g1 [0,1,3,4,5,6,7,8] mixed af hs ?_;refine SW.weak id (st1:=⟨[(4,aY (Dt.set L))],Fy X o,10+jl 4⟩) (aM.same (by show 6≤10+jl 4;omega) (by simp [aQ,List.lookup,SV.aB,SV.ok]) (tA X o (by show 6≤10+jl 4;omega)) (fun y hy=> ?_)) (SW.ret ?_)
   ·simp only [Fy,TG,Ix.h0,List.mem_cons,List.not_mem_nil,or_false] at hy
    rcases hy with rfl | rfl | rfl | rfl | rfl | rfl <;> rfl
   exact End.mk (Fy X o) (h4:=⟨rfl,rfl⟩) (h6:=tA X o (by omega)) (h7:=by show 6+(4+jl 4)≤10+jl 4;omega)
 ·match n,hn with
  | 0,_ | 1,_ | 2,_ | 3,_ | 4,_ | 5,_ | 6,_ | 7,_ | 8,_ | 9,_=>simp [TG,gu,s0,aa]
  | n +10,h=>
    have:n+10<10:=by simpa using h
    omega
 ·rintro r F' _ h1 h2
  refine ⟨SV.fF (fun n hn=> ?_) _ h1,Hp.dN (fun n hn=> ?_) h2⟩ <;> (simp at hn ⊢;omega)
end
section
attribute [local irreducible] SW RW aF SC aj ak jl
def fW (X:Ix)(d:Dt):SV:=if MM.has X.ops d then .dU [aY (Dt.set (X.dY (X.op d))),i64 0] else .dU [.d .aP,i64 7]
theorem jO {X:Ix}{d:Dt}(hh:MM.has X.ops d=true):MM.get X.ops d=some (X.op d):=by
 obtain ⟨o,ho⟩:=Option.isSome_iff_exists.1 (show (MM.get X.ops d).isSome=true from hh);unfold Ix.op;rw [ho];rfl
theorem EG (X:Ix)(hX:X.small)(d:Dt)(k:Nat):aF Tryz.prog revoke_Index_Level.f [.ptr 0 0,.agg d.cells] X.h0 k 2 (jw X d) X.h0:=by
 have:=SB.nI [0,1,2,3] (BI X hX d) (by decide) X.Mb k
 rw [show X.h0.aB (eN [0,1,2,3] k)=X.h0 by simp [Hp.aB,Ob.aB,SV.aK,SV.aB,eN,bz,dX],show (jw X d).aB (eN [0,1,2,3] k)=jw X d by unfold jw;split <;> simp [SV.aK,SV.aB]] at this
 simpa [SV.aK,SV.aB,eN,Dt.ax] using this
theorem BN (X:Ix)(o:ag)(k:Nat):aF Tryz.prog revoke_Index_threats.f [.ptr 0 0,.agg o.cells] X.h0 k 2 (.fn (.func revoke_Index_threats_1.f) [] [.ptr k 0,.ptr (k+1) 0]) ((k+1,.box 43 o.cells)::(k,.box 27 [.ptr 0 0])::X.h0):=by
 have:=SB.nI [0,1,2,3] (zp X o) (by decide) X.Mb k
 have e0:eN [0,1,2,3] k 4=k:=by simp [eN]
 have e1:eN [0,1,2,3] k 5=k+1:=by simp [eN];omega
 simp [SV.aK,SV.aB,e0,e1,eN,ag.ax,Hp.aB,Ob.aB,bz,dX] at this;rw [Nat.add_comm 1 k] at this;exact this
theorem EH (X:Ix)(hX:X.small)(o:ag)(k:Nat):aF Tryz.prog revoke_sorted_api_Dot.f [.fn (.func revoke_Index_threats_1.f) [] [.ptr 7 0,.ptr 8 0],.fn (.func revoke_Index_Threats_1.f) [] []] (TG X o 7 8) k (4+jl 4) (aY (Dt.set (X.dY o))) (TG X o 7 8):=by
 have:=SB.nI [0,1,2,3,7,8] (EF X hX o) (by decide) (fun i hi=>by
  match i,hi with
  | 0,_ | 1,_ | 2,_ | 3,_ | 4,_ | 5,_=>simp [aa]) k
 simpa [SV.aK,SV.aB,eN,ag.ax,Hp.aB,Ob.aB,bz,dX] using this
set_option maxHeartbeats 4000000 in
theorem G0 (X:Ix)(hX:X.small)(d:Dt):SB Tryz.prog revoke_Index_Threats.f [.ptr 0 0,.agg d.cells] X.h0 4 (9+jl 4) fun r F=>r=fW X d∧F=X.h0:=by
 refine revoke_Index_Threats.enter (by simp [SV.aA,SV.ok]) (X.yJ (Nat.le_refl 4)) (by simp) ?_
 dsimp only [revoke_Index_Threats.s,Co.M,Co.G,Co.J,Co.H,Co.N,Co.F,Co.C,Co.Z,Co.B,Co.b8,Co.ay,Co.bU,Co.i6,Co.z8,Co.cq];have hl:=EG X hX d;refine SW.seq ?_;refine SW.g0 [0,1,3,4,5,7,15] mixed af ?_;refine SW.seq (SW.seq ?_);rcases hh:MM.has X.ops d with _ | _
 ·have hlv:jw X d= .dU [i64 0,i64 7]:=by unfold jw;rw [hh];rfl
  rw [hlv] at hl;refine SW.g1 [0,1,3,4,5,7,15] mixed af hl ?_;refine SW.seq ?_;refine SW.g0 [0,1,3,4,5,7,15] mixed af ?_;refine SW.au rfl (SW.seq ?_);refine SW.g0 [0,1,3,4,5,7,15] mixed af ?_;refine SW.weak id (st1:=⟨[(4,.d .aP),(5,i64 7)],X.h0,4+(9+jl 4)⟩) (aM.same (by show 4≤4+(9+jl 4);omega) (by simp [aQ,List.lookup,SV.aB,SV.ok]) (X.yJ (by show 4≤4+(9+jl 4);omega)) (fun y hy=> ?_)) (SW.ret ?_)
  ·simp only [Ix.h0,List.mem_cons,List.not_mem_nil,or_false] at hy
   rcases hy with rfl | rfl | rfl | rfl <;> rfl
  exact End.mk X.h0 (h3:=fun _ _ h=>h) (h4:=⟨by simp [fW,hh,eE],rfl⟩) (h6:=X.yJ (by omega)) (h7:=Nat.le_refl _)
 ·have hlv:jw X d= .dU [.d (.int .i64 (((X.mJ d).length:Int) - 1)),i64 0]:=by unfold jw;rw [hh];rfl
  rw [hlv] at hl;refine SW.g1 [0,1,3,4,5,7,15] mixed af hl ?_;refine SW.seq ?_;refine SW.g0 [0,1,3,4,5,7,15] mixed af ?_;refine SW.aq rfl (SW.skip ?_);refine SW.seq ?_;obtain ⟨o,ho⟩:∃ o,(MM.get X.ops d).getD ag.zero=o:=⟨_,rfl⟩;have hto:X.op d=o:=ho;have hthr:aF Tryz.prog revoke_Index_threats.f [.ptr 0 0,.agg o.cells] X.h0 7 2 (.fn (.func revoke_Index_threats_1.f) [] [.ptr 7 0,.ptr 8 0]) ((8,.box 43 o.cells)::(7,.box 27 [.ptr 0 0])::X.h0):=BN X o 7;have hs:=EH X hX o;refine SW.g2 [0,1,3,4,5,7,15] mixed (ho) hthr hs ?_;refine SW.ret ?_;exact End.mk X.h0 (h3:=HSub.cons rfl (HSub.cons rfl (HSub.cons rfl (HSub.cons rfl (HSub.nil _))))) (h4:=⟨by unfold fW;rw [hh,hto];rfl,rfl⟩) (h6:=X.yJ (by omega)) (h7:=by show 4+(9+jl 4)≤7+2+(4+jl 4);omega)
end
end Go.Proofs.YtaelhkkjgfobhaaGreat
