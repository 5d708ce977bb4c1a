/-
 Revoke: who is threatened, one by one: the inner client.
-/
import Derived.Test.YtaelhkkjgfobhaaGreatK6
import Derived.Test.YtaelhkkjgfobhaaGreatKQ
set_option linter.unusedSectionVars false
set_option linter.unusedVariables false
set_option linter.unusedSimpArgs false
namespace Go.Proofs.YtaelhkkjgfobhaaGreat
open Go.Sl Go.Proofs
section
attribute [local irreducible] SW RW aM SC ak au ir
section
variable {σ:Type} {Fh:σ→Hp} {nx:σ→ag→Nat→σ} {inv:σ→Nat→Prop} {aX y z b5 b3 b2:Nat}
def ja (Fh:σ→Hp)(z b2 b3 b5 y:Nat)(e:Dt)(x:ag)(ca cb:Code)(s:σ):Hp:=
 [(z,.kJ 29 [2,3,5] [.ptr b2 0,.ptr b3 0,.ptr b5 0] [19] ca cb .ready none),(b2,.box 37 e.cells),(b3,.box 101 [.yl y]),(b5,.box 43 x.cells)]++Fh s
def Il (nx:σ→ag→Nat→σ)(e:Dt)(x:ag)(s:σ)(t:Dt)(k:Nat):σ:=if t=e then nx s x (k+1) else s
structure IP (Fh:σ→Hp)(inv:σ→Nat→Prop)(J z b2 b3 b5:Nat)(s:σ)(j:Nat):Prop where
 i:inv s (j+J)
 hz:lk (Fh s) z=none
 h2:lk (Fh s) b2=none
 h3:lk (Fh s) b3=none
 h5:lk (Fh s) b5=none
theorem J2 {e:Dt}{x:ag}{s s':σ}{ts:List Dt}(h:gV (yV (Il nx e x)) s ts s'):gV (yV nx) s ((ts.filter fun t=>decide (t=e)).map fun _=>x) s':=by
 induction h with
 | nil=>exact .nil
 | @snoc xs s1 s2 t h1 h ih=>
  obtain ⟨k,rfl⟩:=h
  rw [List.filter_append,List.map_append]
  by_cases ht:t=e
  ·have e1:Il nx e x s1 t k=nx s1 x (k+1):=if_pos ht
   rw [e1]
   simp only [List.filter_cons,ht,decide_true,if_true,List.filter_nil,List.map_cons,List.map_nil]
   exact .snoc ih ⟨_,rfl⟩
  ·have e1:Il nx e x s1 t k=s1:=if_neg ht
   rw [e1]
   simpa [ht] using ih
theorem HSub.app {A B h:Hp}(h1:HSub A h)(h2:∀ n ob,lk A n=none→lk B n=some ob→lk h n=some ob):HSub (A++B) h:=fun n ob hn=>by
 rw [dB] at hn
 cases hA:lk A n with
 | some o=>rw [hA] at hn;rw [← (show o=ob by simpa using hn)];exact h1 n o hA
 | none=>rw [hA,Option.none_or] at hn;exact h2 n ob hA hn
set_option maxHeartbeats 8000000 in
theorem inBody {J:Nat}(hmono:∀ s j,inv s (j+1)→inv s j)(hy:qW Tryz.prog y (fun x:ag=> .agg x.cells) aX Fh nx inv)(n1:z≠b2)(n2:z≠b3)(n3:z≠b5)(n4:b2≠b3)(n5:b2≠b5)(n6:b3≠b5)(e:Dt)(x:ag){ca cb:Code}
  (hca:cK Tryz.prog 29 ca=some (.ey [⟨some 6,.alloc 37 [.d (.int .u8 0),.d (.int .u32 0)],none⟩,⟨none,.store 2 (.t 6) (.t 19),none⟩] (jK 2) false))
  (hcb:cK Tryz.prog 29 cb=some (.block 3 (.seq (.ey [⟨some 20,.load (some 2) (.t 6),none⟩,⟨some 21,.load (some 2) (.t 2),none⟩,⟨some 22,.eqv false [true,true] (.t 20) (.t 21),none⟩,⟨some 23,.mv (.t 22),none⟩,⟨some 24,.load none (.t 3),some (23,true)⟩,⟨some 25,.load (some 29) (.t 5),some (23,true)⟩,⟨some 26,.call (.t 24) [(.t 25)],some (23,true)⟩,⟨some 27,.not (.t 26),some (23,true)⟩,⟨some 28,.pick (.t 23) (.t 27) (.k (.d (.bool false))),none⟩] (jK 9) false)
   (.cond (.t 28) .ret .skip)))):
  qW Tryz.prog z (fun t:Dt=> .agg t.cells) (1+aX) (ja Fh z b2 b3 b5 y e x ca cb) (Il nx e x) (IP Fh inv J z b2 b3 b5):=by
 have f1:=bA n1
 have f2:=bA n2
 have f3:=bA n3
 have f4:=bA n4
 have f5:=bA n5
 have f6:=bA n6
 have hsome:∀ (s:σ) n,(lk (Fh s) n).isSome=true→(lk (ja Fh z b2 b3 b5 y e x ca cb s) n).isSome=true:=fun s n h=>by
  unfold ja
  rw [dB]
  cases lk [(z,Ob.kJ 29 [2,3,5] [.ptr b2 0,.ptr b3 0,.ptr b5 0] [19] ca cb .ready none),(b2,.box 37 e.cells),(b3,.box 101 [.yl y]),(b5,.box 43 x.cells)] n with
  | some _=>rfl
  | none=>rw [Option.none_or];exact h
 have s1:∀ s:σ,(lk (ja Fh z b2 b3 b5 y e x ca cb s) z).isSome=true:=fun s=>by simp [ja,aa]
 have s2:∀ s:σ,(lk (ja Fh z b2 b3 b5 y e x ca cb s) b2).isSome=true:=fun s=>by simp [ja,aa,f1]
 have s3:∀ s:σ,(lk (ja Fh z b2 b3 b5 y e x ca cb s) b3).isSome=true:=fun s=>by simp [ja,aa,f2,f4]
 have s5:∀ s:σ,(lk (ja Fh z b2 b3 b5 y e x ca cb s) b5).isSome=true:=fun s=>by simp [ja,aa,f3,f5,f6]
 have lP:∀ (s:σ) j,IP Fh inv J z b2 b3 b5 s j→(ja Fh z b2 b3 b5 y e x ca cb s).ok (fun n=>(lk (ja Fh z b2 b3 b5 y e x ca cb s) n).isSome)=true:=fun s j hinv=>by
  refine av (s1 s) (by simp [Ob.ok,SV.ay,SV.ok,s2 s,s3 s,s5 s]) (av (s2 s) (by simp [Ob.ok,Dt.ai]) (av (s3 s) ?_ (av (s5 s) (by simp [Ob.ok,ag.ai]) (Hp.dy (fun n hn=>hsome s n hn) (hy.cl s _ hinv.i)))))
  simp only [Ob.ok,SV.ay,SV.ok,Bool.and_true]
  exact hsome s y (Option.isSome_iff_ne_none.2 (hy.pK s))
 refine ⟨fun s=>by simp [ja,aa],fun s j hinv a ha=> ?_,lP,fun s t k j hinv hok=> ?_⟩
 ·have hsub:=hy.nd s _ hinv.i
  simp only [ja,List.cons_append,List.nil_append,List.mem_cons] at ha
  rcases ha with rfl | rfl | rfl | rfl | ha
  ·simp [ja,aa]
  ·simp [ja,aa,f1]
  ·simp [ja,aa,f2,f4]
  ·simp [ja,aa,f3,f5,f6]
  ·have h1:=hsub a ha
   have e1:a.1≠z:=fun e=>by rw [e,hinv.hz] at h1;cases h1
   have e2:a.1≠b2:=fun e=>by rw [e,hinv.h2] at h1;cases h1
   have e3:a.1≠b3:=fun e=>by rw [e,hinv.h3] at h1;cases h1
   have e4:a.1≠b5:=fun e=>by rw [e,hinv.h5] at h1;cases h1
   simp only [ja,List.cons_append,List.nil_append]
   rw [aa,if_neg e1,aa,if_neg e2,aa,if_neg e3,aa,if_neg e4]
   exact h1
 ·have hok':=hok
  unfold ja Hp.ok at hok'
  simp only [List.cons_append,List.nil_append,List.all_cons,Bool.and_eq_true,decide_eq_true_eq] at hok'
  obtain ⟨⟨kz,_⟩,⟨k2,_⟩,⟨k3,ky⟩,⟨k5,_⟩,kF⟩:=hok'
  have kF:(Fh s).ok (fun n=>decide (n<k))=true:=kF
  have ky:y<k:=by simpa [Ob.ok,SV.ay,SV.ok] using ky
  have q2:=bA (show k≠b2 by omega)
  have q3:=bA (show k≠b3 by omega)
  have q5:=bA (show k≠b5 by omega)
  have g1:List.lookup k (Fh s)=none:=Hp.out kF (Nat.le_refl _)
  have hO0:gW [(b2,Ob.box 37 e.cells),(b3,.box 101 [.yl y]),(b5,.box 43 x.cells)] Fh s k:=by
   refine ⟨by simp [n4,n5,n6],fun n hn=> ?_,fun n hn=> ?_,?_,kF⟩
   ·simp only [List.map_cons,List.map_nil,List.mem_cons,List.not_mem_nil,or_false] at hn
    rcases hn with rfl | rfl | rfl <;> assumption
   ·simp only [List.map_cons,List.map_nil,List.mem_cons,List.not_mem_nil,or_false] at hn
    rcases hn with rfl | rfl | rfl
    ·exact hinv.h2
    ·exact hinv.h3
    ·exact hinv.h5
   ·simp [Hp.ok,Ob.ok,SV.ay,SV.ok,Dt.ai,ag.ai];omega
  have hO1:gW [(k,Ob.box 37 t.cells),(b2,Ob.box 37 e.cells),(b3,.box 101 [.yl y]),(b5,.box 43 x.cells)] Fh s (k+1):=gW.new hO0 (Nat.le_refl _) (Nat.lt_succ_self _) (Dt.ai _ _)
  have hHz:lk ([(b2,Ob.box 37 e.cells),(b3,.box 101 [.yl y]),(b5,.box 43 x.cells)]++Fh s) z=none:=by
   simp only [List.cons_append,List.nil_append]
   rw [aa,if_neg n1,aa,if_neg n2,aa,if_neg n3]
   exact hinv.hz
  have oke:∀ (s':σ) k',k≤k'→(Fh s').ok (fun n=>decide (n<k'))=true→(ja Fh z b2 b3 b5 y e x ca cb s').ok (fun n=>decide (n<k'))=true:=fun s' k' hk hF=>
   av (by simp;omega) (by simp [Ob.ok,SV.ay,SV.ok];omega) (av (by simp;omega) (by simp [Ob.ok,Dt.ai]) (av (by simp;omega) (by simp [Ob.ok,SV.ay,SV.ok];omega) (av (by simp;omega) (by simp [Ob.ok,ag.ai]) hF)))
  have h_:∀ (s':σ) k',(∀ n,lk (Fh s') n≠none→lk (Fh s) n≠none∨(k≤n∧n<k'))→∀ n,lk (ja Fh z b2 b3 b5 y e x ca cb s') n≠none→lk (ja Fh z b2 b3 b5 y e x ca cb s) n≠none∨(k≤n∧n<k'):=fun s' k' hn n hn'=>by
   unfold ja at hn' ⊢
   rw [dB] at hn' ⊢
   cases hA:lk [(z,Ob.kJ 29 [2,3,5] [.ptr b2 0,.ptr b3 0,.ptr b5 0] [19] ca cb .ready none),(b2,.box 37 e.cells),(b3,.box 101 [.yl y]),(b5,.box 43 x.cells)] n with
   | some _=>exact .inl (by simp)
   | none=>
    rw [hA,Option.none_or] at hn'
    rw [Option.none_or]
    exact hn n hn'
  by_cases ht:t=e
  ·have hd:decide (t=e)=true:=decide_eq_true ht
   have hinv1:inv s ((j+J)+1):=by have:=hinv.i;rwa [show j+1+J=j+J+1 by omega] at this
   obtain ⟨c1,c2,c3,c4⟩:=hy.call s x (k+1) (j+J) hinv1 (Hp.bE (Nat.le_succ _) kF)
   have eX:Il nx e x s t k=nx s x (k+1):=if_pos ht
   rw [eX]
   generalize nx s x (k+1)=w at c1 c2 c3 c4 ⊢
   have c3':(Fh w).ok (fun n=>decide (n<k+(1+aX)))=true:=by rw [← Nat.add_assoc];exact c3
   have c4':∀ n,lk (Fh w) n≠none→lk (Fh s) n≠none∨(k≤n∧n<k+(1+aX)):=fun n hn=>(c4 n hn).elim .inl fun h=> .inr (by omega)
   have hno:∀ n,n<k→lk (Fh s) n=none→lk (Fh w) n=none:=fun n hn h=>Classical.byContradiction fun hh=>(c4 n hh).elim (fun h'=>h' h) (fun h'=>by omega)
   have hI':IP Fh inv J z b2 b3 b5 w j:=⟨c2,hno z kz hinv.hz,hno b2 k2 hinv.h2,hno b3 k3 hinv.h3,hno b5 k5 hinv.h5⟩
   have hn':=h_ w _ c4'
   refine ⟨?_,hI',oke w _ (by omega) c3',hn'⟩
   unfold Gw
   refine wL.here (fun n=>(lk (ja Fh z b2 b3 b5 y e x ca cb s) n).isSome) (wL.lY (cs:=[.ptr b2 0,.ptr b3 0,.ptr b5 0]) (H:=[(b2,.box 37 e.cells),(b3,.box 101 [.yl y]),(b5,.box 43 x.cells)]++Fh s) hca hcb rfl rfl rfl (by simp) kz hHz (by simp [SV.ay,SV.ok,Dt.ai]) hO0.rR (by simp [SV.ay,SV.ok];omega) ?_) (fun n hn=>Option.isSome_iff_ne_none.1 hn) (by simp [SV.ay,SV.ok,Dt.ai]) (lP s _ hinv) ?_
   ·skip
    show Go.Sl.SW _ _ _ _ ⟨[(19,.agg t.cells),(2,.ptr b2 0),(3,.ptr b3 0),(5,.ptr b5 0)],(b2,.box 37 e.cells)::(b3,.box 101 [.yl y])::(b5,.box 43 x.cells)::Fh s,_⟩ _
    refine SW.g0 [2,3,5,6,19,28] mixed (And.intro (f4) (And.intro (f5) (And.intro (f6) (And.intro (q2) (And.intro (q3) (And.intro (q5) (g1))))))) ?_
    refine ⟨rfl,SW.block (SW.seq ?_)⟩
    have hsubF:HSub (Fh s) ((k,.box 37 t.cells)::(b2,.box 37 e.cells)::(b3,.box 101 [.yl y])::(b5,.box 43 x.cells)::Fh s):=hO1.sub
    have hin:=hy.pK s
    (have fx:=(And.intro (f4) (And.intro (f5) (And.intro (f6) (And.intro (q2) (And.intro (q3) (And.intro (q5) (And.intro (g1) (hd))))))));refine SW.dL [2,3,5,6,19,28] mixed ?_;(repeat (first | refine RW.ro fx (h:= ?_) | refine RW.skip (h:= ?_) | refine RW.op fx (h:= ?_) | refine RW.eF fx (h:= ?_) | refine RW.bH (h:= ?_) | (refine RW.vW rfl rfl c1 hin hsubF (.inr ⟨_,_,rfl,rfl⟩) (h:= ?_);intro H hH)));refine RW.nil ⟨dY (by kernel_rfl),au.mk (h:= ?_)⟩)
    have hO2:gW [(k,Ob.box 37 t.cells),(b2,Ob.box 37 e.cells),(b3,.box 101 [.yl y]),(b5,.box 43 x.cells)] Fh w (k+1+aX):=Ad hO1 (by omega) c3 c4
    have hlkH:=tS hO1 hO2 hH
    refine SW.aj rfl (SW.skip ?_)
    refine ⟨none,true,[(b2,Ob.box 37 e.cells),(b3,.box 101 [.yl y]),(b5,.box 43 x.cells)]++Fh w,⟨rfl,rfl⟩,fun n ob hn=>hlkH n ob (hO2.keep (fun a ha=>List.mem_cons_of_mem _ ha) n ob hn),(hO2.less (List.sublist_cons_self _ _)).mono (show k+1+aX≤k+(1+aX) by omega) |>.rR,by show k+(1+aX)≤k+1+aX;omega,⟨rfl,rfl⟩⟩
   ·rintro r F' ⟨rfl,rfl⟩ _ _
    refine ⟨rfl,Hp.dy (fun n hn=> ?_) (lP w _ hI')⟩
    rcases hn' n (Option.isSome_iff_ne_none.1 hn) with h | h
    ·rw [Option.isSome_iff_ne_none.2 h];rfl
    ·simp [h.1,h.2]
  ·have hd:decide (t=e)=false:=decide_eq_false ht
   have eX:Il nx e x s t k=s:=if_neg ht
   rw [eX]
   have hI':IP Fh inv J z b2 b3 b5 s j:=⟨hmono s _ (by have:=hinv.i;rwa [show j+1+J=j+J+1 by omega] at this),hinv.hz,hinv.h2,hinv.h3,hinv.h5⟩
   have c3':(Fh s).ok (fun n=>decide (n<k+(1+aX)))=true:=Hp.bE (by omega) kF
   refine ⟨?_,hI',oke s _ (by omega) c3',fun n hn=> .inl hn⟩
   unfold Gw
   refine wL.here (fun n=>(lk (ja Fh z b2 b3 b5 y e x ca cb s) n).isSome) (wL.lY (cs:=[.ptr b2 0,.ptr b3 0,.ptr b5 0]) (H:=[(b2,.box 37 e.cells),(b3,.box 101 [.yl y]),(b5,.box 43 x.cells)]++Fh s) hca hcb rfl rfl rfl (by simp) kz hHz (by simp [SV.ay,SV.ok,Dt.ai]) hO0.rR (by simp [SV.ay,SV.ok];omega) ?_) (fun n hn=>Option.isSome_iff_ne_none.1 hn) (by simp [SV.ay,SV.ok,Dt.ai]) (lP s _ hinv) ?_
   ·skip
    show Go.Sl.SW _ _ _ _ ⟨[(19,.agg t.cells),(2,.ptr b2 0),(3,.ptr b3 0),(5,.ptr b5 0)],(b2,.box 37 e.cells)::(b3,.box 101 [.yl y])::(b5,.box 43 x.cells)::Fh s,_⟩ _
    refine SW.g0 [2,3,5,6,19,28] mixed (And.intro (f4) (And.intro (f5) (And.intro (f6) (And.intro (q2) (And.intro (q3) (And.intro (q5) (g1))))))) ?_
    refine ⟨rfl,SW.block (SW.seq ?_)⟩
    refine SW.g0 [2,3,5,6,19,28] mixed (And.intro (f4) (And.intro (f5) (And.intro (f6) (And.intro (q2) (And.intro (q3) (And.intro (q5) (And.intro (g1) (hd)))))))) ?_
    have hO2:gW [(b2,Ob.box 37 e.cells),(b3,.box 101 [.yl y]),(b5,.box 43 x.cells)] Fh s (k+(1+aX)):=hO0.mono (by omega)
    refine SW.weak id (st1:=⟨[(28,bl false)],[(b2,Ob.box 37 e.cells),(b3,.box 101 [.yl y]),(b5,.box 43 x.cells)]++Fh s,k+(1+aX)⟩) (aJ.own hO2 (hy.nd s _ hI'.i) (by omega) (by simp [aY,List.lookup,SV.aC,SV.ok]) (hO1.keep (fun a ha=>List.mem_cons_of_mem _ ha))) ?_
    refine SW.aj rfl (SW.skip ?_)
    refine ⟨none,true,[(b2,Ob.box 37 e.cells),(b3,.box 101 [.yl y]),(b5,.box 43 x.cells)]++Fh s,⟨rfl,rfl⟩,?_,hO2.rR,by show k+(1+aX)≤k+(1+aX);omega,⟨rfl,rfl⟩⟩
    exact fun n ob hn=>hn
   ·rintro r F' ⟨rfl,rfl⟩ _ _
    refine ⟨rfl,Hp.dy (fun n hn=> ?_) (lP s _ hI')⟩
    rw [hn];rfl
end
end
section
attribute [local irreducible] SW RW aM SC ak au ir
def Ix.hit (X:Ix)(e:Dt)(xs:MM Dt ag):List ag:=xs.flatMap fun x=>((X.lD x.2.2).filter fun t=>decide (t=e)).map fun _=>x.2.2
theorem Ix.D8 (X:Ix)(e:Dt)(xs:MM Dt ag)(x:Nat×Dt×ag):X.hit e (xs++[x])=X.hit e xs++(((X.lD x.2.2).filter fun t=>decide (t=e)).map fun _=>x.2.2):=by unfold Ix.hit;simp
def rU (aX:Nat):Nat:=2+1000*(4+ir (1+aX))
theorem D9 {α σ:Type}{Step:σ→α→σ→Prop}{a b c:σ}{xs ys:List α}(h1:gV Step a xs b)(h2:gV Step b ys c):gV Step a (xs++ys) c:=by
 induction h2 with
 | nil=>rw [List.append_nil];exact h1
 | snoc _ h ih=>rw [← List.append_assoc];exact .snoc ih h
abbrev oT (X:Ix)(e:Dt):Hp:=(4,.box 27 [.ptr 0 0])::(5,.box 37 e.cells)::X.h0
theorem tU (X:Ix)(e:Dt){k:Nat}(h:6≤k):(oT X e).ok (fun n=>decide (n<k))=true:=
 av (by simp;omega) (by simp [Ob.ok,SV.ay,SV.ok];omega) (av (by simp;omega) (by simp [Ob.ok,Dt.ai]) (X.wE (by omega)))
abbrev HG (X:Ix)(e:Dt)(k y:Nat)(seen:List Nat):Hp:=(k+1,.iter (some 1) X.co seen X.co)::(k,.box 101 [.yl y])::oT X e
section
variable {σ:Type} {Fh:σ→Hp} {nx:σ→ag→Nat→σ} {inv:σ→Nat→Prop} {aX y k:Nat}
structure HI (X:Ix)(e:Dt)(Fh:σ→Hp)(nx:σ→ag→Nat→σ)(inv:σ→Nat→Prop)(aX:Nat)(s0:σ)(k y:Nat)(xs:MM Dt ag)(s:σ)(kk:Nat):Prop where
 sub:∀ x,x∈xs→x∈X.ops
 nd:(xs.map (·.1)).Nodup
 Li:gV (yV nx) s0 (X.hit e xs) s
 i:inv s ((X.ops.length - xs.length)*1000000)
 own:gW (HG X e k y (xs.map (·.1))) Fh s kk
 le:kk≤k+2+xs.length*(4+ir (1+aX))
 len:xs.length≤X.ops.length
theorem F7 (hmono:∀ s j,inv s (j+1)→inv s j)(s:σ){a b:Nat}(h:a≤b)(hi:inv s b):inv s a:=by
 obtain ⟨d,rfl⟩:=Nat.le.dest h
 clear h
 induction d with
 | zero=>exact hi
 | succ d ih=>exact ih (hmono s _ hi)
theorem F8 (q:Nat→Bool)(m:Nat)(a:Nat)(l:List Nat)(b:Nat)(h:q m=true):(Ob.iter (some m) a l b).ok q=true:=h
set_option maxHeartbeats 16000000 in
theorem F9 (X :Ix)(hX:X.small)(e:Dt)(hmono:∀ s j,inv s (j+1)→inv s j)(s0:σ)(hy:qW Tryz.prog y (fun x:ag=> .agg x.cells) aX Fh nx inv)(hO:gW (oT X e) Fh s0 k)(hi:inv s0 (X.ops.length*1000000))(K4:6≤k):
    SB Tryz.prog revoke_Index_Threatened_1.f [.yl y,.ptr 4 0,.ptr 5 0] (oT X e++Fh s0) k (rU aX) fun r F=>r= .dM []∧∃ xs s',((xs.map (·.1)).Nodup∧∀ x,x∈xs↔x∈X.ops)∧gV (yV nx) s0 (X.hit e xs) s'∧gW (oT X e) Fh s' (k+rU aX)∧(∃ j,inv s' j)∧F=oT X e++Fh s':=by
  have hyk:y<k:=by
    obtain ⟨ob,ho⟩:=Option.ne_none_iff_exists'.1 (hy.pK s0)
    simpa using (Hp.dH hO.okF ho).1
  refine revoke_Index_Threatened_1.enter (by simp [SV.ok,SV.ay];omega) hO.rR (by simp) ?_
  dsimp only [revoke_Index_Threatened_1.s,Co.M,Co.G,Co.J,Co.H,Co.N,Co.F,Co.C,Co.Z,Co.B,Co.b8,Co.aB,Co.bL,Co.i6,Co.z8,Co.bU]
  have hkn:∀ {q:Nat},6≤q→(q≠0∧q≠1∧q≠2∧q≠3)∧q≠4∧q≠5:=fun h=>⟨⟨by omega,by omega,by omega,by omega⟩,by omega,by omega⟩
  have f0:=wG (hkn K4).1
  have f4:=bA (hkn K4).2.1
  have f5:=bA (hkn K4).2.2
  have h0:=wG (hkn (show 6≤k+1 by omega)).1
  have h4:=bA (hkn (show 6≤k+1 by omega)).2.1
  have h5:=bA (hkn (show 6≤k+1 by omega)).2.2
  have hkk:=bA (show k+1≠k by omega)
  have g0:List.lookup k (Fh s0)=none:=hO.out (Nat.le_refl _)
  have g1:List.lookup (k+1) (Fh s0)=none:=hO.out (by omega)
  simp only [oT,Ix.h0,List.cons_append,List.nil_append]
  refine SW.seq ?_
  refine SW.g0 [0,1,2,3,5,6,11,13,18,19,28] mixed (And.intro (f0) (And.intro (f4) (And.intro (f5) (g0)))) ?_
  refine SW.seq ?_
  refine SW.g0 [0,1,2,3,5,6,11,13,18,19,28] mixed (And.intro (f0) (And.intro (f4) (And.intro (f5) (And.intro (g0) (And.intro (h0) (And.intro (h4) (And.intro (h5) (And.intro (hkk) (g1))))))))) ?_
  refine SW.block ?_
  have hO1:gW (HG X e k y []) Fh s0 (k+2):=gW.new (gW.new hO (Nat.le_refl _) (Nat.lt_succ_self _) (by simp [Ob.ok,SV.ay,SV.ok];omega)) (Nat.le_refl _) (Nat.lt_succ_self _) (F8 _ _ _ _ _ (by simp))
  have hne:k+1≠1:=by omega
  refine SW.pL (es:=fun _=>an Dt.cells ov X.ops) (c:=fun _=>X.co) (s7:=fun _=>k+1) (nm:=fun _=>1) (since:=fun _=>X.co) (zF:=fun _=>X.co)
    (α:={p:MM Dt ag×σ×Nat // HI X e Fh nx inv aX s0 k y p.1 p.2.1 p.2.2})
    (fun p=>⟨[(11,.it (k+1)),(3,.ptr k 0),(0,.yl y),(1,.ptr 4 0),(2,.ptr 5 0)],HG X e k y (p.1.1.map (·.1))++Fh p.1.2.1,p.1.2.2⟩)
    (fun p=>jq (an Dt.cells ov X.ops) (p.1.1.map (·.1))) ⟨([],s0,k+2),⟨by simp,by simp,.nil,hi,hO1,by show k+2≤k+2+_;omega,Nat.zero_le _⟩⟩ id (seen:=fun p=>p.1.1.map (·.1)) ?_ (fun p=>by simp [List.lookup]) (fun p=>by simp [aa]) (fun p=> ?_) (fun p=>hne) (fun p e' he=> ?_) (fun p=>Nat.le_refl _) (fun p hall=> ?_) (fun p e' he hs=> ?_)
  · exact aJ.own hO1 (hy.nd s0 _ hi) (by show k≤k+2;omega) (by simp [aY,List.lookup,SV.aC,SV.ok,SV.ay];omega) (fun n ob h=>h)
  · simp only [HG,oT,Ix.h0,List.cons_append,List.nil_append]
    simp [aa,h0,f0]
  · obtain ⟨x,hx,rfl⟩:=eY he
    exact hX.wo.old x hx
  · obtain ⟨⟨xs,s,kk⟩,p⟩:=p
    have p:HI X e Fh nx inv aX s0 k y xs s kk:=p
    dsimp only at*
    have hxs:=tF hX.wo p.sub hall
    have hkl:kk≤k+rU aX:=by
      have h1:=p.le
      have h2:=p.len
      have h3:=hX.op
      have h4:xs.length*(4+ir (1+aX))≤1000*(4+ir (1+aX)):=Nat.mul_le_mul_right _ (by omega)
      have h5:rU aX=2+1000*(4+ir (1+aX)):=rfl
      omega
    have hO2:gW (oT X e) Fh s (k+rU aX):=(p.own.less ((List.sublist_cons_self _ _).trans (List.sublist_cons_self _ _))).mono hkl
    refine ⟨⟨[],oT X e++Fh s,k+rU aX⟩,id,aJ.own hO2 (hy.nd s _ p.i) (Nat.le_add_right _ _) trivial (p.own.keep (fun z hz=>List.mem_cons_of_mem _ (List.mem_cons_of_mem _ hz))),?_⟩
    rw [if_pos rfl]
    exact End.mk (oT X e++Fh s) (h3:=fun _ _ h=>h) (h4:=⟨rfl,xs,s,⟨p.nd,hxs⟩,p.Li,hO2,⟨_,p.i⟩,rfl⟩) (h6:=hO2.rR) (h7:=Nat.le_refl _)
  · obtain ⟨⟨xs,s,kk⟩,p⟩:=p
    have p:HI X e Fh nx inv aX s0 k y xs s kk:=p
    dsimp only at*
    obtain ⟨x,hx,rfl⟩:=eY he
    dsimp only at hs
    have g5:(xs.map (·.1)++[x.1]).getLast? =some x.1:=by simp
    have g6:=kU (kc:=Dt.cells) (vs:=ov) hX.wo.times hx
    have eov:∀ o,ov o= .agg o.cells:=fun _=>rfl
    obtain ⟨q1,q2,_⟩:=qQ p.sub p.nd hx hs
    have em:(xs++[x]).map (·.1)=xs.map (·.1)++[x.1]:=by simp
    have hm:=k_ he hs
    obtain ⟨o,ho⟩:∃ o,x.2.2=o:=⟨_,rfl⟩
    have hkq:k+2≤kk:=by have:=p.own.lt (k+1) (by simp);omega
    have z0:=wG (hkn (show 6≤kk by omega)).1
    have z4:=bA (hkn (show 6≤kk by omega)).2.1
    have z5:=bA (hkn (show 6≤kk by omega)).2.2
    have z6:=bA (show kk≠k by omega)
    have z7:=bA (show kk≠k+1 by omega)
    have g2:List.lookup kk (Fh s)=none:=p.own.out (Nat.le_refl _)
    simp only [HG,oT,Ix.h0,List.cons_append,List.nil_append]
    rw [jG]
    refine SW.block (SW.seq ?_)
    refine SW.g0 [0,1,2,3,5,6,11,13,18,19,28] mixed (And.intro (g5) (And.intro (g6) (And.intro (eov) (And.intro (ho) (And.intro (f0) (And.intro (f4) (And.intro (f5) (And.intro (h0) (And.intro (h4) (And.intro (h5) (And.intro (hkk) (And.intro (z0) (And.intro (z4) (And.intro (z5) (And.intro (z6) (And.intro (z7) (g2))))))))))))))))) ?_
    have hthr:=vA X o (kk+1)
    have hs0:HSub X.h0 ((kk,Ob.box 43 o.cells)::(k+1,.iter (some 1) X.co (xs.map (·.1)++[x.1]) X.co)::(k,.box 101 [.yl y])::(4,.box 27 [.ptr 0 0])::(5,.box 37 e.cells)::(0,.box 110 [.any,.mp 1,.mp 2,.mp 3])::(1,.map (an Dt.cells ov X.ops) X.co)::(2,.map (an Dt.cells dn X.ch) X.cc)::(3,.map (an Dt.cells dn X.jV) X.cf)::Fh s):=by
      refine HSub.cons ?_ (HSub.cons ?_ (HSub.cons ?_ (HSub.cons ?_ (HSub.nil _)))) <;> simp [aa,f0,h0,z0]
    have y0:=wG (hkn (show 6≤kk+1 by omega)).1
    have y4:=bA (hkn (show 6≤kk+1 by omega)).2.1
    have y5:=bA (hkn (show 6≤kk+1 by omega)).2.2
    have y6:=bA (show kk+1≠k by omega)
    have y7:=bA (show kk+1≠k+1 by omega)
    have y8:=bA (show kk+1≠kk by omega)
    have x0:=wG (hkn (show 6≤kk+2 by omega)).1
    have x4:=bA (hkn (show 6≤kk+2 by omega)).2.1
    have x5:=bA (hkn (show 6≤kk+2 by omega)).2.2
    have x6:=bA (show kk+2≠k by omega)
    have x7:=bA (show kk+2≠k+1 by omega)
    have x8:=bA (show kk+2≠kk by omega)
    have x9:=bA (show kk+2≠kk+1 by omega)
    have g3:List.lookup (kk+1) (Fh s)=none:=p.own.out (by omega)
    have g4:List.lookup (kk+2) (Fh s)=none:=p.own.out (by omega)
    have ek:kk+1+1=kk+2:=rfl
    refine SW.seq ?_
    refine SW.g1 [0,1,2,3,5,6,11,13,18,19,28] mixed (And.intro (f0) (And.intro (f4) (And.intro (f5) (And.intro (h0) (And.intro (h4) (And.intro (h5) (And.intro (hkk) (And.intro (z0) (And.intro (z4) (And.intro (z5) (And.intro (z6) (And.intro (z7) (And.intro (g2) (And.intro (y0) (And.intro (y4) (And.intro (y5) (And.intro (y6) (And.intro (y7) (And.intro (y8) (And.intro (x0) (And.intro (x4) (And.intro (x5) (And.intro (x6) (And.intro (x7) (And.intro (x8) (And.intro (x9) (And.intro (g3) (And.intro (g4) (ek))))))))))))))))))))))))))))) (And.intro hs0 hthr) ?_
    have hB:gW (HG X e k y (xs.map (·.1)++[x.1])) Fh s kk:=p.own.KN rfl (by
      have h1:=p.own.ok
      unfold HG Hp.ok at*
      rw [List.all_cons] at*
      exact h1)
    have hO3:gW ((kk+2,.box 43 o.cells)::(kk+1,.box 27 [.ptr 0 0])::(kk,.box 43 o.cells)::HG X e k y (xs.map (·.1)++[x.1])) Fh s (kk+3):=
      gW.new (gW.new (gW.new hB (Nat.le_refl _) (Nat.lt_succ_self _) (ag.ai _ _)) (Nat.le_refl _) (Nat.lt_succ_self _) (by simp [Ob.ok,SV.ay,SV.ok])) (Nat.le_refl _) (Nat.lt_succ_self _) (ag.ai _ _)
    obtain ⟨G4,hG4⟩:∃ G4:Hp,(4,Ob.box 27 [.ptr 0 0])::(k+1,.iter (some 1) X.co (xs.map (·.1)++[x.1]) X.co)::(5,.box 37 e.cells)::(k,.box 101 [.yl y])::(kk,.box 43 o.cells)::TG X o (kk+1) (kk+2)=G4:=⟨_,rfl⟩
    have hm4:∀ a,a∈G4→a∈(kk+2,Ob.box 43 o.cells)::(kk+1,.box 27 [.ptr 0 0])::(kk,.box 43 o.cells)::HG X e k y (xs.map (·.1)++[x.1]):=fun a ha=>by
      rw [← hG4] at ha
      simp only [HG,oT,TG,Ix.h0,List.mem_cons,List.not_mem_nil,or_false] at ha ⊢
      rcases ha with h | h | h | h | h | h | h | h | h | h | h <;> simp [h]
    have hO4:gW G4 Fh s (kk+3):=hO3.cut (by rw [← hG4];simp;omega) hm4
    refine SW.weak id (st1:=⟨[(18,.fn (.func revoke_Index_threats_1.f) [] [.ptr (kk+1) 0,.ptr (kk+2) 0]),(11,.it (k+1)),(3,.ptr k 0),(0,.yl y),(1,.ptr 4 0),(2,.ptr 5 0),(5,.ptr kk 0)],G4++Fh s,kk+3⟩) (aJ.own hO4 (hy.nd s _ p.i) (by omega) (by simp [aY,List.lookup,SV.aC,SV.aW,SV.ok,SV.ay];omega) (hO3.keep hm4)) ?_
    refine SW.block (SW.mL (nk:=ir (1+aX)) [2,3,5] [.ptr 5 0,.ptr k 0,.ptr kk 0] rfl ⟨rfl,rfl,rfl,trivial⟩ fun ca cb hca hcb=> ?_)
    have htl:=l_ X hX o
    have hlt:xs.length<X.ops.length:=by
      have h1:=q2.length_le_of_subset (l₂:=X.ops.map (·.1)) (fun t ht=>by
        obtain ⟨x,hx,rfl⟩:=List.mem_map.1 ht
        exact List.mem_map.2 ⟨x,q1 x hx,rfl⟩)
      simp only [List.length_map,List.length_append,List.length_singleton] at h1
      omega
    obtain ⟨J,hJ⟩:∃ J,(X.ops.length - xs.length)*1000000 - (X.lD o).length=J:=⟨_,rfl⟩
    have hJ1:(X.lD o).length+J=(X.ops.length - xs.length)*1000000:=by
      have:1000000≤(X.ops.length - xs.length)*1000000:=Nat.le_mul_of_pos_left _ (by omega)
      omega
    have hJ2:(X.ops.length - (xs.length+1))*1000000≤J:=by
      have e1:(X.ops.length - xs.length)=(X.ops.length - (xs.length+1))+1:=by omega
      rw [e1,Nat.add_mul] at hJ1
      omega
    have hyI:=inBody (z:=kk+3) (b2:=5) (b3:=k) (b5:=kk) (J:=J) hmono hy (by omega) (by omega) (by omega) (by omega) (by omega) (by omega) e o hca hcb
    have hno:∀ n,n∈G4.map (·.1)→lk (Fh s) n=none:=hO4.no
    have hI0:IP Fh inv J (kk+3) 5 k kk s (X.lD o).length:=⟨by rw [hJ1];exact p.i,p.own.out (by omega),hno 5 (by rw [← hG4];simp),hno k (by rw [← hG4];simp),hno kk (by rw [← hG4];simp)⟩
    have hTm:∀ n,n∈(TG X o (kk+1) (kk+2)).map (·.1)→n∈G4.map (·.1):=fun n hn=>by
      rw [← hG4]
      simp only [List.map_cons]
      exact List.mem_cons_of_mem _ (List.mem_cons_of_mem _ (List.mem_cons_of_mem _ (List.mem_cons_of_mem _ (List.mem_cons_of_mem _ hn))))
    have hTn:∀ n,n∈(TG X o (kk+1) (kk+2)).map (·.1)→n≠kk+3∧n≠5∧n≠k∧n≠kk:=fun n hn=>by
      simp only [TG,Ix.h0,List.map_cons,List.map_nil,List.mem_cons,List.not_mem_nil,or_false] at hn
      omega
    have inOut:∀ (s':σ) n,n≠kk+3→n≠5→n≠k→n≠kk→lk (ja Fh (kk+3) 5 k kk y e o ca cb s') n=lk (Fh s') n:=fun s' n h1 h2 h3 h4=>by
      simp only [ja,List.cons_append,List.nil_append]
      rw [aa,if_neg h1,aa,if_neg h2,aa,if_neg h3,aa,if_neg h4]
    have hOI:gW (TG X o (kk+1) (kk+2)) (ja Fh (kk+3) 5 k kk y e o ca cb) s (kk+4):=by
      refine ⟨by simp;omega,fun n hn=> ?_,fun n hn=> ?_,?_,?_⟩
      · have:=hO4.lt n (hTm n hn);omega
      · obtain ⟨a1,a2,a3,a4⟩:=hTn n hn
        rw [inOut s n a1 a2 a3 a4]
        exact hno n (hTm n hn)
      · exact av (by simp) (by simp [Ob.ok,SV.ay,SV.ok]) (av (by simp) (by simp [Ob.ok,ag.ai]) (X.wE (by omega)))
      · exact av (by simp) (by simp [Ob.ok,SV.ay,SV.ok];omega) (av (by simp;omega) (by simp [Ob.ok,Dt.ai]) (av (by simp;omega) (by simp [Ob.ok,SV.ay,SV.ok];omega) (av (by first | (simp;done) | (simp;omega)) (by simp [Ob.ok,ag.ai]) (Hp.bE (by omega) p.own.okF))))
    have hTI0:TI X o (ja Fh (kk+3) 5 k kk y e o ca cb) (Il nx e o) (IP Fh inv J (kk+3) 5 k kk) s (kk+4) (kk+1) (kk+2) (kk+4) (X.lD o) s (kk+4):=⟨⟨[],.nil,rfl⟩,hI0,hOI,Nat.le_refl _,by omega,fun n hn=> .inl hn⟩
    have hsb:=Ae (y:=kk+3) (bx:=kk+1) (bo:=kk+2) (k:=kk+4) X hX o s hyI hTI0
    have hcl0:=hyI.cl s _ hI0
    have hTIn:∀ s':σ,∀ n,n∈(TG X o (kk+1) (kk+2)).map (·.1)→(lk (TG X o (kk+1) (kk+2)++ja Fh (kk+3) 5 k kk y e o ca cb s') n).isSome=true:=fun s' n hn=>by
      obtain ⟨a,ha,rfl⟩:=List.mem_map.1 hn
      rw [dB,aH hOI.nd a ha];rfl
    have hTIf:∀ s':σ,∀ n,(lk (ja Fh (kk+3) 5 k kk y e o ca cb s') n).isSome=true→(lk (TG X o (kk+1) (kk+2)++ja Fh (kk+3) 5 k kk y e o ca cb s') n).isSome=true:=fun s' n hn=>by
      rw [dB]
      cases lk (TG X o (kk+1) (kk+2)) n with
      | some _=>rfl
      | none=>rw [Option.none_or];exact hn
    have lP:∀ (s':σ),(ja Fh (kk+3) 5 k kk y e o ca cb s').ok (fun n=>(lk (ja Fh (kk+3) 5 k kk y e o ca cb s') n).isSome)=true→(TG X o (kk+1) (kk+2)++ja Fh (kk+3) 5 k kk y e o ca cb s').ok (fun n=>(lk (TG X o (kk+1) (kk+2)++ja Fh (kk+3) 5 k kk y e o ca cb s') n).isSome)=true:=fun s' h=>by
      have i0:=hTIn s' 0 (by simp)
      have i1:=hTIn s' 1 (by simp)
      have i2:=hTIn s' 2 (by simp)
      have i3:=hTIn s' 3 (by simp)
      have i4:=hTIn s' (kk+1) (by simp)
      have i5:=hTIn s' (kk+2) (by simp)
      refine yX ?_ (Hp.dy (fun n hn=>hTIf s' n hn) h)
      have a:=fun q=>bq q X.ops
      have b:=fun q=>dZ q X.ch
      have c:=fun q=>dZ q X.jV
      refine av i4 ?_ (av i5 ?_ (av i0 ?_ (av i1 (a _) (av i2 (b _) (av i3 (c _) rfl)))))
      · simp only [Ob.ok,SV.ay,SV.ok,Bool.and_true];exact i0
      · simp only [Ob.ok,ag.ai]
      · simp only [Ob.ok,SV.ay,SV.ok,Bool.and_true,Bool.true_and,Bool.and_eq_true];exact ⟨i1,i2,i3⟩
    obtain ⟨hp,hhp⟩:∃ hp:Hp,G4++Fh s=hp:=⟨_,rfl⟩
    have hsubF:HSub (TG X o (kk+1) (kk+2)++ja Fh (kk+3) 5 k kk y e o ca cb s) ((kk+3,.kJ 29 [2,3,5] [.ptr 5 0,.ptr k 0,.ptr kk 0] [19] ca cb .ready none)::(G4++Fh s)):=by
      have hzG:∀ n,n∈G4.map (·.1)→n≠kk+3:=fun n hn=>by have:=hO4.lt n hn;omega
      have hG4m:∀ a,a∈G4→lk ((kk+3,Ob.kJ 29 [2,3,5] [.ptr 5 0,.ptr k 0,.ptr kk 0] [19] ca cb .ready none)::(G4++Fh s)) a.1=some a.2:=fun a ha=>by
        rw [aa,if_neg (hzG a.1 (List.mem_map.2 ⟨a,ha,rfl⟩)),dB,aH hO4.nd a ha];rfl
      refine HSub.app (fun n ob hn=> ?_) fun n ob hA hn=> ?_
      · refine hG4m (n,ob) ?_
        rw [← hG4]
        exact List.mem_cons_of_mem _ (List.mem_cons_of_mem _ (List.mem_cons_of_mem _ (List.mem_cons_of_mem _ (List.mem_cons_of_mem _ (iC hn)))))
      · unfold ja at hn
        rw [dB] at hn
        cases hB4:lk [(kk+3,Ob.kJ 29 [2,3,5] [.ptr 5 0,.ptr k 0,.ptr kk 0] [19] ca cb .ready none),(5,.box 37 e.cells),(k,.box 101 [.yl y]),(kk,.box 43 o.cells)] n with
        | some o'=>
          rw [hB4] at hn
          have e1:o'=ob:=by simpa using hn
          subst e1
          have hm:=iC hB4
          simp only [List.mem_cons,List.not_mem_nil,or_false] at hm
          rcases hm with hm | hm | hm | hm
          · injection hm with h1 h2;subst h1;subst h2;rw [aa,if_pos rfl]
          · injection hm with h1 h2;subst h1;subst h2;exact hG4m (5,.box 37 e.cells) (by rw [← hG4];simp)
          · injection hm with h1 h2;subst h1;subst h2;exact hG4m (n,.box 101 [.yl y]) (by rw [← hG4];simp)
          · injection hm with h1 h2;subst h1;subst h2;exact hG4m (n,.box 43 o.cells) (by rw [← hG4];simp)
        | none=>
          rw [hB4,Option.none_or] at hn
          have h1:n∉G4.map (·.1):=fun hm=>by rw [hno n hm] at hn;cases hn
          have h2:n≠kk+3:=fun e=>by rw [e,hI0.hz] at hn;cases hn
          rw [aa,if_neg h2,dB,ff h1,Option.none_or]
          exact hn
    have hsc:=(hsb.here (fun n=>(lk (TG X o (kk+1) (kk+2)++ja Fh (kk+3) 5 k kk y e o ca cb s) n).isSome) (fun n hn=>Option.isSome_iff_ne_none.1 hn) (by
      have i3:(lk (TG X o (kk+1) (kk+2)++ja Fh (kk+3) 5 k kk y e o ca cb s) (kk+3)).isSome=true:=hTIf s _ (by simp [ja,aa])
      have i4:=hTIn s (kk+1) (by simp)
      have i5:=hTIn s (kk+2) (by simp)
      simp only [SV.ay,SV.ok,Bool.and_true,Bool.and_eq_true]
      exact ⟨i3,i4,i5⟩) (lP s hcl0) ?_).frame hsubF
    · refine hsc.mono ?_
      rintro r F' ⟨F1,⟨rfl,s',hTI,rfl⟩,rfl⟩
      obtain ⟨ts,hon,hts⟩:=hTI.h1
      rw [List.append_nil] at hts
      have hon2:=J2 hon
      rw [← hts] at hon2
      have hI1:=hTI.h2
      have hlk:=fA (ro:=false) (F':=TG X o (kk+1) (kk+2)++ja Fh (kk+3) 5 k kk y e o ca cb s') hsubF (fun h=>by cases h)
      generalize bV false _ _ _=G at hlk
      have hG:∀ n ob,lk (TG X o (kk+1) (kk+2)++ja Fh (kk+3) 5 k kk y e o ca cb s') n=some ob→lk G n=some ob:=fun n ob h=>by
        rw [hlk,dN (.inr (by rw [h];simp)),h]
      have hTo:∀ (s'':σ) n ob,n∉(TG X o (kk+1) (kk+2)).map (·.1)→lk (ja Fh (kk+3) 5 k kk y e o ca cb s'') n=ob→lk (TG X o (kk+1) (kk+2)++ja Fh (kk+3) 5 k kk y e o ca cb s'') n=ob:=fun s'' n ob hn h=>by
        rw [dB,ff hn,Option.none_or];exact h
      have ht3:kk+3∉(TG X o (kk+1) (kk+2)).map (·.1):=fun h=>(hTn _ h).1 rfl
      have ht5:5∉(TG X o (kk+1) (kk+2)).map (·.1):=fun h=>(hTn _ h).2.1 rfl
      have htk:k∉(TG X o (kk+1) (kk+2)).map (·.1):=fun h=>(hTn _ h).2.2.1 rfl
      have ht4:4∉(TG X o (kk+1) (kk+2)).map (·.1):=by simp;omega
      have ht1:k+1∉(TG X o (kk+1) (kk+2)).map (·.1):=by simp;omega
      have hout:∀ n,n≠kk+3→n≠5→n≠k→n≠kk→n<kk+4→lk (Fh s) n=none→lk (Fh s') n=none:=fun n a1 a2 a3 a4 a5 h=>Classical.byContradiction fun hh=>by
        rw [← inOut s' n a1 a2 a3 a4] at hh
        rcases hTI.nm n hh with h1 | h1
        · rw [inOut s n a1 a2 a3 a4] at h1;exact h1 h
        · omega
      have h4n:lk (Fh s') 4=none:=hout 4 (by omega) (by omega) (by omega) (by omega) (by omega) (hno 4 (by rw [← hG4];simp))
      have h1n:lk (Fh s') (k+1)=none:=hout (k+1) (by omega) (by omega) (by omega) (by omega) (by omega) (hno (k+1) (by rw [← hG4];simp))
      refine ⟨none,hG _ _ (hTo s' _ _ ht3 (by simp [ja,aa,jQ])),?_⟩
      have hO5:gW (HG X e k y (xs.map (·.1)++[x.1])) Fh s' (kk+4+ir (1+aX)):=by
        refine ⟨hB.nd,fun n hn=>by have:=hB.lt n hn;omega,fun n hn=> ?_,Hp.bE (by omega) hB.ok,?_⟩
        · simp only [HG,oT,Ix.h0,List.map_cons,List.map_nil,List.mem_cons,List.not_mem_nil,or_false] at hn
          rcases hn with rfl | rfl | rfl | rfl | hn
          · exact h1n
          · exact hI1.h3
          · exact h4n
          · exact hI1.h2
          · have h6:n∈(TG X o (kk+1) (kk+2)).map (·.1):=by
              simp only [TG,Ix.h0,List.map_cons,List.map_nil,List.mem_cons,List.not_mem_nil,or_false];omega
            have h7:=hTI.own.no n h6
            obtain ⟨a1,a2,a3,a4⟩:=hTn n h6
            rwa [inOut s' n a1 a2 a3 a4] at h7
        · have h8:=hTI.own.okF
          unfold ja Hp.ok at h8
          simp only [List.cons_append,List.nil_append,List.all_cons,Bool.and_eq_true] at h8
          exact h8.2.2.2.2
      have h3':=p.le
      have hml:(xs.length+1)*(4+ir (1+aX))=xs.length*(4+ir (1+aX))+(4+ir (1+aX)):=by rw [Nat.add_mul,Nat.one_mul]
      refine ⟨⟨(xs++[x],s',kk+4+ir (1+aX)),⟨q1,q2,?_,?_,by rw [em];exact hO5,by rw [List.length_append];show kk+4+ir (1+aX)≤k+2+(xs.length+1)*(4+ir (1+aX));omega,by rw [List.length_append];show xs.length+1≤_;omega⟩⟩,id,by rw [em];exact hm,?_⟩
      · rw [X.D8,ho]
        exact D9 p.Li hon2
      · refine F7 hmono s' ?_ hI1.i
        rw [List.length_append]
        show (X.ops.length - (xs.length+1))*1000000≤0+J
        omega
      dsimp only
      rw [em]
      have hz3:lk (Fh s') (kk+3)=none:=hI1.hz
      refine aJ.own hO5 (hy.nd s' _ hI1.i) (by omega) (by simp [aY,List.lookup,SV.aC,SV.ok,SV.ay];omega) (fun n ob hn=> ?_)
      rw [dB] at hn
      have hst:∀ n,n∈[4,k+1]→∀ ob,(n,ob)∈G4→lk (di G (kk+3)) n=some ob:=fun n hn ob hm=>by
        simp only [List.mem_cons,List.not_mem_nil,or_false] at hn
        have hn3:n≠kk+3:=by omega
        have hnT:n∉(TG X o (kk+1) (kk+2)).map (·.1):=by rcases hn with rfl | rfl <;> assumption
        have e1:∀ s'':σ,lk (Fh s'') n=none→lk (TG X o (kk+1) (kk+2)++ja Fh (kk+3) 5 k kk y e o ca cb s'') n=none:=fun s'' h=>hTo s'' n none hnT (by rw [inOut s'' n (by omega) (by omega) (by omega) (by omega)];exact h)
        rw [cR,if_neg hn3,hlk,cM (e1 s (hno n (List.mem_map.2 ⟨_,hm,rfl⟩))) (e1 s' (by rcases hn with rfl | rfl <;> assumption)),aa,if_neg hn3,dB,aH hO4.nd _ hm]
        rfl
      have hFs:∀ n ob,n≠kk+3→lk (TG X o (kk+1) (kk+2)++ja Fh (kk+3) 5 k kk y e o ca cb s') n=some ob→lk (di G (kk+3)) n=some ob:=fun n ob h1 h2=>by
        rw [cR,if_neg h1];exact hG n ob h2
      cases hA:lk (HG X e k y (xs.map (·.1)++[x.1])) n with
      | some o'=>
        rw [hA] at hn
        have e1:o'=ob:=by simpa using hn
        subst e1
        have hm':=iC hA
        simp only [HG,oT,Ix.h0,List.mem_cons,List.not_mem_nil,or_false] at hm'
        have hTx:∀ a,a∈X.h0→lk (di G (kk+3)) a.1=some a.2:=fun a ha=>by
          have hmT:a∈TG X o (kk+1) (kk+2):=List.mem_cons_of_mem _ (List.mem_cons_of_mem _ ha)
          refine hFs _ _ (hTn _ (List.mem_map.2 ⟨a,hmT,rfl⟩)).1 ?_
          rw [dB,aH hOI.nd a hmT];rfl
        rcases hm' with hm' | hm' | hm' | hm' | hm' | hm' | hm' | hm' <;> (injection hm' with h1 h2;subst h1;subst h2)
        · exact hst _ (by simp) _ (by rw [← hG4];simp)
        · exact hFs _ _ (by omega) (hTo s' _ _ htk (by simp [ja,aa,show n≠kk+3 by omega,show n≠5 by omega]))
        · exact hst _ (by simp) _ (by rw [← hG4];simp)
        · exact hFs _ _ (by omega) (hTo s' _ _ ht5 (by simp [ja,aa,show (5:Nat)≠kk+3 by omega]))
        · exact hTx (0,_) (by simp)
        · exact hTx (1,_) (by simp)
        · exact hTx (2,_) (by simp)
        · exact hTx (3,_) (by simp)
      | none=>
        rw [hA,Option.none_or] at hn
        have h1:n≠kk+3:=fun e=>by rw [e,hz3] at hn;cases hn
        have h2:n≠5:=fun e=>by rw [e,hI1.h2] at hn;cases hn
        have h3:n≠k:=fun e=>by rw [e,hI1.h3] at hn;cases hn
        have h4:n≠kk:=fun e=>by rw [e,hI1.h5] at hn;cases hn
        have hin':lk (ja Fh (kk+3) 5 k kk y e o ca cb s') n=some ob:=by rw [inOut s' n h1 h2 h3 h4];exact hn
        refine hFs n ob h1 (hTo s' n _ (fun hm=> ?_) hin')
        rw [hTI.own.no n hm] at hin';cases hin'
    · rintro r F' ⟨rfl,s',hTI,rfl⟩ _ h2
      refine ⟨rfl,Hp.dy (fun n hn=> ?_) (lP s' (hyI.cl s' _ hTI.h2))⟩
      rw [dB] at hn
      cases hA:lk (TG X o (kk+1) (kk+2)) n with
      | some o'=>
        have:=hTIn s n (List.mem_map.2 ⟨(n,o'),iC hA,rfl⟩)
        rw [this];rfl
      | none=>
        rw [hA,Option.none_or] at hn
        have hlt2:n<kk+4+ir (1+aX):=by
          obtain ⟨ob,bn⟩:=Option.isSome_iff_exists.1 hn
          simpa using (Hp.dH hTI.own.okF bn).1
        rcases hTI.nm n (Option.isSome_iff_ne_none.1 hn) with h | h
        · rw [hTIf s n (Option.isSome_iff_ne_none.2 h)];rfl
        · simp [h,hlt2]
end
end
section
attribute [local irreducible] SW RW aM SC ak au ir rU
def Ix.D_ (X:Ix)(e:Dt):List Dt:=(X.hit e X.ops).map (·.dot)
theorem Ix.Ag {X:Ix}{e:Dt}{xs:MM Dt ag}{o:ag}:o∈X.hit e xs↔(∃ x,x∈xs∧x.2.2=o)∧e∈X.lD o:=by
 unfold Ix.hit
 simp only [List.mem_flatMap,List.mem_map,List.mem_filter,decide_eq_true_eq]
 constructor
 ·rintro ⟨x,hx,t,⟨h1,rfl⟩,rfl⟩
  exact ⟨⟨x,hx,rfl⟩,h1⟩
 ·rintro ⟨⟨x,hx,rfl⟩,h⟩
  exact ⟨x,hx,e,⟨h,rfl⟩,rfl⟩
theorem Ix.F_ (X:Ix)(e:Dt){xs:MM Dt ag}(h:∀ x,x∈xs↔x∈X.ops):Dt.set ((X.hit e xs).map (·.dot))=Dt.set (X.D_ e):=
 Dt.jA (Dt.jI _) (Dt.jI _) fun v=>by
  rw [Dt.mem_set,Dt.mem_set]
  unfold Ix.D_
  simp only [List.mem_map,Ix.Ag,h]
theorem Ix.Ga (X:Ix)(hX:X.small)(e:Dt){xs:MM Dt ag}(nq:(xs.map (·.1)).Nodup)(h:∀ x,x∈xs↔x∈X.ops):(X.hit e xs).length≤500000000:=by
 have key:∀ ys:MM Dt ag,(X.hit e ys).length≤ys.length*1000000:=fun ys=>by
  induction ys with
  | nil=>simp [Ix.hit]
  | cons y ys ih=>
   have e1:X.hit e (y::ys)=(((X.lD y.2.2).filter fun t=>decide (t=e)).map fun _=>y.2.2)++X.hit e ys:=rfl
   have h1:=List.length_filter_le (fun t=>decide (t=e)) (X.lD y.2.2)
   have h2:=l_ X hX y.2.2
   rw [e1,List.length_append,List.length_map,List.length_cons,Nat.add_mul,Nat.one_mul]
   omega
 have h1:=nq.length_le_of_subset (l₂:=X.ops.map (·.1)) fun t ht=>by
  obtain ⟨x,hx,rfl⟩:=List.mem_map.1 ht
  exact List.mem_map.2 ⟨x,(h x).1 hx,rfl⟩
 simp only [List.length_map] at h1
 have h2:=key xs
 have h3:=hX.op
 have h4:xs.length*1000000≤500*1000000:=Nat.mul_le_mul_right _ (by omega)
 omega
set_option maxHeartbeats 4000000 in
theorem Ea (X:Ix)(hX:X.small)(e:Dt):SB Tryz.prog revoke_sorted_api_Op.f [.fn (.func revoke_Index_Threatened_1.f) [] [.ptr 4 0,.ptr 5 0],.fn (.func revoke_Index_Threatened_2.f) [] []] (oT X e) 6 (4+rU 4)
  fun r F=>r=bS (Dt.set (X.D_ e))∧F=oT X e:=by
 refine revoke_sorted_api_Op.enter (by simp [SV.ay,SV.ok]) (tU X e (Nat.le_refl 6)) (by simp) ?_
 dsimp only [revoke_sorted_api_Op.s,Co.M,Co.G,Co.J,Co.H,Co.N,Co.F,Co.C,Co.Z,Co.B,Co.b8,Co.aB,Co.bL,Co.i6,Co.z8,Co.bU]
 refine SW.seq ?_
 refine SW.g0 [0,1,3,4,5,6,7,8] mixed af ?_
 refine SW.seq ?_
 refine SW.g0 [0,1,3,4,5,6,7,8] mixed af ?_
 refine SW.th 7 31 37 2 (by rfl) ?_
 refine SW.seq (SW.seq ?_)
 refine SW.g0 [0,1,3,4,5,6,7,8] mixed af ?_
 refine SW.block (SW.mL (nk:=rU 4) [5,3] [.ptr 7 0,.ptr 6 0] rfl ⟨rfl,rfl,trivial⟩ fun ca cb hca hcb=> ?_)
 let s0:qX:=⟨[],8⟩
 have hy:=J1 (y:=9) (bx:=7) (bf:=6) (by decide) (by decide) (by decide) hca hcb
 have hF0:(gz 9 7 6 ca cb s0).ok (fun n=>decide (n<10))=true:=by simp [gz,s0,Hp.ok,Ob.ok,SV.ay,SV.ok]
 have hO:gW (oT X e) (gz 9 7 6 ca cb) s0 10:=by
  refine ⟨by simp,fun n hn=> ?_,fun n hn=> ?_,tU X e (by omega),hF0⟩
  ·simp only [List.map_cons,List.map_nil,List.mem_cons,List.not_mem_nil,or_false] at hn;omega
  ·simp only [List.map_cons,List.map_nil,List.mem_cons,List.not_mem_nil,or_false] at hn
   rcases hn with rfl | rfl | rfl | rfl | rfl | rfl <;> simp [gz,s0,aa,bt]
 have hmono:∀ (s:qX) j,Ik 9 7 6 s (j+1)→Ik 9 7 6 s j:=fun s j h=>⟨h.1,by have:=h.2;omega⟩
 have hsb:=F9 (y:=9) (k:=10) X hX e hmono s0 hy hO ⟨⟨by decide,by decide,by decide⟩,by show 0+_≤_;have:=hX.op;omega⟩ (by decide)
 have hsubF:HSub (oT X e++gz 9 7 6 ca cb s0) ((9,.kJ 17 [5,3] [.ptr 7 0,.ptr 6 0] [8] ca cb .ready none)::(7,.box 31 [.gs 8 0])::(8,.arr 37 2 0 [])::(7,.box 31 [.d .aU])::(6,.box 130 [.fn (.func revoke_Index_Threatened_2.f) [] []])::oT X e):=by
  intro n ob hn
  match n with
  | 0 | 1 | 2 | 3 | 4 | 5 | 6 | 7 | 8 | 9=>simpa [gz,s0,aa] using hn
  | n+10=>simp [gz,s0,aa,bt] at hn
 have hsc:=(hsb.here (fun n=>decide (n<10)) (fun n hn=> ?_) (by simp [SV.ay,SV.ok]) (yX (tU X e (by omega)) hF0) ?_).frame hsubF
 ·refine hsc.mono ?_
  rintro r F' ⟨F1,⟨rfl,xs,s',⟨nq,hxs⟩,hon,hOw,⟨jj,hinv⟩,rfl⟩,rfl⟩
  have hl':=Lv hon
  obtain ⟨L,rn⟩:=s'
  have hL:L=(X.hit e xs).map (·.dot):=by simpa [s0] using hl'
  have hlen2:L.length<1000000000:=by rw [hL,List.length_map];have:=X.Ga hX e nq hxs;omega
  have fZ:Dt.set L=Dt.set (X.D_ e):=by rw [hL];exact X.F_ e hxs
  obtain ⟨⟨b1,b2,b3⟩,hLl⟩:=hinv
  dsimp only at b1 b2 b3
  have hno:∀ n,n∈(oT X e).map (·.1)→n≠rn:=fun n hn e=>by
   have:=hOw.no n hn
   rw [e] at this
   simp [gz,aa,b1,b2,b3] at this
  have b4:=hno 4 (by simp)
  have b5:=hno 5 (by simp)
  have c0:=hno 0 (by simp)
  have c1:=hno 1 (by simp)
  have c2:=hno 2 (by simp)
  have c3:=hno 3 (by simp)
  have hlk:=fA (ro:=false) (F':=oT X e++gz 9 7 6 ca cb ⟨L,rn⟩) hsubF (fun h=>by cases h)
  generalize bV false _ _ _=G at hlk
  have hG:∀ n ob,lk (oT X e++gz 9 7 6 ca cb ⟨L,rn⟩) n=some ob→lk G n=some ob:=fun n ob h=>by
   rw [hlk,dN (.inr (by rw [h];simp)),h]
  refine ⟨none,hG 9 _ (by simp [gz,aa,jQ]),?_⟩
  have hrn:rn<10+rU 4:=by
   have:=(Hp.dH hOw.okF (show lk (gz 9 7 6 ca cb ⟨L,rn⟩) rn=some (.arr 37 2 L.length ((L.flatMap Dt.ds).map .d)) by simp [gz,aa,b1,b2,b3])).1
   simpa using this
  refine SW.weak (fun n=>if n=8 then rn else n) (st1:=⟨[(5,.ptr 7 0)],(7,.box 31 [.gs 8 L.length])::(8,.arr 37 2 L.length ((L.flatMap Dt.ds).map .d))::oT X e,10⟩) ?_ ?_
  ·have q7:=hG 7 (.box 31 [.gs rn L.length]) (by simp [gz,aa])
   have q8:=hG rn (.arr 37 2 L.length ((L.flatMap Dt.ds).map .d)) (by simp [gz,aa,b1,b2,b3,b4.symm,b5.symm,c0.symm,c1.symm,c2.symm,c3.symm])
   have q4:=hG 4 (.box 27 [.ptr 0 0]) (by simp [aa])
   have q5:=hG 5 (.box 37 e.cells) (by simp [aa])
   have q0:=hG 0 (.box 110 [.any,.mp 1,.mp 2,.mp 3]) (by simp [aa])
   have q1:=hG 1 (.map (an Dt.cells ov X.ops) X.co) (by simp [aa])
   have q2:=hG 2 (.map (an Dt.cells dn X.ch) X.cc) (by simp [aa])
   have q3:=hG 3 (.map (an Dt.cells dn X.jV) X.cf) (by simp [aa])
   refine ⟨by show 6≤10;omega,fun n hn=>if_neg (by omega),?_,?_,?_⟩
   ·simp [aY,List.lookup,SV.aC,SV.ok]
   ·simp [uk,cR,Ob.aC,SV.aW,SV.aC,SV.ia,SV.bh,Ob.ok,SV.ay,SV.ok,q7,q8,q4,q5,q0,q1,q2,q3,b1,Dt.ax,Dt.ai,cF,bq,gy,dZ]
   ·intro a ha b hb e
    simp only [oT,List.map_cons,List.map_nil,List.mem_cons,List.not_mem_nil,or_false] at ha hb
    rcases ha with rfl | rfl | rfl | rfl | rfl | rfl | rfl | rfl <;> rcases hb with rfl | rfl | rfl | rfl | rfl | rfl | rfl | rfl <;> simp at e <;> first | rfl | omega
  ·refine SW.pP 8 (L.flatMap Dt.ds) rfl rfl ?_
   simp only [kQ,SV.iB,List.map_cons,List.map_nil,if_true,if_false,reduceIte,di,Nat.reduceEqDiff,yy,oT,Ix.h0,Ob.iB,SV.rP]
   have e0:∀ m:MM Dt ag,(an Dt.cells ov m).map (fun e=>(e.1,e.2.1,e.2.2.iB 8 L.length (L.flatMap Dt.ds)))=an Dt.cells ov m:=fun m=>qU (q:=fun _=>false) rfl (bq _ _)
   have e1:∀ m:MM Dt (List Dt),(an Dt.cells dn m).map (fun e=>(e.1,e.2.1,e.2.2.iB 8 L.length (L.flatMap Dt.ds)))=an Dt.cells dn m:=fun m=>qU (q:=fun _=>false) rfl (dZ _ _)
   have e2:SV.rP 8 L.length (L.flatMap Dt.ds) e.cells=e.cells:=SV.lC (q:=fun _=>false) rfl _ (Dt.ai _ _)
   simp only [e0,e1,e2]
   have hs:=sr L hlen2
   rw [fZ] at hs
   refine SW.seq ?_
   refine SW.g1 [0,1,3,4,5,6,7,8] mixed af hs ?_
   refine SW.weak id (st1:=⟨[(4,bS (Dt.set (X.D_ e)))],oT X e,10+rU 4⟩) (aJ.same (by show 6≤10+rU 4;omega) (by simp [aY,List.lookup,SV.aC,SV.ok]) (tU X e (by show 6≤10+rU 4;omega)) (fun y hy=> ?_)) (SW.ret ?_)
   ·simp only [oT,Ix.h0,List.mem_cons,List.not_mem_nil,or_false] at hy
    rcases hy with rfl | rfl | rfl | rfl | rfl | rfl <;> rfl
   exact End.mk (oT X e) (h4:=⟨rfl,rfl⟩) (h6:=tU X e (by omega)) (h7:=by show 6+(4+rU 4)≤10+rU 4;omega)
 ·match n,hn with
  | 0,_ | 1,_ | 2,_ | 3,_ | 4,_ | 5,_ | 6,_ | 7,_ | 8,_ | 9,_=>simp [gz,s0,aa]
  | n +10,h=>
    have:n+10<10:=by simpa using h
    omega
 ·rintro r F' _ h1 h2
  refine ⟨SV.eT (fun n hn=> ?_) _ h1,Hp.dy (fun n hn=> ?_) h2⟩ <;> (simp at hn ⊢;omega)
theorem Eb (X:Ix)(hX:X.small)(e:Dt)(k:Nat):aM Tryz.prog revoke_sorted_api_Op.f [.fn (.func revoke_Index_Threatened_1.f) [] [.ptr 4 0,.ptr 5 0],.fn (.func revoke_Index_Threatened_2.f) [] []] (oT X e) k (4+rU 4) (bS (Dt.set (X.D_ e))) (oT X e):=by
 have:=SB.qA [0,1,2,3,4,5] (Ea X hX e) (by decide) (fun i hi=>by
  match i,hi with
  | 0,_ | 1,_ | 2,_ | 3,_ | 4,_ | 5,_=>simp [aa]) k
 simpa [SV.aW,SV.aC,gx,Dt.ax,Hp.aC,Ob.aC,cF,gy] using this
set_option maxHeartbeats 4000000 in
theorem Gb (X:Ix)(hX:X.small)(e:Dt):SB Tryz.prog revoke_Index_Threatened.f [.ptr 0 0,.agg e.cells] X.h0 4 (6+rU 4) fun r F=>r=bS (Dt.set (X.D_ e))∧F=X.h0:=by
 refine revoke_Index_Threatened.enter (by simp [SV.ay,SV.ok]) (X.wE (Nat.le_refl 4)) (by simp) ?_
 dsimp only [revoke_Index_Threatened.s,Co.M,Co.G,Co.J,Co.H,Co.N,Co.F,Co.C,Co.Z,Co.B,Co.b8,Co.aB,Co.bL,Co.i6,Co.z8,Co.bU]
 have hn:=wF X
 have hs:=Eb X hX e
 refine SW.seq ?_
 refine SW.g0 [0,1,2,3,4,5,7] mixed af ?_
 refine SW.seq (SW.seq ?_)
 refine SW.g1 [0,1,2,3,4,5,7] mixed af hn ?_
 refine SW.aj rfl (SW.skip ?_)
 refine SW.seq ?_
 refine SW.g0 [0,1,2,3,4,5,7] mixed af ?_
 refine SW.seq ?_
 refine SW.g1 [0,1,2,3,4,5,7] mixed af hs ?_
 refine SW.ret ?_
 exact End.mk X.h0 (h4:=⟨rfl,rfl⟩) (h6:=X.wE (by omega)) (h7:=by show 4+(6+rU 4)≤6+(4+rU 4);omega)
theorem Gc (X:Ix)(hX:X.small)(e:Dt)(k:Nat):aM Tryz.prog revoke_Index_Threatened.f [.ptr 14 0,.agg e.cells] X.qc k (6+rU 4) (bS (Dt.set (X.D_ e))) X.qc:=
 Ix.FZ (Gb X hX e) (fun k=>by simp [SV.aW,SV.aC,gx,Dt.ax]) (fun k=>by simp [SV.aC]) k
end
end Go.Proofs.YtaelhkkjgfobhaaGreat
