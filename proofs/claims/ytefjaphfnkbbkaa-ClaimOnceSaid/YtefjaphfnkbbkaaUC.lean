/-
 Submits: what is done with each claim that may be.
-/
import Derived.Test.YtefjaphfnkbbkaaUB
import Derived.Test.YtefjaphfnkbbkaaUL
import Derived.Test.YtefjaphfnkbbkaaUK
set_option linter.unusedSectionVars false
set_option linter.unusedVariables false
set_option linter.unusedSimpArgs false
namespace Go.Proofs.Ytefjaphfnkbbkaa
open Go.Sl Go.Proofs Go.RowKit
section
attribute [local irreducible] SW RW bp SC af aa
structure CS where
 L:List av
 out:List av
 rn:Nat
 tot:Nat
def iH (d c:Dt)(who n:Nat)(ca cb:Code)(s:CS):Hp:=
 [(16,.ox 101 [12,13] [.ptr 9 0,.ptr 10 0] [55,56] ca cb .ready none),(9,.box 23 [.gs 8 n]),(10,.box 45 (aG d c who (.gs s.rn s.out.length) s.tot)),(8,.arr 58 10 n (xV s.L)),(s.rn,.arr 60 8 s.out.length (yB s.out))]
def I2 (s:CS)(x:av)(k:Nat):CS:=⟨s.L,s.out++[x],k,(s.tot+x.kn*x.cu) % 18446744073709551616⟩
theorem EH (x:av):dF x.sv=some x.sy:=rfl
theorem zP (t q:Nat):IntKind.u64.wrap ((t:Int)+((q % 18446744073709551616:Nat):Int))=(((t+q) % 18446744073709551616:Nat):Int):=by
 have h:∀ n:Nat,IntKind.u64.wrap (n:Int)=((n % 18446744073709551616:Nat):Int):=fun n=>rfl
 rw [← Int.natCast_add,h,Nat.add_mod_mod]
set_option maxHeartbeats 8000000 in
theorem GM {d c:Dt}{who:Nat}{ca cb:Code}
  (hca:cK Try.prog 101 ca=some (.eN [⟨some 15,.mv (.t 56),none⟩] (lR 1) false))
  (hcb:cK Try.prog 101 cb=some (.block 1 (.seq (.eN [⟨some 57,.aK 5 (.t 13),none⟩,⟨some 58,.load none (.t 57),none⟩,⟨some 59,.load none (.t 12),none⟩,⟨some 60,.mv (.t 15),none⟩,⟨some 61,.bJ 10 (.t 59) (.t 60),none⟩,⟨some 62,.load (some 10) (.t 61),none⟩,⟨some 63,.call (.k (.fn (.func 27) [] [])) [(.t 62)],none⟩,⟨some 64,.jL 60 8 1 [(.d (.int .u8 0)),(.d (.int .u32 0)),(.d (.int .u8 0)),(.d (.int .u32 0)),(.d (.int .u32 0)),(.d (.int .u32 0)),(.d (.int .u32 0)),(.d .ay)] [(0,8,(.t 63))],none⟩,⟨some 65,.app 60 8 56 (.t 58) (.t 64),none⟩,⟨some 66,.aK 5 (.t 13),none⟩,⟨none,.store 1 (.t 66) (.t 65),none⟩] [0,1,0,0,12,28,60,124,255,511,1023] true)
   (.eN [⟨some 67,.aK 6 (.t 13),none⟩,⟨some 68,.load none (.t 67),none⟩,⟨some 69,.load none (.t 12),none⟩,⟨some 70,.mv (.t 15),none⟩,⟨some 71,.bJ 10 (.t 69) (.t 70),none⟩,⟨some 72,.load (some 10) (.t 71),none⟩,⟨some 73,.call (.k (.fn (.func 28) [] [])) [(.t 72)],none⟩,⟨some 74,.bin .add (.t 68) (.t 73),none⟩,⟨some 75,.aK 6 (.t 13),none⟩,⟨none,.store 1 (.t 75) (.t 74),none⟩] [0,1,0,0,12,28,60,127,255,511] true))))
  {n:Nat} (s:CS) (hn:s.L.length=n) (a1:s.rn≠16) (a2:s.rn≠9) (a3:s.rn≠10) (a4:s.rn≠8) (hlen:s.out.length≤1000000) {i:Nat} {x:av} (hx:s.L[i]? =some x) (Bs:lW x) (kk:Nat) (k:Nat) (hok:(iH d c who n ca cb s).ok (fun m=>decide (m<k))=true):
  Hh Try.prog 16 [i64 kk,i64 i] (iH d c who n ca cb s) k 1 (bl true) (iH d c who n ca cb (I2 s x k)):=by
 obtain ⟨L,out,rn,tot⟩:=s
 dsimp only at hn a1 a2 a3 a4 hlen hx
 subst hn
 have g1:=bX a1
 have g2:=bX a2
 have g3:=bX a3
 have g4:=bX a4
 have oo:∀ q:Nat→Bool,SV.aI q (aG d c who (.gs rn out.length) tot)=q rn:=fun q=>by simp [aG,SV.aI,SV.ok]
 simp only [iH,Hp.ok,List.all_cons,List.all_nil,Ob.ok,SV.aI,SV.ok,SV.bt,oo,Bool.and_true,Bool.and_eq_true,decide_eq_true_eq] at hok
 obtain ⟨⟨k1,_⟩,⟨k2,_⟩,⟨k3,_⟩,k4,k5⟩:=hok
 have hil:=bq hx
 have q1:=bX (show k≠16 by omega)
 have q2:=bX (show k≠9 by omega)
 have q3:=bX (show k≠10 by omega)
 have q4:=bX (show k≠8 by omega)
 have q5:=bX (show k≠rn by omega)
 have w0:=bX (show k+1≠k by omega)
 have w1:=bX (show k+1≠16 by omega)
 have w2:=bX (show k+1≠9 by omega)
 have w3:=bX (show k+1≠10 by omega)
 have w4:=bX (show k+1≠8 by omega)
 have w5:=bX (show k+1≠rn by omega)
 have c1:=fun k=>EE x Bs k
 have c2:=fun k=>Ct x k
 have e3:=zP tot (x.kn*x.cu)
 show Hh Try.prog 16 [i64 kk,i64 i] (iH d c who L.length ca cb ⟨L,out,rn,tot⟩) k 1 (bl true) (iH d c who L.length ca cb ⟨L,out++[x],k,(tot+x.kn*x.cu) % 18446744073709551616⟩)
 obtain ⟨p,hp⟩:∃ p,x.kn*x.cu % 18446744073709551616=p:=⟨_,rfl⟩
 obtain ⟨T,hT⟩:∃ T,(tot+x.kn*x.cu) % 18446744073709551616=T:=⟨_,rfl⟩
 rw [hp,hT,← Int.natCast_add] at e3
 simp only [hp] at c2
 rw [hT]
 unfold Hh
 refine DN.here (fun m=>m == 16 || m == 9 || m == 10 || m == 8 || m == rn) (DN.vq (cs:=[.ptr 9 0,.ptr 10 0]) (H:=[(9,.box 23 [.gs 8 L.length]),(10,.box 45 (aG d c who (.gs rn out.length) tot)),(8,.arr 58 10 L.length (xV L)),(rn,.arr 60 8 out.length (yB out))]) hca hcb rfl rfl rfl (by simp) k1 (by simp [ag,bA,g1]) (by simp [SV.aI,SV.ok]) (by simp [Hp.ok,Ob.ok,SV.aI,SV.ok,SV.bt,oo];omega) (by simp [SV.aI,SV.ok];omega) ?_) ?_ (by simp [SV.aI,SV.ok]) (by simp [iH,Hp.ok,Ob.ok,SV.aI,SV.ok,SV.bt,oo]) ?_
 ·skip
  show Go.Sl.SW _ _ _ _ ⟨[(56,i64 i),(55,i64 kk),(12,.ptr 9 0),(13,.ptr 10 0)],_,_⟩ _
  (refine SW.ai [12,13,15,55,56] mixed ?_;(repeat (first | refine RW.ro U (h:= ?_) | refine RW.skip (h:= ?_) | refine RW.op U (h:= ?_) | refine RW.aF U (h:= ?_) | refine RW.ah (h:= ?_)));refine RW.nil ⟨by kernel_rfl,aa.mk (h:= ?_)⟩)
  refine ⟨rfl,SW.block (SW.seq ?_)⟩
  (have fx:=(And.intro (g1) (And.intro (g2) (And.intro (g3) (And.intro (g4) (And.intro (q1) (And.intro (q2) (And.intro (q3) (And.intro (q4) (And.intro (q5) (And.intro (w0) (And.intro (w1) (And.intro (w2) (And.intro (w3) (And.intro (w4) (And.intro (w5) (And.intro (jB hx) (And.intro (dV hx) (And.intro (hil) (And.intro (EH) (And.intro (x.jZ) (x.zJ)))))))))))))))))))));refine SW.ai [12,13,15,55,56] mixed ?_;(repeat (first | refine RW.ro fx (h:= ?_) | refine RW.skip (h:= ?_) | refine RW.op fx (h:= ?_) | refine RW.aF fx (h:= ?_) | refine RW.ah (h:= ?_) | (refine RW.ax (h:= ?_);(first | refine af.mk fx (hc:=c1 _) (h:= ?_)))));refine RW.nil ⟨ew (by simp [lG,tK,fq,bZ,List.range,List.range.loop,g1,g2,g3,g4,q1,q2,q3,q4,q5,w0,w1,w2,w3,w4,w5] <;> (first | decide | (repeat (first | assumption | refine ⟨?_,?_⟩ | exact .inl (by decide) | exact .inl (.inr (by decide)) | exact .inl (.inl (by decide)) | refine .inr ?_)))),aa.mk (h:= ?_)⟩)
  (have fx:=(And.intro (g1) (And.intro (g2) (And.intro (g3) (And.intro (g4) (And.intro (q1) (And.intro (q2) (And.intro (q3) (And.intro (q4) (And.intro (q5) (And.intro (w0) (And.intro (w1) (And.intro (w2) (And.intro (w3) (And.intro (w4) (And.intro (w5) (And.intro (jB hx) (And.intro (dV hx) (And.intro (hil) (e3)))))))))))))))))));refine SW.ai [12,13,15,55,56] mixed ?_;(repeat (first | refine RW.ro fx (h:= ?_) | refine RW.skip (h:= ?_) | refine RW.op fx (h:= ?_) | refine RW.aF fx (h:= ?_) | refine RW.ah (h:= ?_) | (refine RW.ax (h:= ?_);(first | refine af.mk fx (hc:=c2 _) (h:= ?_)))));refine RW.nil ⟨ew (by simp [lG,tK,fq,bZ,List.range,List.range.loop,g1,g2,g3,g4,q1,q2,q3,q4,q5,w0,w1,w2,w3,w4,w5] <;> (first | decide | (repeat (first | assumption | refine ⟨?_,?_⟩ | exact .inl (by decide) | exact .inl (.inr (by decide)) | exact .inl (.inl (by decide)) | refine .inr ?_)))),aa.mk (h:= ?_)⟩)
  have e2:((out++[x]).flatMap av.sy).map SV.d=(List.flatMap av.sy out).map SV.d++x.sy.map SV.d:=by simp
  refine ⟨none,true,[(9,.box 23 [.gs 8 L.length]),(10,.box 45 (aG d c who (.gs k (out++[x]).length) T)),(8,.arr 58 10 L.length (xV L)),(k,.arr 60 8 (out++[x]).length (yB (out++[x])))],⟨rfl,rfl⟩,?_,?_,by simp,⟨rfl,rfl⟩⟩
  ·refine HSub.cons ?_ (HSub.cons ?_ (HSub.cons ?_ (HSub.cons ?_ (HSub.nil _))))
   ·simp [ag,g1,g2,g3,g4,q1,q2,q3,q4,q5,w0,w1,w2,w3,w4,w5]
   ·simp [ag,g1,g2,g3,g4,q1,q2,q3,q4,q5,w0,w1,w2,w3,w4,w5]
   ·simp [ag,g1,g2,g3,g4,q1,q2,q3,q4,q5,w0,w1,w2,w3,w4,w5]
   ·unfold yB;rw [e2];simp [ag,g1,g2,g3,g4,q1,q2,q3,q4,q5,av.zJ]
  ·simp [Hp.ok,Ob.ok,SV.aI,SV.ok,SV.bt,aG,-List.flatMap_append,-List.map_append];omega
 ·intro m hm
  simp only [Bool.or_eq_true,beq_iff_eq] at hm
  rcases hm with (((rfl | rfl) | rfl) | rfl) | rfl <;> simp [iH,ag,g1,g2,g3,g4]
 ·rintro r F' ⟨rfl,rfl⟩ _ _
  refine ⟨rfl,?_⟩
  simp [iH,Hp.ok,Ob.ok,SV.aI,SV.ok,SV.bt,aG,-List.flatMap_append,-List.map_append]
end
section
section
attribute [local irreducible] SW RW bp SC af aa
theorem RW.yH {P:Program}{d y:Nat}{f:X}{args:List X}{g:Option (Nat×Bool)}{r:List SI}{K:St→List (Bool×List Nat)→Prop}{az:List SV}{env:List (Nat×SV)}{hp F F':Hp}{k:Nat}{v:SV}{nk:Nat}
  (hf:ev (fun t=>env.lookup t) f=some (.yl y)) (ha:qu (fun t=>env.lookup t) args=some az) (hc:Hh P y az F k nk v F') (hl:lk F y≠none) (hs:HSub F hp)
  (hg:g=none∨∃ t w,g=some (t,w)∧env.lookup t=some (.d (.bool w)))
  (h:∀ H,(∀ n,lk H n=zl (lk hp) (lk F) (lk F') n)→Go.Sl.RW P r ⟨(d,v)::env,H,k+nk⟩ fun st' ts=>K st' ((false,F.map (·.1)++F'.map (·.1))::ts)):Go.Sl.RW P (⟨some d,.call f args,g⟩::r) ⟨env,hp,k⟩ K:=by
 refine RW.cons (e:=⟨v,F,F',nk,Hh P y az F k nk v F'∧lk F y≠none∧HSub F hp⟩) (fun dw=>⟨.call F v F' nk::dw,?_⟩) ⟨hc,hl,hs⟩ ?_
 ·rcases hg with rfl | ⟨t,w,rfl,hl⟩
  ·simp only [eX,ek,hf,ha]
  ·simp [eX,hl,ek,hf,ha]
 ·rw [iV]
  exact h _ fun n=>congrFun (jc (ro:=false) hs (fun h=>by cases h)) n
end
def _root_.Go.Sl.Cm.sv (c:Cm):List SV:=c.line.cells++c.iU.cells
theorem _root_.Go.Sl.Cm.yR (c:Cm):c.sv.take 2=c.line.cells:=rfl
theorem _root_.Go.Sl.Cm.Fz (c:Cm):(c.sv.drop 2).take 2=c.iU.cells:=rfl
theorem _root_.Go.Sl.Cm.qA (c:Cm):c.sv.length=4:=rfl
theorem _root_.Go.Sl.Cm.FA (c:Cm):bE (.d (.int .u8 0):: .d (.int .u32 0)::Dt.cells ⟨0,0⟩) 0 c.sv=c.sv:=rfl
theorem _root_.Go.Sl.Cm.FB (c:Cm):c.sv.all SV.cL=true:=rfl
theorem _root_.Go.Sl.Cm.FC (c:Cm):c.sv.take 4=c.sv:=rfl
theorem vE {l:List Cm}{i:Nat}{x:Cm}(h:l[i]? =some x):List.take 4 (List.drop (i*4) (List.map SV.d (l.flatMap Cm.ds)))=x.sv:=by
 rw [← List.map_drop,← List.map_take,iw Cm.ds 4 (fun _=>rfl) l i x h]
 rfl
theorem zQ {l:List Cm}{i:Nat}{x:Cm}(h:l[i]? =some x):(i*4+4≤(List.map SV.d (l.flatMap Cm.ds)).length)=True:=eq_true (by
 rw [List.length_map,zD]
 have:=(List.getElem?_eq_some_iff.1 h).1
 omega)
theorem sR:∀ (n:Nat) {is:List Nat},is.Nodup→(∀ i,i∈is→i<n)→is.length≤n
 | 0,is,_,h=>by
  cases is with
  | nil=>exact Nat.le_refl _
  | cons a r=>have:=h a (by simp);omega
 | n + 1,is,hn,h=>by
  by_cases hm:n∈is
  ·have h1:=sR n (is:=is.erase n) (hn.erase n) fun i hi=>by
    have h2:=(hn.mem_erase_iff).1 hi
    have:=h i h2.2
    have:=h2.1
    omega
   rw [List.length_erase_of_mem hm] at h1
   omega
  ·have:=sR n hn fun i hi=>by
    have h1:=h i hi
    have:i≠n:=fun e=>hm (e ▸ hi)
    omega
   omega
def cI (l:List av)(is:List Nat):List av:=(i_ l is).map av.gi
theorem mC {l:List av}{is:List Nat}(h:∀ i,i∈is→i<l.length):(cI l is).length=is.length:=by unfold cI;rw [List.length_map,uo h]
theorem AQ {l:List av}{is:List Nat}{i:Nat}{x:av}(h:l[i]? =some x):cI l (is++[i])=cI l is++[x.gi]:=by unfold cI;rw [sD l is i x h,List.map_append];rfl
theorem Cz (l:List av):gj (l.map av.gi)=gj l:=by rw [oZ,oZ,List.map_map];rfl
abbrev Bu (l:List av)(o:aq)(i:Nat):List av×List Nat:=bB (ej l) o.who (l,[]) (o.cl.take i)
def eW (l:List av)(S:List av×List Nat)(rn:Nat):CS:=⟨S.1,cI l S.2,rn,gj (cI l S.2)⟩
abbrev mD (l:List av)(o:aq):Hp:=[(14,.box 72 [.mp 13]),(13,.map (aH Dt.cells iv (mB l).1) (mB l).2),(12,.box 35 o.cells),(11,.box 23 [.gs 8 l.length])]
structure xg (rn kk:Nat):Prop where
 r8:rn≠8
 r9:rn≠9
 EI:rn≠10
 FD:rn≠11
 FE:rn≠12
 FF:rn≠13
 FG:rn≠14
 EJ:rn≠16
 lt:rn<kk
 k:17≤kk
 ge:15≤rn
theorem CA (q:Nat→Bool)(l:List av):((aH Dt.cells iv (mB l).1).all fun e=>e.2.1.ok q && e.2.2.ok q)=true:=jS _ _ (fun _=>rfl) (fun _=>rfl)
theorem qa (l:List av)(o:aq){k:Nat}(h:17≤k):(mD l o).ok (fun n=>decide (n<k))=true:=by
 simp [Hp.ok,Ob.ok,SV.aI,SV.ok,CA,aq.aj]
 omega
theorem od {d c:Dt}{who n:Nat}{ca cb:Code}{s:CS}{kk:Nat}(h:xg s.rn kk):(iH d c who n ca cb s).ok (fun m=>decide (m<kk))=true:=by
 have h1:=h.lt
 have h2:=h.k
 simp [iH,Hp.ok,Ob.ok,SV.aI,SV.ok,SV.bt,aG]
 omega
theorem qc {q:Nat→Bool}{A B:Hp}(h1:A.ok q=true)(h2:B.ok q=true):(A++B:Hp).ok q=true:=by
 unfold Hp.ok at*
 rw [List.all_append,h1,h2];rfl
section
attribute [local irreducible] SW RW bp SC af aa bB
set_option maxHeartbeats 16000000 in
theorem yS (l:List av)(hl:l.length≤1000)(hb:∀ x,x∈l→lW x)(o:aq)(ho:o.qW)(j_:o.cl.length≤1000){d c:Dt}{who:Nat}{ca cb:Code}
    (hca:cK Try.prog 101 ca=some (.eN [⟨some 15,.mv (.t 56),none⟩] (lR 1) false))
    (hcb:cK Try.prog 101 cb=some (.block 1 (.seq (.eN [⟨some 57,.aK 5 (.t 13),none⟩,⟨some 58,.load none (.t 57),none⟩,⟨some 59,.load none (.t 12),none⟩,⟨some 60,.mv (.t 15),none⟩,⟨some 61,.bJ 10 (.t 59) (.t 60),none⟩,⟨some 62,.load (some 10) (.t 61),none⟩,⟨some 63,.call (.k (.fn (.func 27) [] [])) [(.t 62)],none⟩,⟨some 64,.jL 60 8 1 [(.d (.int .u8 0)),(.d (.int .u32 0)),(.d (.int .u8 0)),(.d (.int .u32 0)),(.d (.int .u32 0)),(.d (.int .u32 0)),(.d (.int .u32 0)),(.d .ay)] [(0,8,(.t 63))],none⟩,⟨some 65,.app 60 8 56 (.t 58) (.t 64),none⟩,⟨some 66,.aK 5 (.t 13),none⟩,⟨none,.store 1 (.t 66) (.t 65),none⟩] [0,1,0,0,12,28,60,124,255,511,1023] true)
      (.eN [⟨some 67,.aK 6 (.t 13),none⟩,⟨some 68,.load none (.t 67),none⟩,⟨some 69,.load none (.t 12),none⟩,⟨some 70,.mv (.t 15),none⟩,⟨some 71,.bJ 10 (.t 69) (.t 70),none⟩,⟨some 72,.load (some 10) (.t 71),none⟩,⟨some 73,.call (.k (.fn (.func 28) [] [])) [(.t 72)],none⟩,⟨some 74,.bin .add (.t 68) (.t 73),none⟩,⟨some 75,.aK 6 (.t 13),none⟩,⟨none,.store 1 (.t 75) (.t 74),none⟩] [0,1,0,0,12,28,60,127,255,511] true)))):
    SB Try.prog claim_claims_1.f [.yl 16,.ptr 12 0,.ptr 14 0,.ptr 11 0] (mD l o++iH d c who l.length ca cb (eW l (l,[]) 15)) 17 (3*o.cl.length) fun r F=>r= .cg []∧∃ rn,xg rn (17+3*o.cl.length)∧F=mD l o++iH d c who l.length ca cb (eW l (bB (ej l) o.who (l,[]) o.cl) rn):=by
  have hln:o.cells[28]? =some (.d (.sl o.cl.length (o.cl.flatMap Cm.ds))):=by rw [aq.jY,ho.eq]
  have ok0:xg 15 17:=⟨by decide,by decide,by decide,by decide,by decide,by decide,by decide,by decide,by decide,by decide,by decide⟩
  refine claim_claims_1.enter (by simp [SV.ok,SV.aI]) (qc (qa l o (Nat.le_refl 17)) (od (s:=eW l (l,[]) 15) ok0)) (by simp) ?_
  dsimp only [claim_claims_1.s,Co.M,Co.G,Co.J,Co.H,Co.N,Co.F,Co.C,Co.Z,Co.B,Co.b8,Co.aA,Co.bz,Co.i6,Co.z8,Co.dm]
  have oc:∀ q:Nat→Bool,SV.aI q o.cells=true:=aq.aj o
  have hS:∀ i,me l (Bu l o i):=fun i=>me.run _ _ _ (me.zero l)
  have hod:∀ (rn tot n:Nat) (q:Nat→Bool),SV.aI q (aG d c who (.gs rn n) tot)=q rn:=fun rn tot n q=>by simp [aG,SV.aI,SV.ok]
  simp only [mD,iH,eW,List.cons_append,List.nil_append]
  refine SW.seq ?_
  (refine SW.ai [0,1,2,3,5,6,7,8,9,10,12,13,14,15,27,41,50] mixed ?_;(repeat (first | refine RW.ro (hln) (h:= ?_) | refine RW.skip (h:= ?_) | refine RW.op (hln) (h:= ?_) | refine RW.aF (hln) (h:= ?_) | refine RW.ah (h:= ?_)));refine RW.nil ⟨by kernel_rfl,aa.mk (h:= ?_)⟩)
  refine SW.block ?_
  refine SW.loop (α:={p:Nat×Nat×Nat // p.1≤o.cl.length∧xg p.2.1 p.2.2∧p.2.2≤17+3*p.1})
    (fun p=>⟨[(14,i64 p.1.1),(13,i64 o.cl.length),(12,.d (.sl o.cl.length (o.cl.flatMap Cm.ds))),(0,.yl 16),(1,.ptr 12 0),(2,.ptr 14 0),(3,.ptr 11 0)],mD l o++iH d c who l.length ca cb (eW l (Bu l o p.1.1) p.1.2.1),p.1.2.2⟩)
    (fun p=>o.cl.length - p.1.1) ⟨(0,15,17),Nat.zero_le _,ok0,Nat.le_refl _⟩ id ?_ ?_
  · refine bg.same (Nat.le_refl 17) (by simp [dL,List.lookup,SV.aV,SV.ok]) (qc (qa l o (Nat.le_refl 17)) (od (s:=eW l _ 15) ok0)) ?_
    intro x hx
    simp only [mD,iH,eW,List.cons_append,List.nil_append,List.mem_cons,List.not_mem_nil,or_false] at hx
    have e0:Bu l o 0=(l,[]):=by unfold Bu bB;rfl
    rw [e0] at hx
    rcases hx with rfl | rfl | rfl | rfl | rfl | rfl | rfl | rfl | rfl <;> simp [ag]
  rintro ⟨⟨i,rn,kk⟩,hi,hrn,hkk⟩
  dsimp only at hi hrn hkk ⊢
  obtain ⟨r8,r9,EI,FD,FE,FF,FG,EJ,rlt,rk,rge⟩:=hrn
  have g8:=bX r8
  have g9:=bX r9
  have g10:=bX EI
  have g11:=bX FD
  have g12:=bX FE
  have g13:=bX FF
  have g14:=bX FG
  have g16:=bX EJ
  have z8:=bX (show kk≠8 by omega)
  have z9:=bX (show kk≠9 by omega)
  have z10:=bX (show kk≠10 by omega)
  have z11:=bX (show kk≠11 by omega)
  have z12:=bX (show kk≠12 by omega)
  have z13:=bX (show kk≠13 by omega)
  have z14:=bX (show kk≠14 by omega)
  have z16:=bX (show kk≠16 by omega)
  have zr:=bX (show kk≠rn by omega)
  refine SW.seq ?_
  by_cases h:i<o.cl.length
  · have h1 :decide ((i:Int)<(o.cl.length:Int))=true:=by simp only [decide_eq_true_eq];omega
    have t2:IntKind.i64.wrap ((i:Int)+1)=((i+1:Nat):Int):=wrap_i64 _ (by omega)
    obtain ⟨x,hx⟩:=aL h
    have hst:Bu l o (i+1)=eB (ej l) o.who (Bu l o i) x:=by
      show bB _ _ _ (o.cl.take (i+1))=_
      rw [bQ hx,sC]
    have hSi:=hS i
    obtain ⟨L,is,hLi⟩:∃ L is,Bu l o i=(L,is):=⟨_,_,rfl⟩
    rw [hLi] at hst hSi ⊢
    have hLl:L.length=l.length:=hSi.len
    have hasx:=EG l x.line
    have u1:=je x.line iv (mB l).1
    have u3:=gX (kc:=Dt.cells) (mB l).1 x.line
    simp only [mD,iH,eW,List.cons_append,List.nil_append]
    (refine SW.ai [0,1,2,3,5,6,7,8,9,10,12,13,14,15,27,41,50] mixed ?_;(repeat (first | refine RW.ro (h1) (h:= ?_) | refine RW.skip (h:= ?_) | refine RW.op (h1) (h:= ?_) | refine RW.aF (h1) (h:= ?_) | refine RW.ah (h:= ?_)));refine RW.nil ⟨by kernel_rfl,aa.mk (h:= ?_)⟩)
    refine SW.seq (SW.au rfl (SW.skip ?_))
    refine SW.seq (SW.block (SW.seq ?_))
    (have fx:=(And.intro (vE hx) (And.intro (zQ hx) (And.intro (x.FA) (And.intro (x.qA) (And.intro (x.FB) (And.intro (x.FC) (And.intro (z8) (And.intro (z9) (And.intro (z10) (And.intro (z11) (And.intro (z12) (And.intro (z13) (And.intro (z14) (And.intro (z16) (zr)))))))))))))));refine SW.ai [0,1,2,3,5,6,7,8,9,10,12,13,14,15,27,41,50] mixed ?_;(repeat (first | refine RW.ro fx (h:= ?_) | refine RW.skip (h:= ?_) | refine RW.op fx (h:= ?_) | refine RW.aF fx (h:= ?_) | refine RW.ah (h:= ?_)));refine RW.nil ⟨by kernel_rfl,aa.mk (h:= ?_)⟩)
    refine SW.seq ?_
    -- one more round, with nothing claimed
    have next:eB (ej l) o.who (L,is) x=(L,is)→∀ (env:List (Nat×SV)) (hp:Hp) (kq:Nat),dL id kk env [(14,i64 (i+1:Nat)),(13,i64 o.cl.length),(12,.d (.sl o.cl.length (o.cl.flatMap Cm.ds))),(0,.yl 16),(1,.ptr 12 0),(2,.ptr 14 0),(3,.ptr 11 0)]→
        (∀ y,y∈mD l o++iH d c who l.length ca cb (eW l (L,is) rn)→lk hp y.1=some y.2)→
        ∃ (p:{p:Nat×Nat×Nat // p.1≤o.cl.length∧xg p.2.1 p.2.2∧p.2.2≤17+3*p.1}) (ρ:Nat→Nat),o.cl.length - p.1.1<o.cl.length - i∧bg 17 ⟨env,hp,kq⟩ ⟨[(14,i64 p.1.1),(13,i64 o.cl.length),(12,.d (.sl o.cl.length (o.cl.flatMap Cm.ds))),(0,.yl 16),(1,.ptr 12 0),(2,.ptr 14 0),(3,.ptr 11 0)],mD l o++iH d c who l.length ca cb (eW l (Bu l o p.1.1) p.1.2.1),p.1.2.2⟩ ρ:=by
      intro hs env hp kq he hh
      refine ⟨⟨(i+1,rn,kk),by show i+1≤_;omega,⟨r8,r9,EI,FD,FE,FF,FG,EJ,rlt,rk,rge⟩,by show kk≤17+3*(i+1);omega⟩,id,by show o.cl.length - (i+1)<_;omega,?_⟩
      have e:Bu l o (i+1)=(L,is):=by rw [hst,hs]
      dsimp only
      rw [e]
      exact bg.same rk he (qc (qa l o rk) (od (s:=eW l (L,is) rn) ⟨r8,r9,EI,FD,FE,FF,FG,EJ,rlt,rk,rge⟩)) hh
    cases hA:ej l x.line with
    | none=>
      rw [hA] at hasx
      have hs0:eB (ej l) o.who (L,is) x=(L,is):=by unfold eB;rw [hA]
      have hm:MM.has (mB l).1 x.line=false:=hasx
      (have fx:=(And.intro (u1) (And.intro (u3) (And.intro (x.yR) (And.intro (x.qA) (And.intro (hm) (And.intro (z8) (And.intro (z9) (And.intro (z10) (And.intro (z11) (And.intro (z12) (And.intro (z13) (And.intro (z14) (And.intro (z16) (zr))))))))))))));refine SW.ai [0,1,2,3,5,6,7,8,9,10,12,13,14,15,27,41,50] mixed ?_;(repeat (first | refine RW.ro fx (h:= ?_) | refine RW.skip (h:= ?_) | refine RW.op fx (h:= ?_) | refine RW.aF fx (h:= ?_) | refine RW.ah (h:= ?_)));refine RW.nil ⟨by kernel_rfl,aa.mk (h:= ?_)⟩)
      refine SW.seq (SW.seq ?_)
      (refine SW.ai [0,1,2,3,5,6,7,8,9,10,12,13,14,15,27,41,50] mixed ?_;(repeat (first | refine RW.ro U (h:= ?_) | refine RW.skip (h:= ?_) | refine RW.op U (h:= ?_) | refine RW.aF U (h:= ?_) | refine RW.ah (h:= ?_)));refine RW.nil ⟨by kernel_rfl,aa.mk (h:= ?_)⟩)
      refine SW.au rfl (SW.exit ?_)
      refine (?_:Sl.SW _ _ _ _ _ _)
      (refine SW.ai [0,1,2,3,5,6,7,8,9,10,12,13,14,15,27,41,50] mixed ?_;(repeat (first | refine RW.ro (t2) (h:= ?_) | refine RW.skip (h:= ?_) | refine RW.op (t2) (h:= ?_) | refine RW.aF (t2) (h:= ?_) | refine RW.ah (h:= ?_)));refine RW.nil ⟨by kernel_rfl,aa.mk (h:= ?_)⟩)
      exact next hs0 _ _ _ (by simp [dL,List.lookup,SV.aV,SV.ok];omega) (fun y hy=>by
        simp only [mD,iH,eW,List.cons_append,List.nil_append,List.mem_cons,List.not_mem_nil,or_false] at hy
        rcases hy with rfl | rfl | rfl | rfl | rfl | rfl | rfl | rfl | rfl <;> simp [ag,z8,z9,z10,z11,z12,z13,z14,z16,zr,g8,g9,g10,g11,g12,g13,g14,g16])
    | some j=>
      rw [hA] at hasx
      have hm:MM.has (mB l).1 x.line=true:=hasx
      obtain ⟨y,hy,hyd⟩:=oW hA
      have hjl:=GA hA
      have hgj:(MM.get (mB l).1 x.line).getD 0=(j:Int):=by rw [zO,hA];rfl
      rw [hgj] at u3
      have hw0:=hSi.get j y hy
      obtain ⟨w,hw1⟩:∃ w,(if j∈is then y.gi else y)=w:=⟨_,rfl⟩
      rw [hw1] at hw0
      have hw:L[j]? =some w:=hw0
      have FH:=hb y (List.mem_of_getElem? hy)
      have hwb:lW w:=by rw [← hw1];split <;> exact ⟨FH.ap,FH.re⟩
      have hcs:eB (ej l) o.who (L,is) x=if iW w x.iU o.who then (L.set j w.gi,is++[j]) else (L,is):=by
        unfold eB
        rw [hA]
        dsimp only
        rw [hw]
      have w8:=bX (show kk+1≠8 by omega)
      have w9:=bX (show kk+1≠9 by omega)
      have w10:=bX (show kk+1≠10 by omega)
      have w11:=bX (show kk+1≠11 by omega)
      have w12:=bX (show kk+1≠12 by omega)
      have w13:=bX (show kk+1≠13 by omega)
      have w14:=bX (show kk+1≠14 by omega)
      have w16:=bX (show kk+1≠16 by omega)
      have wr:=bX (show kk+1≠rn by omega)
      have wk:=bX (show kk+1≠kk by omega)
      (have fx:=(And.intro (u1) (And.intro (u3) (And.intro (x.yR) (And.intro (x.qA) (And.intro (hm) (And.intro (z8) (And.intro (z9) (And.intro (z10) (And.intro (z11) (And.intro (z12) (And.intro (z13) (And.intro (z14) (And.intro (z16) (zr))))))))))))));refine SW.ai [0,1,2,3,5,6,7,8,9,10,12,13,14,15,27,41,50] mixed ?_;(repeat (first | refine RW.ro fx (h:= ?_) | refine RW.skip (h:= ?_) | refine RW.op fx (h:= ?_) | refine RW.aF fx (h:= ?_) | refine RW.ah (h:= ?_)));refine RW.nil ⟨by kernel_rfl,aa.mk (h:= ?_)⟩)
      refine SW.seq (SW.seq ?_)
      (refine SW.ai [0,1,2,3,5,6,7,8,9,10,12,13,14,15,27,41,50] mixed ?_;(repeat (first | refine RW.ro U (h:= ?_) | refine RW.skip (h:= ?_) | refine RW.op U (h:= ?_) | refine RW.aF U (h:= ?_) | refine RW.ah (h:= ?_)));refine RW.nil ⟨by kernel_rfl,aa.mk (h:= ?_)⟩)
      refine SW.ak rfl (SW.skip (SW.seq ?_))
      have hc:=fun k=>AM w hwb x.iU o.who k
      rcases hm2:iW w x.iU o.who with _ | _ <;> rw [hm2] at hc hcs
      · replace hc:∀ k,bp Try.prog line_Claim.f [.agg w.cells,.agg x.iU.cells,.d (.int .u32 (o.who:Int))] [] k 0 (.cg [.agg w.cells,i64 278]) []:=hc
        (have fx:=(And.intro (jB hw) (And.intro (dV hw) (And.intro (hjl) (And.intro (x.Fz) (And.intro (x.qA) (And.intro (yM) (And.intro (z8) (And.intro (z9) (And.intro (z10) (And.intro (z11) (And.intro (z12) (And.intro (z13) (And.intro (z14) (And.intro (z16) (And.intro (zr) (And.intro (w8) (And.intro (w9) (And.intro (w10) (And.intro (w11) (And.intro (w12) (And.intro (w13) (And.intro (w14) (And.intro (w16) (And.intro (wr) (wk)))))))))))))))))))))))));refine SW.ai [0,1,2,3,5,6,7,8,9,10,12,13,14,15,27,41,50] mixed ?_;(repeat (first | refine RW.ro fx (h:= ?_) | refine RW.skip (h:= ?_) | refine RW.op fx (h:= ?_) | refine RW.aF fx (h:= ?_) | refine RW.ah (h:= ?_) | (refine RW.ax (h:= ?_);(first | refine af.mk fx (hc:=hc _) (h:= ?_)))));refine RW.nil ⟨ew (by simp [lG,tK,fq,bZ,List.range,List.range.loop,z8,z9,z10,z11,z12,z13,z14,z16,zr,w8,w9,w10,w11,w12,w13,w14,w16,wr,wk] <;> (first | decide | (repeat (first | assumption | refine ⟨?_,?_⟩ | exact .inl (by decide) | exact .inl (.inr (by decide)) | exact .inl (.inl (by decide)) | refine .inr ?_)))),aa.mk (h:= ?_)⟩)
        refine SW.seq (SW.seq ?_)
        (refine SW.ai [0,1,2,3,5,6,7,8,9,10,12,13,14,15,27,41,50] mixed ?_;(repeat (first | refine RW.ro U (h:= ?_) | refine RW.skip (h:= ?_) | refine RW.op U (h:= ?_) | refine RW.aF U (h:= ?_) | refine RW.ah (h:= ?_)));refine RW.nil ⟨ew (by kernel_rfl),aa.mk (h:= ?_)⟩)
        refine SW.au rfl (SW.exit ?_)
        refine (?_:Sl.SW _ _ _ _ _ _)
        (refine SW.ai [0,1,2,3,5,6,7,8,9,10,12,13,14,15,27,41,50] mixed ?_;(repeat (first | refine RW.ro (t2) (h:= ?_) | refine RW.skip (h:= ?_) | refine RW.op (t2) (h:= ?_) | refine RW.aF (t2) (h:= ?_) | refine RW.ah (h:= ?_)));refine RW.nil ⟨ew (by kernel_rfl),aa.mk (h:= ?_)⟩)
        exact next hcs _ _ _ (by simp [dL,List.lookup,SV.aV,SV.ok];omega) (fun y hy=>by
          simp only [mD,iH,eW,List.cons_append,List.nil_append,List.mem_cons,List.not_mem_nil,or_false] at hy
          rcases hy with rfl | rfl | rfl | rfl | rfl | rfl | rfl | rfl | rfl <;> simp [ag,z8,z9,z10,z11,z12,z13,z14,z16,zr,w8,w9,w10,w11,w12,w13,w14,w16,wr,wk,g8,g9,g10,g11,g12,g13,g14,g16])
      · have hj:j∉is:=fun hin=>by rw [← hw1,if_pos hin,mc] at hm2;cases hm2
        have hyw:w=y:=by rw [← hw1,if_neg hj]
        have hy':l[j]? =some w:=by rw [hyw];exact hy
        have hLj:j<L.length:=by omega
        replace hc:∀ k,bp Try.prog line_Claim.f [.agg w.cells,.agg x.iU.cells,.d (.int .u32 (o.who:Int))] [] k 0 (.cg [.agg w.gi.cells,i64 0]) []:=hc
        replace hcs:eB (ej l) o.who (L,is) x=(L.set j w.gi,is++[j]):=hcs
        (have fx:=(And.intro (jB hw) (And.intro (dV hw) (And.intro (hjl) (And.intro (x.Fz) (And.intro (x.qA) (And.intro (yM) (And.intro (z8) (And.intro (z9) (And.intro (z10) (And.intro (z11) (And.intro (z12) (And.intro (z13) (And.intro (z14) (And.intro (z16) (And.intro (zr) (And.intro (w8) (And.intro (w9) (And.intro (w10) (And.intro (w11) (And.intro (w12) (And.intro (w13) (And.intro (w14) (And.intro (w16) (And.intro (wr) (wk)))))))))))))))))))))))));refine SW.ai [0,1,2,3,5,6,7,8,9,10,12,13,14,15,27,41,50] mixed ?_;(repeat (first | refine RW.ro fx (h:= ?_) | refine RW.skip (h:= ?_) | refine RW.op fx (h:= ?_) | refine RW.aF fx (h:= ?_) | refine RW.ah (h:= ?_) | (refine RW.ax (h:= ?_);(first | refine af.mk fx (hc:=hc _) (h:= ?_)))));refine RW.nil ⟨ew (by simp [lG,tK,fq,bZ,List.range,List.range.loop,z8,z9,z10,z11,z12,z13,z14,z16,zr,w8,w9,w10,w11,w12,w13,w14,w16,wr,wk] <;> (first | decide | (repeat (first | assumption | refine ⟨?_,?_⟩ | exact .inl (by decide) | exact .inl (.inr (by decide)) | exact .inl (.inl (by decide)) | refine .inr ?_)))),aa.mk (h:= ?_)⟩)
        refine SW.seq (SW.seq ?_)
        (refine SW.ai [0,1,2,3,5,6,7,8,9,10,12,13,14,15,27,41,50] mixed ?_;(repeat (first | refine RW.ro U (h:= ?_) | refine RW.skip (h:= ?_) | refine RW.op U (h:= ?_) | refine RW.aF U (h:= ?_) | refine RW.ah (h:= ?_)));refine RW.nil ⟨ew (by kernel_rfl),aa.mk (h:= ?_)⟩)
        refine SW.ak rfl (SW.skip (SW.seq ?_))
        (have fx:=(And.intro (jB hw) (And.intro (dV hw) (And.intro (hjl) (And.intro (Gw w.gi hLj) (And.intro (z8) (And.intro (z9) (And.intro (z10) (And.intro (z11) (And.intro (z12) (And.intro (z13) (And.intro (z14) (And.intro (z16) (And.intro (zr) (And.intro (w8) (And.intro (w9) (And.intro (w10) (And.intro (w11) (And.intro (w12) (And.intro (w13) (And.intro (w14) (And.intro (w16) (And.intro (wr) (wk)))))))))))))))))))))));refine SW.ai [0,1,2,3,5,6,7,8,9,10,12,13,14,15,27,41,50] mixed ?_;(repeat (first | refine RW.ro fx (h:= ?_) | refine RW.skip (h:= ?_) | refine RW.op fx (h:= ?_) | refine RW.aF fx (h:= ?_) | refine RW.ah (h:= ?_)));refine RW.nil ⟨ew (by kernel_rfl),aa.mk (h:= ?_)⟩)
        have hout:(cI l is).length≤1000:=by
          rw [mC hSi.lt]
          have h3:is.length≤l.length:=sR l.length hSi.nd hSi.lt
          exact Nat.le_trans h3 hl
        have okF:(iH d c who l.length ca cb ⟨L.set j w.gi,cI l is,rn,gj (cI l is)⟩).ok (fun m=>decide (m<kk+2))=true:=od (s:=⟨L.set j w.gi,cI l is,rn,gj (cI l is)⟩) ⟨r8,r9,EI,FD,FE,FF,FG,EJ,by show rn<kk+2;omega,by omega,rge⟩
        have yc:=GM (d:=d) (c:=c) (who:=who) hca hcb (n:=l.length) ⟨L.set j w.gi,cI l is,rn,gj (cI l is)⟩ (by show (L.set j w.gi).length=_;rw [List.length_set];exact hLl) EJ r9 EI r8 (by show (cI l is).length≤_;omega) (i:=j) (x:=w.gi) (by show (L.set j w.gi)[j]? =_;rw [List.getElem?_set_self hLj]) ⟨hwb.ap,hwb.re⟩ i (kk+2) okF
        have v8:=bX (show kk+2≠8 by omega)
        have v9:=bX (show kk+2≠9 by omega)
        have v10:=bX (show kk+2≠10 by omega)
        have v11:=bX (show kk+2≠11 by omega)
        have v12:=bX (show kk+2≠12 by omega)
        have v13:=bX (show kk+2≠13 by omega)
        have v14:=bX (show kk+2≠14 by omega)
        have v16:=bX (show kk+2≠16 by omega)
        have vr:=bX (show kk+2≠rn by omega)
        have vk:=bX (show kk+2≠kk by omega)
        have vk1:=bX (show kk+2≠kk+1 by omega)
        have e5:I2 ⟨L.set j w.gi,cI l is,rn,gj (cI l is)⟩ w.gi (kk+2)=eW l (L.set j w.gi,is++[j]) (kk+2):=by
          unfold I2 eW
          rw [AQ hy',pY]
        rw [e5] at yc
        have hin:lk (iH d c who l.length ca cb ⟨L.set j w.gi,cI l is,rn,gj (cI l is)⟩) 16≠none:=by simp [iH,ag]
        have hsubF:HSub (iH d c who l.length ca cb ⟨L.set j w.gi,cI l is,rn,gj (cI l is)⟩) ((kk+1,.box 58 w.gi.cells)::(kk,.box 62 x.sv)::(14,.box 72 [.mp 13])::(13,.map (aH Dt.cells iv (mB l).1) (mB l).2)::(12,.box 35 o.cells)::(11,.box 23 [.gs 8 l.length])::(16,.ox 101 [12,13] [.ptr 9 0,.ptr 10 0] [55,56] ca cb .ready none)::(9,.box 23 [.gs 8 l.length])::(10,.box 45 (aG d c who (.gs rn (cI l is).length) (gj (cI l is))))::(8,.arr 58 10 l.length (xV (L.set j w.gi)))::(rn,.arr 60 8 (cI l is).length (yB (cI l is)))::[]):=by
          unfold iH
          refine HSub.cons ?_ (HSub.cons ?_ (HSub.cons ?_ (HSub.cons ?_ (HSub.cons ?_ (HSub.nil _))))) <;> simp [ag,z8,z9,z10,z11,z12,z13,z14,z16,zr,w8,w9,w10,w11,w12,w13,w14,w16,wr,wk,g8,g9,g10,g11,g12,g13,g14,g16]
        refine SW.seq ?_
        (refine SW.ai [0,1,2,3,5,6,7,8,9,10,12,13,14,15,27,41,50] mixed ?_;(repeat (first | refine RW.ro U (h:= ?_) | refine RW.skip (h:= ?_) | refine RW.op U (h:= ?_) | refine RW.aF U (h:= ?_) | refine RW.ah (h:= ?_) | (refine RW.yH rfl rfl yc hin hsubF (.inl rfl) (h:= ?_);intro H hH)));refine RW.nil ⟨ew (by kernel_rfl),aa.mk (h:= ?_)⟩)
        refine SW.ak rfl (SW.skip ?_)
        (refine SW.ai [0,1,2,3,5,6,7,8,9,10,12,13,14,15,27,41,50] mixed ?_;(repeat (first | refine RW.ro (t2) (h:= ?_) | refine RW.skip (h:= ?_) | refine RW.op (t2) (h:= ?_) | refine RW.aF (t2) (h:= ?_) | refine RW.ah (h:= ?_)));refine RW.nil ⟨ew (by kernel_rfl),aa.mk (h:= ?_)⟩)
        have he:Bu l o (i+1)=(L.set j w.gi,is++[j]):=by rw [hst,hcs]
        have hrn2:xg (kk+2) (kk+3):=⟨by omega,by omega,by omega,by omega,by omega,by omega,by omega,by omega,by omega,by omega,by omega⟩
        refine ⟨⟨(i+1,kk+2,kk+3),by show i+1≤_;omega,hrn2,by show kk+3≤17+3*(i+1);omega⟩,id,by show o.cl.length - (i+1)<_;omega,?_⟩
        dsimp only
        rw [he]
        refine bg.same (by show 17≤kk+3;omega) (by simp [dL,List.lookup,SV.aV,SV.ok];omega) (qc (qa l o (by show 17≤kk+3;omega)) (od (s:=eW l (L.set j w.gi,is++[j]) (kk+2)) hrn2)) ?_
        intro q hq
        show lk H q.1=some q.2
        have hq:q∈mD l o++iH d c who l.length ca cb (eW l (L.set j w.gi,is++[j]) (kk+2)):=hq
        rcases List.mem_append.1 hq with hq | hq
        · simp only [mD,List.mem_cons,List.not_mem_nil,or_false] at hq
          rw [hH,c9]
          · rcases hq with rfl | rfl | rfl | rfl <;> simp [ag,z8,z9,z10,z11,z12,z13,z14,z16,zr,w8,w9,w10,w11,w12,w13,w14,w16,wr,wk,g8,g9,g10,g11,g12,g13,g14,g16]
          · rcases hq with rfl | rfl | rfl | rfl <;> simp [iH,ag,bA,g8,g9,g10,g11,g12,g13,g14,g16]
          · rcases hq with rfl | rfl | rfl | rfl <;> simp [iH,eW,ag,bA,v8,v9,v10,v11,v12,v13,v14,v16,vr,vk,vk1]
        · have hq2:lk (iH d c who l.length ca cb (eW l (L.set j w.gi,is++[j]) (kk+2))) q.1=some q.2:=by
            simp only [iH,eW,List.mem_cons,List.not_mem_nil,or_false] at hq
            rcases hq with rfl | rfl | rfl | rfl | rfl <;> simp [iH,eW,ag,v8,v9,v10,v11,v12,v13,v14,v16,vr,vk,vk1]
          rw [hH,fk (.inr (by rw [hq2];simp)),hq2]
  · have h1:decide ((i:Int)<(o.cl.length:Int))=false:=by simp only [decide_eq_false_iff_not];omega
    have hie:i=o.cl.length:=by omega
    subst hie
    have he:Bu l o o.cl.length=bB (ej l) o.who (l,[]) o.cl:=by unfold Bu;rw [List.take_length]
    rw [he]
    have hrn:xg rn (17+3*o.cl.length):=⟨r8,r9,EI,FD,FE,FF,FG,EJ,by omega,by omega,rge⟩
    (refine SW.ai [0,1,2,3,5,6,7,8,9,10,12,13,14,15,27,41,50] mixed ?_;(repeat (first | refine RW.ro (h1) (h:= ?_) | refine RW.skip (h:= ?_) | refine RW.op (h1) (h:= ?_) | refine RW.aF (h1) (h:= ?_) | refine RW.ah (h:= ?_)));refine RW.nil ⟨ew (by kernel_rfl),aa.mk (h:= ?_)⟩)
    refine SW.seq (SW.ak rfl (SW.weak id (st1:=⟨[],mD l o++iH d c who l.length ca cb (eW l (bB (ej l) o.who (l,[]) o.cl) rn),17+3*o.cl.length⟩) ?_ (SW.exit ?_)))
    · refine bg.same (by show 17≤17+3*o.cl.length;omega) trivial (qc (qa l o (by show 17≤17+3*o.cl.length;omega)) (od (s:=eW l _ rn) hrn)) ?_
      intro q hq
      simp only [mD,iH,eW,List.cons_append,List.nil_append,List.mem_cons,List.not_mem_nil,or_false] at hq
      rcases hq with rfl | rfl | rfl | rfl | rfl | rfl | rfl | rfl | rfl <;> simp [mD,iH,eW,ag,g8,g9,g10,g11,g12,g13,g14,g16]
    · have fin:Go.Sl.Fin 17 (3*o.cl.length) [] (fun r F=>r= .cg []∧∃ rn,xg rn (17+3*o.cl.length)∧F=mD l o++iH d c who l.length ca cb (eW l (bB (ej l) o.who (l,[]) o.cl) rn)) ⟨[],mD l o++iH d c who l.length ca cb (eW l (bB (ej l) o.who (l,[]) o.cl) rn),17+3*o.cl.length⟩:=End.mk (mD l o++iH d c who l.length ca cb (eW l (bB (ej l) o.who (l,[]) o.cl) rn)) (h3:=fun _ _ h=>h) (h4:=⟨rfl,rn,hrn,rfl⟩) (h6:=qc (qa l o (by omega)) (od (s:=eW l _ rn) hrn)) (h7:=Nat.le_refl _)
      exact fin
end
end
end Go.Proofs.Ytefjaphfnkbbkaa
