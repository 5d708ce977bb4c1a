/-
 Gossip: what one lacks, one by one.
-/
import Derived.Test.YtnakpdoioammhaaGreatDoorUA
set_option linter.unusedSectionVars false
set_option linter.unusedVariables false
set_option linter.unusedSimpArgs false
namespace Go.Proofs.YtnakpdoioammhaaGreatDoor
open Go.Sl Go.Proofs Go.Sort
attribute [local irreducible] SW RW bB SC ai aa
def Met (M:MM Dt Int)(t:List ah):Prop:=∀ d,(MM.get M d).getD 0=if (dD t d).isSome then 1 else 0
theorem wR (t:List ah)(x:ah)(d:Dt):(dD (t++[x]) d).isSome=((dD t d).isSome || decide (x.dot=d)):=by
 unfold dD
 rw [List.find?_append]
 cases List.find? (fun o=>decide (o.dot=d)) t with
 | some _=>simp
 | none=>by_cases e:x.dot=d <;> simp [e]
theorem Met.put {M:MM Dt Int}{t:List ah}(h:Met M t)(c:Nat)(x:ah):Met (MM.put M c x.dot 1) (t++[x]):=fun d=>by
 rw [MM.tK,wR]
 by_cases e:d=x.dot
 ·rw [if_pos e];simp [e]
 ·rw [if_neg e,h d]
  have:decide (x.dot=d)=false:=decide_eq_false fun h=>e h.symm
  rw [this,Bool.or_false]
theorem xT (q:Nat→Bool)(M:MM Dt Int):((aN nS iv M).all fun e=>e.2.1.ok q && e.2.2.ok q)=true:=jr q M (fun _=>rfl) (fun _=>rfl)
def LG (rn k b q:Nat)(s:List ah)(M:MM Dt Int)(c:Nat)(l:List ah)(v:ag):Hp:=[(rn,.arr 51 29 s.length (uU s)),(k,.map (aN nS iv M) c),(b,.box 22 [ops l]),(q,.box 34 v.cells)]
structure LI {σ:Type}(Fh:σ→Hp)(s0:σ)(k b q:Nat)(l:List ah)(v:ag)(i rn:Nat)(M:MM Dt Int)(c kk:Nat):Prop where
 h1:i≤l.length
 h2:Met M (l.take i)
 own:fH (LG rn k b q (eA (l.take i) v) M c l v) Fh s0 kk
 h3:kk≤k+2+3*i
 h4:k<kk
structure YI {σ:Type}(Fh:σ→Hp)(Step:σ→ah→σ→Prop)(go:σ→Bool)(s0:σ)(k b q ej:Nat)(l:List ah)(v:ag)(L:List ah)(j:Nat)(s:σ)(kk:Nat):Prop where
 c1:j≤L.length
 c2:ig Step s0 (L.take j) s
 c3:go s=true
 c4:fH [(b,Ob.box 22 [ops l]),(q,.box 34 v.cells)] Fh s kk
 c5:kk≤k+2+3*l.length+j*(1+ej)
 c6:k≤kk
set_option maxHeartbeats 4000000 in
theorem ri {σ:Type}{Fh:σ→Hp}{Step:σ→ah→σ→Prop}{go:σ→Bool}{ej y b q k:Nat}{l:List ah}{v:ag}(hl:l.length≤1048576)(FL:∀ x,x∈l→x.jf∧x.cl.length≤1048576∧x.dot.wf)(s0:σ)(hy:jt Tryz.prog y (fun x:ah=> .agg x.cells) ej Fh Step go s0 (aA (eA l v)).length)(uk:go s0=true)
  (hO:fH [(b,Ob.box 22 [ops l]),(q,.box 34 v.cells)] Fh s0 k):
  SB Tryz.prog gossip_lacked_1.f [.yl y,.ptr b 0,.ptr q 0] ((b,.box 22 [ops l])::(q,.box 34 v.cells)::Fh s0) k (2+3*l.length+(aA (eA l v)).length*(1+ej))
   fun r F=>r= .cW []∧∃ (xs:List ah) (s':σ),ig Step s0 xs s'∧xs <+: aA (eA l v)∧(go s'=true→xs=aA (eA l v))∧(lk (Fh s') b=none∧lk (Fh s') q=none)∧F=(b,.box 22 [ops l])::(q,.box 34 v.cells)::Fh s':=by
 have hyk:y<k:=by
  obtain ⟨ob,ho⟩:=Option.ne_none_iff_exists'.1 (hy.yK s0)
  simpa using (Hp.f_ hO.okF ho).1
 have hb:b<k:=hO.lt b (by simp)
 have hq:q<k:=hO.lt q (by simp)
 have tX:b≠q:=by have:=hO.nd;simp at this;exact this
 refine gossip_lacked_1.enter (by simp [SV.ok,SV.aF];omega) hO.Hj (by simp) ?_
 dsimp only [gossip_lacked_1.s,Co.M,Co.G,Co.J,Co.H,Co.N,Co.F,Co.C,Co.Z,Co.B,Co.b8,Co.aJ,Co.b_,Co.i6,Co.z8,Co.cn]
 have f1:=dY tX
 have f2:=dY (show k≠b by omega)
 have f3:=dY (show k≠q by omega)
 have f4:=dY (show k+1≠k by omega)
 have f5:=dY (show k+1≠b by omega)
 have f6:=dY (show k+1≠q by omega)
 have g0:List.lookup k (Fh s0)=none:=hO.out (Nat.le_refl _)
 have g1:List.lookup (k+1) (Fh s0)=none:=hO.out (by omega)
 refine SW.seq ?_
 (have fx:=(And.intro (f1) (And.intro (f2) (And.intro (f3) (g0))));refine SW.au [0,1,2,4,5,7,8,10,12,13,14,15,36,46,47,48,49,59] mixed ?_;(repeat (first | refine RW.ro fx (h:= ?_) | refine RW.skip (h:= ?_) | refine RW.op fx (h:= ?_) | refine RW.aL fx (h:= ?_) | refine RW.aj (h:= ?_) | refine dZ rfl rfl (h:= ?_)));refine RW.nil ⟨aD (by kernel_rfl),aa.mk (h:= ?_)⟩)
 refine SW.seq ?_
 (refine SW.au [0,1,2,4,5,7,8,10,12,13,14,15,36,46,47,48,49,59] mixed ?_;(repeat (first | refine RW.ro U (h:= ?_) | refine RW.skip (h:= ?_) | refine RW.op U (h:= ?_) | refine RW.aL U (h:= ?_) | refine RW.aj (h:= ?_) | refine dZ rfl rfl (h:= ?_)));refine RW.nil ⟨aD (by kernel_rfl),aa.mk (h:= ?_)⟩)
 refine SW.kZ 5 51 29 rfl ?_
 refine SW.seq (SW.seq ?_)
 (have fx:=(And.intro (f1) (And.intro (f2) (And.intro (f3) (And.intro (f4) (And.intro (f5) (And.intro (f6) (And.intro (g0) (g1))))))));refine SW.au [0,1,2,4,5,7,8,10,12,13,14,15,36,46,47,48,49,59] mixed ?_;(repeat (first | refine RW.ro fx (h:= ?_) | refine RW.skip (h:= ?_) | refine RW.op fx (h:= ?_) | refine RW.aL fx (h:= ?_) | refine RW.aj (h:= ?_) | refine dZ rfl rfl (h:= ?_)));refine RW.nil ⟨aD (by kernel_rfl),aa.mk (h:= ?_)⟩)
 refine SW.block ?_
 have hO1:fH (LG (k+1) k b q [] [] 0 l v) Fh s0 (k+2):=by
  refine fH.new (fH.new hO (Nat.le_refl _) (Nat.lt_succ_self _) ?_) (Nat.le_refl _) (Nat.lt_succ_self _) ?_
  ·exact xT (fun m=>decide (m<k+1)) []
  ·show SV.aF (fun m=>decide (m<k+2)) []=true
   rfl
 refine SW.loop (α:={i:Nat×Nat×MM Dt Int×Nat×Nat // LI Fh s0 k b q l v i.1 i.2.1 i.2.2.1 i.2.2.2.1 i.2.2.2.2})
  (fun i=>⟨[(14,i64 i.1.1),(12,ops l),(13,i64 l.length),(4,.mp k),(5,.gs i.1.2.1 (eA (l.take i.1.1) v).length),(0,.yl y),(1,.ptr b 0),(2,.ptr q 0)],LG i.1.2.1 k b q (eA (l.take i.1.1) v) i.1.2.2.1 i.1.2.2.2.1 l v++Fh s0,i.1.2.2.2.2⟩)
  (fun i=>l.length - i.1.1) ⟨(0,k+1,[],0,k+2),⟨Nat.zero_le _,fun d=>by simp [MM.get,dD],hO1,by show k+2≤_;omega,by show k<k+2;omega⟩⟩ id ?_ ?_
 ·refine bk.own hO1 (hy.nd s0) (by show k≤k+2;omega) (by simp [bf,dc,List.lookup,SV.aP,SV.ok,SV.aF,eA,gC];omega) (fun n ob h=> ?_)
  exact h
 rintro ⟨⟨i,rn,M,c,kk⟩,hi⟩
 have hi:LI Fh s0 k b q l v i rn M c kk:=hi
 obtain ⟨p1,p2,p3,p4,p5⟩:=hi
 dsimp only at*
 have n1:rn<kk:=p3.lt rn (by simp [LG])
 have nd:=p3.nd
 simp only [LG,List.map_cons,List.map_nil,List.nodup_cons,List.mem_cons,List.not_mem_nil,or_false,not_or] at nd
 obtain ⟨⟨r1,r2,r3⟩,_⟩:=nd
 have e1:=dY r1
 have e2:=dY r2
 have e3:=dY r3
 simp only [LG,List.cons_append,List.nil_append]
 by_cases h:i<l.length
 ·have h1:decide ((i:Int)<l.length)=true:=by simp only [decide_eq_true_eq];omega
  obtain ⟨x,hx⟩:=bR h
  have hxw:=(FL x (List.mem_of_getElem? hx)).2.2
  have t2:IntKind.i64.wrap ((i:Int)+1)=((i+1:Nat):Int):=wrap_i64 _ (by omega)
  have t3:IntKind.u32.wrap (x.dot.r:Int)=(x.dot.r:Int):=wrap_u32 _ (by have:=hxw.1;omega)
  have z0:=dY (show kk≠rn by omega)
  have z1:=dY (show kk≠k by omega)
  have z2:=dY (show kk≠b by omega)
  have z3:=dY (show kk≠q by omega)
  have y0:=dY (show kk+1≠rn by omega)
  have y1:=dY (show kk+1≠k by omega)
  have y2:=dY (show kk+1≠b by omega)
  have y3:=dY (show kk+1≠q by omega)
  have y4:=dY (show kk+1≠kk by omega)
  have w0:=dY (show kk+2≠rn by omega)
  have w1:=dY (show kk+2≠k by omega)
  have w2:=dY (show kk+2≠b by omega)
  have w3:=dY (show kk+2≠q by omega)
  have w4:=dY (show kk+2≠kk by omega)
  have w5:=dY (show kk+2≠kk+1 by omega)
  have g2:List.lookup kk (Fh s0)=none:=p3.out (Nat.le_refl _)
  have g3:List.lookup (kk+1) (Fh s0)=none:=p3.out (by omega)
  have g4:List.lookup (kk+2) (Fh s0)=none:=p3.out (by omega)
  have m1:bV (bV [SV.d (.int .u32 0),SV.d (.int .u32 0)] 0 [SV.d (.int .u32 (x.dot.r:Int))]) 1 [u32 x.dot.n]=nS x.dot:=rfl
  have m2:bV [SV.d (.int .u32 0),SV.d (.int .u32 0)] 0 (nS x.dot)=nS x.dot:=rfl
  have m3:(nS x.dot).all SV.aZ=true:=rfl
  have m4:(nS x.dot).length=2:=rfl
  have m5:List.take 2 (nS x.dot)=nS x.dot:=rfl
  refine SW.seq ?_
  (refine SW.au [0,1,2,4,5,7,8,10,12,13,14,15,36,46,47,48,49,59] mixed ?_;(repeat (first | refine RW.ro (h1) (h:= ?_) | refine RW.skip (h:= ?_) | refine RW.op (h1) (h:= ?_) | refine RW.aL (h1) (h:= ?_) | refine RW.aj (h:= ?_) | refine dZ rfl rfl (h:= ?_)));refine RW.nil ⟨aD (by kernel_rfl),aa.mk (h:= ?_)⟩)
  refine SW.seq (SW.aC rfl (SW.skip ?_))
  refine SW.seq (SW.block (SW.seq ?_))
  (have fx:=(And.intro (f1) (And.intro (f2) (And.intro (f3) (And.intro (e1) (And.intro (e2) (And.intro (e3) (And.intro (z0) (And.intro (z1) (And.intro (z2) (And.intro (z3) (And.intro (g2) (And.intro (eX hx) (bQ hx)))))))))))));refine SW.au [0,1,2,4,5,7,8,10,12,13,14,15,36,46,47,48,49,59] mixed ?_;(repeat (first | refine RW.ro fx (h:= ?_) | refine RW.skip (h:= ?_) | refine RW.op fx (h:= ?_) | refine RW.aL fx (h:= ?_) | refine RW.aj (h:= ?_) | refine dZ rfl rfl (h:= ?_)));refine RW.nil ⟨aD (by kernel_rfl),aa.mk (h:= ?_)⟩)
  refine SW.seq ?_
  (have fx:=(And.intro (f1) (And.intro (f2) (And.intro (f3) (And.intro (e1) (And.intro (e2) (And.intro (e3) (And.intro (z0) (And.intro (z1) (And.intro (z2) (And.intro (z3) (And.intro (y0) (And.intro (y1) (And.intro (y2) (And.intro (y3) (And.intro (y4) (And.intro (g2) (And.intro (g3) (And.intro (t3) (And.intro (m1) (And.intro (m2) (And.intro (m3) (And.intro (m4) (m5)))))))))))))))))))))));refine SW.au [0,1,2,4,5,7,8,10,12,13,14,15,36,46,47,48,49,59] mixed ?_;(repeat (first | refine RW.ro fx (h:= ?_) | refine RW.skip (h:= ?_) | refine RW.op fx (h:= ?_) | refine RW.aL fx (h:= ?_) | refine RW.aj (h:= ?_) | refine dZ rfl rfl (h:= ?_)));refine RW.nil ⟨aD (by kernel_rfl),aa.mk (h:= ?_)⟩)
  have hM:=p2 x.dot
  have hcov:=lZ v x.dot
  have hsn:=wQ (l.take i) x v
  have e9:l.take (i+1)=l.take i++[x]:=eR hx
  rw [← e9] at hsn
  have hmet:Met (MM.put M c x.dot 1) (l.take (i+1)):=by rw [e9];exact p2.put c x
  have hslen:(eA (l.take i) v).length≤i:=Nat.le_trans (ox _ _) (by simp;omega)
  have u1:=Dx x.dot iv M
  have u2:=FK x.dot
  have u3:=gq (kc:=nS) M x.dot
  have u4:=gY (kc:=nS) M c x.dot 1
  generalize eA (l.take i) v=s at hsn hslen p3 ⊢
  have goOn:∀ (rW HR:Nat) (s':List ah) (env:List (Nat×SV)) (hp:Hp) (G1:Hp) (kz:Nat),eA (l.take (i+1)) v=s'→fH G1 Fh s0 kz→hp=G1++Fh s0→rW≠k→rW≠b→rW≠q→(∀ z,z∈LG rW k b q s' (MM.put M c x.dot 1) (MM.qv M c x.dot) l v→z∈G1)→kz≤kk+3→k<kz→
    bf id kz env [(14,i64 ((i+1:Nat):Int)),(12,ops l),(13,i64 l.length),(4,.mp k),(5,.gs rW s'.length),(0,.yl y),(1,.ptr b 0),(2,.ptr q 0)]→
    ∃ (j:{i:Nat×Nat×MM Dt Int×Nat×Nat // LI Fh s0 k b q l v i.1 i.2.1 i.2.2.1 i.2.2.2.1 i.2.2.2.2}) (ρ:Nat→Nat),l.length - j.1.1<l.length - i∧bk k ⟨env,hp,kz⟩ ⟨[(14,i64 j.1.1),(12,ops l),(13,i64 l.length),(4,.mp k),(5,.gs j.1.2.1 (eA (l.take j.1.1) v).length),(0,.yl y),(1,.ptr b 0),(2,.ptr q 0)],LG j.1.2.1 k b q (eA (l.take j.1.1) v) j.1.2.2.1 j.1.2.2.2.1 l v++Fh s0,j.1.2.2.2.2⟩ ρ:=by
   intro rW HR s' env hp G1 kz hs' hG hhp q1 q2 q3 hz hkz hkz2 hE
   have hcut:fH (LG rW k b q s' (MM.put M c x.dot 1) (MM.qv M c x.dot) l v) Fh s0 kz:=hG.cut (by simp [LG,q1,q2,q3,f1,f2,f3]) hz
   refine ⟨⟨(i+1,rW,MM.put M c x.dot 1,MM.qv M c x.dot,kz),⟨by show i+1≤_;omega,hmet,by rw [hs'];exact hcut,by show kz≤k+2+3*(i+1);omega,hkz2⟩⟩,id,by show l.length - (i+1)<_;omega,?_⟩
   dsimp only
   rw [hs',hhp]
   exact bk.own hcut (hy.nd s0) (by omega) hE (hG.keep hz)
  have base2:fH [(rn,.arr 51 29 s.length (uU s)),(k,.map (aN nS iv (MM.put M c x.dot 1)) (MM.qv M c x.dot)),(b,.box 22 [ops l]),(q,.box 34 v.cells)] Fh s0 kk:=by
   refine p3.H8 rfl ?_
   have:=p3.ok
   simp only [LG,Hp.ok,List.all_cons,List.all_nil,Ob.ok,Bool.and_true,Bool.and_eq_true] at this ⊢
   exact ⟨this.1,⟨this.2.1.1,xT _ _⟩,this.2.2⟩
  have base:fH [(k,.map (aN nS iv (MM.put M c x.dot 1)) (MM.qv M c x.dot)),(b,.box 22 [ops l]),(q,.box 34 v.cells)] Fh s0 kk:=base2.less (List.sublist_cons_self _ _)
  rcases c2:(dD (l.take i) x.dot).isSome with _ | _
  ·rw [c2] at hM hsn
   simp only [Bool.not_false,Bool.and_true,Bool.false_eq_true,if_false] at hM hsn
   rw [hM] at u3
   have b1:((0:Int) == 0)=true:=by decide
   rcases c1:v.aV x.dot with _ | _
   ·rw [c1] at hcov hsn
    simp only [Bool.not_false,if_true] at hsn
    refine SW.seq (SW.seq ?_)
    (have fx:=(And.intro (f1) (And.intro (f2) (And.intro (f3) (And.intro (e1) (And.intro (e2) (And.intro (e3) (And.intro (z0) (And.intro (z1) (And.intro (z2) (And.intro (z3) (And.intro (y0) (And.intro (y1) (And.intro (y2) (And.intro (y3) (And.intro (y4) (And.intro (m3) (And.intro (m4) (And.intro (m5) (And.intro (u1) (And.intro (u2) (And.intro (u3) (And.intro (b1) (lF x.dot x.dot)))))))))))))))))))))));refine SW.au [0,1,2,4,5,7,8,10,12,13,14,15,36,46,47,48,49,59] mixed ?_;(repeat (first | refine RW.ro fx (h:= ?_) | refine RW.skip (h:= ?_) | refine RW.op fx (h:= ?_) | refine RW.aL fx (h:= ?_) | refine RW.aj (h:= ?_) | refine dZ rfl rfl (h:= ?_) | (refine RW.aG (h:= ?_);(first | refine ai.mk fx (hc:=hcov _) (h:= ?_)))));refine RW.nil ⟨aD (by kernel_rfl),aa.mk (h:= ?_)⟩)
    refine SW.aC rfl ?_
    have d1:s.length+ [x].length≤9223372036854775807:=by simp;omega
    have hd:bL (Fh s0) rn=Fh s0:=ow (p3.no rn (by simp [LG]))
    (have fx:=(And.intro (f1) (And.intro (f2) (And.intro (f3) (And.intro (e1) (And.intro (e2) (And.intro (e3) (And.intro (z0) (And.intro (z1) (And.intro (z2) (And.intro (z3) (And.intro (y0) (And.intro (y1) (And.intro (y2) (And.intro (y3) (And.intro (y4) (And.intro (w0) (And.intro (w1) (And.intro (w2) (And.intro (w3) (And.intro (w4) (And.intro (w5) (And.intro (g2) (And.intro (g3) (And.intro (g4) (hd)))))))))))))))))))))))));refine SW.au [0,1,2,4,5,7,8,10,12,13,14,15,36,46,47,48,49,59] mixed ?_;(repeat (first | refine RW.ro fx (h:= ?_) | refine RW.skip (h:= ?_) | refine RW.op fx (h:= ?_) | refine RW.aL fx (h:= ?_) | refine RW.aj (h:= ?_) | refine dZ rfl rfl (h:= ?_) | (refine RW.aG (h:= ?_);(first | refine ai.mk fx (hc:=hcov _) (h:= ?_)))));refine RW.nil ⟨aD (by kernel_rfl),aa.mk (h:= ?_)⟩)
    (have fx:=(And.intro (f1) (And.intro (f2) (And.intro (f3) (And.intro (e1) (And.intro (e2) (And.intro (e3) (And.intro (z0) (And.intro (z1) (And.intro (z2) (And.intro (z3) (And.intro (y0) (And.intro (y1) (And.intro (y2) (And.intro (y3) (And.intro (y4) (And.intro (w0) (And.intro (w1) (And.intro (w2) (And.intro (w3) (And.intro (w4) (And.intro (w5) (And.intro (m3) (And.intro (m4) (And.intro (m5) (And.intro (u1) (And.intro (u2) (And.intro (u4) (lF x.dot x.dot))))))))))))))))))))))))))));refine SW.au [0,1,2,4,5,7,8,10,12,13,14,15,36,46,47,48,49,59] mixed ?_;(repeat (first | refine RW.ro fx (h:= ?_) | refine RW.skip (h:= ?_) | refine RW.op fx (h:= ?_) | refine RW.aL fx (h:= ?_) | refine RW.aj (h:= ?_) | refine dZ rfl rfl (h:= ?_) | (refine RW.aG (h:= ?_);(first | refine ai.mk fx (hc:=hcov _) (h:= ?_)))));refine RW.nil ⟨aD (by kernel_rfl),aa.mk (h:= ?_)⟩)
    (refine SW.au [0,1,2,4,5,7,8,10,12,13,14,15,36,46,47,48,49,59] mixed ?_;(repeat (first | refine RW.ro (t2) (h:= ?_) | refine RW.skip (h:= ?_) | refine RW.op (t2) (h:= ?_) | refine RW.aL (t2) (h:= ?_) | refine RW.aj (h:= ?_) | refine dZ rfl rfl (h:= ?_) | (refine RW.aG (h:= ?_);(first | refine ai.mk (t2) (hc:=hcov _) (h:= ?_)))));refine RW.nil ⟨aD (by kernel_rfl),aa.mk (h:= ?_)⟩)
    refine goOn (kk+2) kk (s++[x]) _ _ [(kk+2,.arr 51 29 (s++[x]).length (uU (s++[x]))),(kk+1,.box 105 (nS x.dot)),(kk,.box 51 x.cells),(k,.map (aN nS iv (MM.put M c x.dot 1)) (MM.qv M c x.dot)),(b,.box 22 [ops l]),(q,.box 34 v.cells)] (kk+3) hsn (fH.new (fH.new (fH.new base (Nat.le_refl _) (Nat.lt_succ_self _) (ah.an _ _)) (Nat.le_refl _) (Nat.lt_succ_self _) rfl) (Nat.le_refl _) (Nat.lt_succ_self _) (SV.cm _)) (by simp [uU]) (by omega) (by omega) (by omega) ?_ (by omega) (by omega) ?_
    ·intro z hz
     simp only [LG,List.mem_cons,List.not_mem_nil,or_false] at hz ⊢
     rcases hz with rfl | rfl | rfl | rfl <;> simp
    ·simp [bf,List.lookup,SV.aP,SV.aM,SV.ok,SV.aF];omega
   ·rw [c1] at hcov hsn
    simp only [Bool.not_true,Bool.false_eq_true,if_false] at hsn
    refine SW.seq (SW.seq ?_)
    (have fx:=(And.intro (f1) (And.intro (f2) (And.intro (f3) (And.intro (e1) (And.intro (e2) (And.intro (e3) (And.intro (z0) (And.intro (z1) (And.intro (z2) (And.intro (z3) (And.intro (y0) (And.intro (y1) (And.intro (y2) (And.intro (y3) (And.intro (y4) (And.intro (m3) (And.intro (m4) (And.intro (m5) (And.intro (u1) (And.intro (u2) (And.intro (u3) (And.intro (b1) (lF x.dot x.dot)))))))))))))))))))))));refine SW.au [0,1,2,4,5,7,8,10,12,13,14,15,36,46,47,48,49,59] mixed ?_;(repeat (first | refine RW.ro fx (h:= ?_) | refine RW.skip (h:= ?_) | refine RW.op fx (h:= ?_) | refine RW.aL fx (h:= ?_) | refine RW.aj (h:= ?_) | refine dZ rfl rfl (h:= ?_) | (refine RW.aG (h:= ?_);(first | refine ai.mk fx (hc:=hcov _) (h:= ?_)))));refine RW.nil ⟨aD (by kernel_rfl),aa.mk (h:= ?_)⟩)
    refine SW.ay rfl (SW.skip ?_)
    (have fx:=(And.intro (f1) (And.intro (f2) (And.intro (f3) (And.intro (e1) (And.intro (e2) (And.intro (e3) (And.intro (z0) (And.intro (z1) (And.intro (z2) (And.intro (z3) (And.intro (y0) (And.intro (y1) (And.intro (y2) (And.intro (y3) (And.intro (y4) (And.intro (w0) (And.intro (w1) (And.intro (w2) (And.intro (w3) (And.intro (w4) (And.intro (w5) (And.intro (m3) (And.intro (m4) (And.intro (m5) (And.intro (u1) (And.intro (u2) (And.intro (u4) (lF x.dot x.dot))))))))))))))))))))))))))));refine SW.au [0,1,2,4,5,7,8,10,12,13,14,15,36,46,47,48,49,59] mixed ?_;(repeat (first | refine RW.ro fx (h:= ?_) | refine RW.skip (h:= ?_) | refine RW.op fx (h:= ?_) | refine RW.aL fx (h:= ?_) | refine RW.aj (h:= ?_) | refine dZ rfl rfl (h:= ?_) | (refine RW.aG (h:= ?_);(first | refine ai.mk fx (hc:=hcov _) (h:= ?_)))));refine RW.nil ⟨aD (by kernel_rfl),aa.mk (h:= ?_)⟩)
    (refine SW.au [0,1,2,4,5,7,8,10,12,13,14,15,36,46,47,48,49,59] mixed ?_;(repeat (first | refine RW.ro (t2) (h:= ?_) | refine RW.skip (h:= ?_) | refine RW.op (t2) (h:= ?_) | refine RW.aL (t2) (h:= ?_) | refine RW.aj (h:= ?_) | refine dZ rfl rfl (h:= ?_) | (refine RW.aG (h:= ?_);(first | refine ai.mk (t2) (hc:=hcov _) (h:= ?_)))));refine RW.nil ⟨aD (by kernel_rfl),aa.mk (h:= ?_)⟩)
    refine goOn rn kk s _ _ [(kk+1,.box 105 (nS x.dot)),(kk,.box 51 x.cells),(rn,.arr 51 29 s.length (uU s)),(k,.map (aN nS iv (MM.put M c x.dot 1)) (MM.qv M c x.dot)),(b,.box 22 [ops l]),(q,.box 34 v.cells)] (kk+2) hsn (fH.new (fH.new base2 (Nat.le_refl _) (Nat.lt_succ_self _) (ah.an _ _)) (Nat.le_refl _) (Nat.lt_succ_self _) rfl) rfl r1 r2 r3 ?_ (by omega) (by omega) ?_
    ·intro z hz
     simp only [LG,List.mem_cons,List.not_mem_nil,or_false] at hz ⊢
     rcases hz with rfl | rfl | rfl | rfl <;> simp
    ·simp [bf,List.lookup,SV.aP,SV.aM,SV.ok,SV.aF];omega
  ·rw [c2] at hM hsn
   simp only [Bool.not_true,Bool.and_false,Bool.false_eq_true,if_false,if_true] at hM hsn
   rw [hM] at u3
   have b1:((1:Int) == 0)=false:=by decide
   refine SW.seq (SW.seq ?_)
   (have fx:=(And.intro (f1) (And.intro (f2) (And.intro (f3) (And.intro (e1) (And.intro (e2) (And.intro (e3) (And.intro (z0) (And.intro (z1) (And.intro (z2) (And.intro (z3) (And.intro (y0) (And.intro (y1) (And.intro (y2) (And.intro (y3) (And.intro (y4) (And.intro (m3) (And.intro (m4) (And.intro (m5) (And.intro (u1) (And.intro (u2) (And.intro (u3) (And.intro (b1) (lF x.dot x.dot)))))))))))))))))))))));refine SW.au [0,1,2,4,5,7,8,10,12,13,14,15,36,46,47,48,49,59] mixed ?_;(repeat (first | refine RW.ro fx (h:= ?_) | refine RW.skip (h:= ?_) | refine RW.op fx (h:= ?_) | refine RW.aL fx (h:= ?_) | refine RW.aj (h:= ?_) | refine dZ rfl rfl (h:= ?_)));refine RW.nil ⟨aD (by kernel_rfl),aa.mk (h:= ?_)⟩)
   refine SW.ay rfl (SW.skip ?_)
   (have fx:=(And.intro (f1) (And.intro (f2) (And.intro (f3) (And.intro (e1) (And.intro (e2) (And.intro (e3) (And.intro (z0) (And.intro (z1) (And.intro (z2) (And.intro (z3) (And.intro (y0) (And.intro (y1) (And.intro (y2) (And.intro (y3) (And.intro (y4) (And.intro (w0) (And.intro (w1) (And.intro (w2) (And.intro (w3) (And.intro (w4) (And.intro (w5) (And.intro (m3) (And.intro (m4) (And.intro (m5) (And.intro (u1) (And.intro (u2) (And.intro (u4) (lF x.dot x.dot))))))))))))))))))))))))))));refine SW.au [0,1,2,4,5,7,8,10,12,13,14,15,36,46,47,48,49,59] mixed ?_;(repeat (first | refine RW.ro fx (h:= ?_) | refine RW.skip (h:= ?_) | refine RW.op fx (h:= ?_) | refine RW.aL fx (h:= ?_) | refine RW.aj (h:= ?_) | refine dZ rfl rfl (h:= ?_)));refine RW.nil ⟨aD (by kernel_rfl),aa.mk (h:= ?_)⟩)
   (refine SW.au [0,1,2,4,5,7,8,10,12,13,14,15,36,46,47,48,49,59] mixed ?_;(repeat (first | refine RW.ro (t2) (h:= ?_) | refine RW.skip (h:= ?_) | refine RW.op (t2) (h:= ?_) | refine RW.aL (t2) (h:= ?_) | refine RW.aj (h:= ?_) | refine dZ rfl rfl (h:= ?_)));refine RW.nil ⟨aD (by kernel_rfl),aa.mk (h:= ?_)⟩)
   refine goOn rn kk s _ _ [(kk+1,.box 105 (nS x.dot)),(kk,.box 51 x.cells),(rn,.arr 51 29 s.length (uU s)),(k,.map (aN nS iv (MM.put M c x.dot 1)) (MM.qv M c x.dot)),(b,.box 22 [ops l]),(q,.box 34 v.cells)] (kk+2) hsn (fH.new (fH.new base2 (Nat.le_refl _) (Nat.lt_succ_self _) (ah.an _ _)) (Nat.le_refl _) (Nat.lt_succ_self _) rfl) rfl r1 r2 r3 ?_ (by omega) (by omega) ?_
   ·intro z hz
    simp only [LG,List.mem_cons,List.not_mem_nil,or_false] at hz ⊢
    rcases hz with rfl | rfl | rfl | rfl <;> simp
   ·simp [bf,List.lookup,SV.aP,SV.aM,SV.ok,SV.aF];omega
 ·have h1:decide ((l.length:Int)<l.length)=false:=by simp
  have hil:i=l.length:=by omega
  rw [hil,List.take_length] at p3 ⊢
  have hsu:=q_ l v
  have gi:=ox l v
  have hsm:∀ x,x∈eA l v→x.jf∧x.cl.length≤1048576:=fun x hx=>⟨(FL x (oy hx)).1,(FL x (oy hx)).2.1⟩
  generalize eA l v=s at hsu gi hsm p3 hy ⊢
  have hsort:=s_ rn s hsu (by omega)
  have hLm:∀ x,x∈aA s→x.jf∧x.cl.length≤1048576:=fun x hx=>hsm x ((aT s).mem_iff.1 hx)
  have hLl:(aA s).length=s.length:=(aT s).length_eq
  rw [← hLl] at hsort
  generalize hL:aA s=L at hsort hLm hLl hy ⊢
  have hlen2:s.length=L.length:=hLl.symm
  simp only [LG] at p3
  rw [hlen2] at p3 ⊢
  refine SW.seq ?_
  (refine SW.au [0,1,2,4,5,7,8,10,12,13,14,15,36,46,47,48,49,59] mixed ?_;(repeat (first | refine RW.ro (h1) (h:= ?_) | refine RW.skip (h:= ?_) | refine RW.op (h1) (h:= ?_) | refine RW.aL (h1) (h:= ?_) | refine RW.aj (h:= ?_) | refine dZ rfl rfl (h:= ?_)));refine RW.nil ⟨aD (by kernel_rfl),aa.mk (h:= ?_)⟩)
  refine SW.seq (SW.ay rfl (SW.exit ?_))
  refine SW.seq ?_
  (have fx:=(And.intro (e1) (And.intro (e2) (e3)));refine SW.au [0,1,2,4,5,7,8,10,12,13,14,15,36,46,47,48,49,59] mixed ?_;(repeat (first | refine RW.ro fx (h:= ?_) | refine RW.skip (h:= ?_) | refine RW.op fx (h:= ?_) | refine RW.aL fx (h:= ?_) | refine RW.aj (h:= ?_) | refine dZ rfl rfl (h:= ?_) | (refine RW.aG (h:= ?_);(first | refine ai.mk fx (hs:=HSub.cons (by simp [af]) (HSub.nil _)) (hc:=hsort _) (h:= ?_)))));refine RW.nil ⟨aD (by kernel_rfl),aa.mk (h:= ?_)⟩)
  refine SW.freeze rn (L.flatMap ah.ds) (by rw [af,if_pos rfl]) rfl ?_
  have hd:bL (Fh s0) rn=Fh s0:=ow (p3.no rn (by simp))
  simp only [mL,SV.kW,List.map_cons,List.map_nil,if_true,if_false,reduceIte,bL,Nat.reduceEqDiff,f1,f2,f3,e1,e2,e3,hd]
  refine SW.seq ?_
  (refine SW.au [0,1,2,4,5,7,8,10,12,13,14,15,36,46,47,48,49,59] mixed ?_;(repeat (first | refine RW.ro U (h:= ?_) | refine RW.skip (h:= ?_) | refine RW.op U (h:= ?_) | refine RW.aL U (h:= ?_) | refine RW.aj (h:= ?_) | refine dZ rfl rfl (h:= ?_) | (refine RW.aG (h:= ?_);(first | refine ai.mk U (hs:=HSub.cons (by simp [af]) (HSub.nil _)) (hc:=hsort _) (h:= ?_)))));refine RW.nil ⟨aD (by kernel_rfl),aa.mk (h:= ?_)⟩)
  refine SW.block ?_
  have base:fH [(b,Ob.box 22 [ops l]),(q,.box 34 v.cells)] Fh s0 kk:=p3.less ((List.sublist_cons_self _ _).trans (List.sublist_cons_self _ _))
  have fin:∀ (s':σ) (xs:List ah),ig Step s0 xs s'→xs <+: L→(go s'=true→xs=L)→fH [(b,Ob.box 22 [ops l]),(q,.box 34 v.cells)] Fh s' (k+(2+3*l.length+L.length*(1+ej)))→
    Go.Sl.Fin k (2+3*l.length+L.length*(1+ej)) [] (fun r F=>r= .cW []∧∃ (xs:List ah) (s':σ),ig Step s0 xs s'∧xs <+: L∧(go s'=true→xs=L)∧(lk (Fh s') b=none∧lk (Fh s') q=none)∧F=(b,.box 22 [ops l])::(q,.box 34 v.cells)::Fh s') ⟨[],[(b,Ob.box 22 [ops l]),(q,.box 34 v.cells)]++Fh s',k+(2+3*l.length+L.length*(1+ej))⟩:=by
   intro s' xs a1 a2 a3 hc
   exact End.mk ([(b,Ob.box 22 [ops l]),(q,.box 34 v.cells)]++Fh s') (h3:=fun _ _ h=>h) (h4:=⟨rfl,xs,s',a1,a2,a3,⟨hc.no b (by simp),hc.no q (by simp)⟩,rfl⟩) (h6:=hc.Hj) (h7:=Nat.le_refl _)
  have wk:∀ (s':σ) (env:List (Nat×SV)) (G1:Hp) (kz:Nat),fH G1 Fh s' kz→(∀ z,z∈[(b,Ob.box 22 [ops l]),(q,.box 34 v.cells)]→z∈G1)→kz≤k+(2+3*l.length+L.length*(1+ej))→
    fH [(b,Ob.box 22 [ops l]),(q,.box 34 v.cells)] Fh s' (k+(2+3*l.length+L.length*(1+ej)))∧bk k ⟨env,G1++Fh s',kz⟩ ⟨[],[(b,Ob.box 22 [ops l]),(q,.box 34 v.cells)]++Fh s',k+(2+3*l.length+L.length*(1+ej))⟩ id:=by
   intro s' env G1 kz a4 a5 a6
   have hc:=(a4.cut (G:=[(b,Ob.box 22 [ops l]),(q,.box 34 v.cells)]) (by simp [tX]) a5).mono a6
   exact ⟨hc,bk.own hc (hy.nd s') (Nat.le_add_right _ _) trivial (a4.keep a5)⟩
  refine SW.loop (α:={i:Nat×σ×Nat // YI Fh Step go s0 k b q ej l v L i.1 i.2.1 i.2.2})
   (fun i=>⟨[(48,i64 i.1.1),(46,ops L),(47,i64 L.length),(0,.yl y)],[(b,Ob.box 22 [ops l]),(q,.box 34 v.cells)]++Fh i.1.2.1,i.1.2.2⟩)
   (fun i=>L.length - i.1.1) ⟨(0,s0,kk),⟨Nat.zero_le _,.nil,uk,base,by show kk≤_;omega,by show k≤kk;omega⟩⟩ id ?_ ?_
  ·refine bk.own base (hy.nd s0) (by show k≤kk;omega) (by simp [bf,List.lookup,SV.aP,SV.ok,SV.aF];omega) (fun n ob hn=> ?_)
   have mq:fH [(k,.map (aN nS iv M) c),(b,Ob.box 22 [ops l]),(q,.box 34 v.cells)] Fh s0 kk:=p3.less (List.sublist_cons_self _ _)
   exact mq.keep (by intro z hz;exact List.mem_cons_of_mem _ hz) n ob hn
  rintro ⟨⟨j,s',kz⟩,hi'⟩
  have hi':YI Fh Step go s0 k b q ej l v L j s' kz:=hi'
  obtain ⟨c1,c2,c3,c4,c5,c6⟩:=hi'
  dsimp only at*
  have hmul:∀ n:Nat,n≤L.length→n*(1+ej)≤L.length*(1+ej):=fun n h=>Nat.mul_le_mul_right _ h
  simp only [List.cons_append,List.nil_append]
  by_cases hj:j<L.length
  ·have k1:decide ((j:Int)<L.length)=true:=by simp only [decide_eq_true_eq];omega
   obtain ⟨x,hx⟩:=bR hj
   have hxl:=hLm x (List.mem_of_getElem? hx)
   have k2:IntKind.i64.wrap ((j:Int)+1)=((j+1:Nat):Int):=wrap_i64 _ (by omega)
   have z2:=dY (show kz≠b by omega)
   have z3:=dY (show kz≠q by omega)
   have g2:List.lookup kz (Fh s')=none:=c4.out (Nat.le_refl _)
   have m1:bV x.cells 28 [.d x.lines]=x.cells:=rfl
   have hcl:=s9 x hxl.1 hxl.2
   have w2:=hmul (j+1) (by omega)
   rw [Nat.add_mul,Nat.one_mul] at w2
   refine SW.seq ?_
   (refine SW.au [0,1,2,4,5,7,8,10,12,13,14,15,36,46,47,48,49,59] mixed ?_;(repeat (first | refine RW.ro (k1) (h:= ?_) | refine RW.skip (h:= ?_) | refine RW.op (k1) (h:= ?_) | refine RW.aL (k1) (h:= ?_) | refine RW.aj (h:= ?_) | refine dZ rfl rfl (h:= ?_) | (refine RW.aG (h:= ?_);(first | refine ai.mk (k1) (hs:=HSub.cons (by simp [af]) (HSub.nil _)) (hc:=hsort _) (h:= ?_)))));refine RW.nil ⟨aD (by kernel_rfl),aa.mk (h:= ?_)⟩)
   refine SW.seq (SW.aC rfl (SW.skip ?_))
   refine SW.seq (SW.block (SW.seq ?_))
   (have fx:=(And.intro (f1) (And.intro (z2) (And.intro (z3) (And.intro (g2) (And.intro (eX hx) (bQ hx))))));refine SW.au [0,1,2,4,5,7,8,10,12,13,14,15,36,46,47,48,49,59] mixed ?_;(repeat (first | refine RW.ro fx (h:= ?_) | refine RW.skip (h:= ?_) | refine RW.op fx (h:= ?_) | refine RW.aL fx (h:= ?_) | refine RW.aj (h:= ?_) | refine dZ rfl rfl (h:= ?_) | (refine RW.aG (h:= ?_);(first | refine ai.mk fx (hs:=HSub.cons (by simp [af]) (HSub.nil _)) (hc:=hsort _) (h:= ?_)))));refine RW.nil ⟨aD (by kernel_rfl),aa.mk (h:= ?_)⟩)
   refine SW.seq ?_
   (have fx:=(And.intro (f1) (And.intro (z2) (And.intro (z3) (And.intro (g2) (m1)))));refine SW.au [0,1,2,4,5,7,8,10,12,13,14,15,36,46,47,48,49,59] mixed ?_;(repeat (first | refine RW.ro fx (h:= ?_) | refine RW.skip (h:= ?_) | refine RW.op fx (h:= ?_) | refine RW.aL fx (h:= ?_) | refine RW.aj (h:= ?_) | refine dZ rfl rfl (h:= ?_) | (refine RW.aG (h:= ?_);(first | refine ai.mk fx (hc:=hcl _) (h:= ?_)))));refine RW.nil ⟨aD (by kernel_rfl),aa.mk (h:= ?_)⟩)
   have hbox:fH [(kz,.box 51 x.cells),(b,Ob.box 22 [ops l]),(q,.box 34 v.cells)] Fh s' (kz+1):=fH.new c4 (Nat.le_refl _) (Nat.lt_succ_self _) (ah.an _ _)
   have hin:∀ z,z∈[(b,Ob.box 22 [ops l]),(q,.box 34 v.cells)]→z∈[(kz,.box 51 x.cells),(b,Ob.box 22 [ops l]),(q,.box 34 v.cells)]:=fun z hz=>List.mem_cons_of_mem _ hz
   have e1:L.take (j+1)=L.take j++[x]:=eR hx
   refine SW.seq (SW.lp ?_)
   (repeat (first | refine aK.op (And.intro (f1) (And.intro (z2) (z3))) (h:= ?_) | refine aK.aL (And.intro (f1) (And.intro (z2) (z3))) (h:= ?_) | refine aK.skip (h:= ?_)))
   refine aK.FA (G:=[(kz,.box 51 x.cells),(b,Ob.box 22 [ops l]),(q,.box 34 v.cells)]) hy x [(10,.ptr kz 0),(48,i64 j),(46,ops L),(47,i64 L.length),(0,.yl y)] hbox c2 (by rw [List.length_take];omega) c3 (by omega) rfl rfl (fun bb=>by simp [bf,List.lookup,SV.aP,SV.ok,SV.aF];omega) ?_
   intro s2 hstep hO2 hon
   rw [← e1] at hon
   (repeat (first | refine aK.op U (h:= ?_) | refine aK.aL U (h:= ?_) | refine aK.skip (h:= ?_)))
   refine aK.nil ?_
   rcases hg:go s2 with _ | _
   ·obtain ⟨w1,w3⟩:=wk s2 [(59,.d (.bool !false)),(58,bl false),(10,.ptr kz 0),(48,i64 j),(46,ops L),(47,i64 L.length),(0,.yl y)] _ (kz+1+ej) hO2 hin (by omega)
    refine SW.aC rfl (SW.weak id w3 (SW.ret ?_))
    exact fin s2 (L.take (j+1)) hon (List.take_prefix _ _) (fun h=>by rw [hg] at h;cases h) w1
   ·refine SW.ay rfl (SW.skip ?_)
    (refine SW.au [0,1,2,4,5,7,8,10,12,13,14,15,36,46,47,48,49,59] mixed ?_;(repeat (first | refine RW.ro (k2) (h:= ?_) | refine RW.skip (h:= ?_) | refine RW.op (k2) (h:= ?_) | refine RW.aL (k2) (h:= ?_) | refine RW.aj (h:= ?_) | refine dZ rfl rfl (h:= ?_) | (refine RW.aG (h:= ?_);(first | refine ai.mk (k2) (hc:=hcl _) (h:= ?_)))));refine RW.nil ⟨aD (by kernel_rfl),aa.mk (h:= ?_)⟩)
    dsimp only
    have hc2:fH [(b,Ob.box 22 [ops l]),(q,.box 34 v.cells)] Fh s2 (kz+1+ej):=hO2.less (List.sublist_cons_self _ _)
    refine ⟨⟨(j+1,s2,kz+1+ej),⟨by show j+1≤_;omega,hon,hg,hc2,by show kz+1+ej≤_;rw [Nat.add_mul j 1 (1+ej),Nat.one_mul];omega,by show k≤kz+1+ej;omega⟩⟩,id,by show L.length - (j+1)<_;omega,?_⟩
    exact bk.own hc2 (hy.nd s2) (by omega) (by simp [bf,List.lookup,SV.aP,SV.ok,SV.aF];omega) (hO2.keep hin)
  ·have k1:decide ((j:Int)<L.length)=false:=by simp only [decide_eq_false_iff_not];omega
   refine SW.seq ?_
   (refine SW.au [0,1,2,4,5,7,8,10,12,13,14,15,36,46,47,48,49,59] mixed ?_;(repeat (first | refine RW.ro (k1) (h:= ?_) | refine RW.skip (h:= ?_) | refine RW.op (k1) (h:= ?_) | refine RW.aL (k1) (h:= ?_) | refine RW.aj (h:= ?_) | refine dZ rfl rfl (h:= ?_) | (refine RW.aG (h:= ?_);(first | refine ai.mk (k1) (hc:=hcl _) (h:= ?_)))));refine RW.nil ⟨aD (by kernel_rfl),aa.mk (h:= ?_)⟩)
   have hjl:j=L.length:=by omega
   rw [hjl,List.take_length] at c2
   obtain ⟨w1,w3⟩:=wk s' _ [(b,Ob.box 22 [ops l]),(q,.box 34 v.cells)] kz c4 (fun z hz=>hz) (by have:=hmul j c1;omega)
   refine SW.seq (SW.ay rfl (SW.weak id w3 (SW.exit ?_)))
   exact fin s' L c2 List.prefix_rfl (fun _=>rfl) w1
end Go.Proofs.YtnakpdoioammhaaGreatDoor
namespace Go.Proofs.YtnakpdoioammhaaGreatDoor
open Go.Sl Go.Proofs
section
attribute [local irreducible] SW RW bB SC ai aa
structure yW (y bx:Nat) where
 l:List ah
 rn:Nat
 h1:rn≠y
 h2:rn≠bx
def dJ (y bx N:Nat)(ts ps:List Nat)(ca cb:Code)(s:yW y bx):Hp:=
 [(y,.l5 N ts [.ptr bx 0] ps ca cb .ready none),(bx,.box 22 [.gs s.rn s.l.length]),(s.rn,.arr 51 29 s.l.length ((s.l.flatMap ah.ds).map .d))]
set_option maxHeartbeats 1000000 in
theorem o7 {y bx B:Nat}(Hs:y≠bx)(s0:yW y bx)(hB:s0.l.length+B<2097152){ca cb:Code}(hca:cK Tryz.prog 13 ca=some (.c7 [⟨some 5,.alloc 51 vZ,none⟩,⟨none,.store 29 (.t 5) (.t 7),none⟩] (kX 2) false))
    (hcb:cK Tryz.prog 13 cb=some (.block 1 (.c7 [⟨some 8,.load none (.t 2),none⟩,⟨some 9,.load (some 29) (.t 5),none⟩,⟨some 10,.nV 51 29 1 vZ [(0,29,.t 9)],none⟩,⟨some 11,.app 51 29 144 (.t 8) (.t 10),none⟩,⟨none,.store 1 (.t 2) (.t 11),none⟩] (kX 5) false))):
    jt Tryz.prog y (fun x:ah=> .agg x.cells) 2 (dJ y bx 13 [2] [7] ca cb) (fun s x s'=>s'.l=s.l++[x]) (fun _=>true) s0 B:=by
  refine ⟨fun s=>by simp [dJ,af],fun s x hx=> ?_,fun s xs x k hon hlt hok _=> ?_⟩
  · have f1:=dY Hs
    have f2:=dY s.h1
    have f3:=dY s.h2
    simp only [dJ,List.mem_cons,List.not_mem_nil,or_false] at hx
    rcases hx with rfl | rfl | rfl <;> simp [dJ,af,f1,f2,f3]
  · have hlen:s.l.length=s0.l.length+xs.length:=by
      clear hlt hok
      induction hon with
      | nil=>rfl
      | snoc _ h ih=>rw [h];simp [ih];omega
    obtain ⟨l,rn,h1,h2⟩:=s
    simp only at hlen
    simp only [dJ,Hp.ok,List.all_cons,List.all_nil,Ob.ok,SV.aF,SV.ok,SV.cm,Bool.and_true,Bool.and_eq_true,decide_eq_true_eq] at hok
    obtain ⟨⟨k1,_⟩,⟨k2,_⟩,k3⟩:=hok
    have f1:=dY Hs
    have f2:=dY h1
    have f3:=dY h2
    have g1:=dY (show k≠y by omega)
    have g2:=dY (show k≠bx by omega)
    have g3:=dY (show k≠rn by omega)
    have g4:=dY (show k+1≠k by omega)
    have g5:=dY (show k+1≠y by omega)
    have g6:=dY (show k+1≠bx by omega)
    have g7:=dY (show k+1≠rn by omega)
    have e1:(List.flatMap ah.ds l++x.ds).map SV.d=(List.flatMap ah.ds l).map SV.d++x.cells:=by simp [ah.qp]
    refine zX.here (fun n=>n == y || n == bx || n == rn) (zX.pV (cs:=[.ptr bx 0]) (H:=[(bx,.box 22 [.gs rn l.length]),(rn,.arr 51 29 l.length ((l.flatMap ah.ds).map .d))]) hca hcb rfl rfl rfl (by simp) k1 (by simp [af,bq,f1,f2]) (by simp [SV.aF,SV.ok]) (by simp [Hp.ok,Ob.ok,SV.aF,SV.ok,SV.cm];omega) (by simp [SV.aF,SV.ok];omega) ?_) ?_ (by simp [SV.aF,SV.ok]) (by simp [dJ,Hp.ok,Ob.ok,SV.aF,SV.ok,SV.cm]) ?_
    · skip
      show Go.Sl.SW _ _ _ _ ⟨[(7,.agg x.cells),(2,.ptr bx 0)],_,_⟩ _
      (have fx:=(And.intro (f1) (And.intro (f2) (And.intro (f3) (And.intro (g1) (And.intro (g2) (g3))))));refine SW.au [2,5,7] mixed ?_;(repeat (first | refine RW.ro fx (h:= ?_) | refine RW.skip (h:= ?_) | refine RW.op fx (h:= ?_) | refine RW.aL fx (h:= ?_) | refine RW.aj (h:= ?_) | refine dZ rfl rfl (h:= ?_)));refine RW.nil ⟨by kernel_rfl,aa.mk (h:= ?_)⟩)
      refine ⟨rfl,SW.block ?_⟩
      (have fx:=(And.intro (f1) (And.intro (f2) (And.intro (f3) (And.intro (g1) (And.intro (g2) (And.intro (g3) (And.intro (g4) (And.intro (g5) (And.intro (g6) (g7))))))))));refine SW.au [2,5,7] mixed ?_;(repeat (first | refine RW.ro fx (h:= ?_) | refine RW.skip (h:= ?_) | refine RW.op fx (h:= ?_) | refine RW.aL fx (h:= ?_) | refine RW.aj (h:= ?_) | refine dZ rfl rfl (h:= ?_)));refine RW.nil ⟨by kernel_rfl,aa.mk (h:= ?_)⟩)
      have e2:((l++[x]).flatMap ah.ds).map SV.d=(List.flatMap ah.ds l).map SV.d++x.ds.map SV.d:=by simp
      refine ⟨none,true,[(bx,.box 22 [.gs (k+1) (l++[x]).length]),(k+1,.arr 51 29 (l++[x]).length (((l++[x]).flatMap ah.ds).map .d))],⟨rfl,rfl⟩,?_,?_,by simp,⟨⟨l++[x],k+1,by omega,by omega⟩,rfl,rfl,rfl,?_,?_⟩⟩
      · refine HSub.cons ?_ (HSub.cons ?_ (HSub.nil _))
        · simp [af,f1,f2,f3,g1,g2,g3,g4,g5,g6,g7,bV]
        · rw [e2];simp [af]
      · simp [Hp.ok,Ob.ok,SV.aF,SV.ok,SV.cm,-List.flatMap_append,-List.map_append];omega
      · simp [dJ,Hp.ok,Ob.ok,SV.aF,SV.ok,SV.cm,-List.flatMap_append,-List.map_append];omega
      · intro n hn
        by_cases hy':n=y
        · exact .inl (by simp [dJ,af,hy'])
        · by_cases hbx:n=bx
          · exact .inl (by simp [dJ,af,hbx,f1])
          · refine .inr ?_
            have:n=k+1:=Classical.byContradiction fun hne=>hn (by simp [dJ,af,bq,hy',hbx,hne])
            omega
    · intro n hn
      simp only [Bool.or_eq_true,beq_iff_eq] at hn
      rcases hn with (rfl | rfl) | rfl <;> simp [dJ,af,f1,f2,f3]
    · rintro r F' ⟨s',hs',rfl,rfl,hok',hnm⟩ _ _
      obtain ⟨l',rW,h1',h2'⟩:=s'
      refine ⟨rfl,?_⟩
      simp [dJ,Hp.ok,Ob.ok,SV.aF,SV.ok,SV.cm]
      have hh:=hnm rW (by simp [dJ,af,h1',h2'])
      rcases hh with hh | ⟨hh1,hh2⟩
      · have:rW=rn:=by
          refine Classical.byContradiction fun hne=>hh ?_
          simp [dJ,af,bq,h1',h2',hne]
        simp [this]
      · simp [hh1];omega
end
section
attribute [local irreducible] SW RW bB SC ai aa
def tc (l:List ah)(v:ag):Hp:=[(0,.box 22 [ops l]),(1,.box 34 v.cells)]
def eD (l:List ah)(v:ag):List ah:=aA (eA l v)
theorem td (l:List ah)(v:ag):(eD l v).length≤l.length:=by unfold eD;rw [(aT _).length_eq];exact ox l v
theorem tf {y bx:Nat}{s0 s:yW y bx}{xs:List ah}(h:ig (fun (s:yW y bx) x s'=>s'.l=s.l++[x]) s0 xs s):s.l=s0.l++xs:=by
 induction h with
 | nil=>simp
 | snoc _ h ih=>rw [h,ih];simp
def mB (l:List ah):Prop:=l.length≤1048576∧∀ x,x∈l→x.jf∧x.cl.length≤1048576∧x.dot.wf
set_option maxHeartbeats 1000000 in
theorem rX {l:List ah}{v:ag}(hl:mB l):
  SB Tryz.prog slices_AppendSeq_Lapi_Op_api_Op.f [.d .aY,.fn (.func gossip_lacked_1.f) [] [.ptr 0 0,.ptr 1 0]] (tc l v) 2 0
   fun r F=>r=ops (eD l v)∧F=tc l v:=by
 refine slices_AppendSeq_Lapi_Op_api_Op.enter (by simp [SV.ok,SV.aF]) (by simp [tc,Hp.ok,Ob.ok,SV.aF,SV.ok,ag.an]) (by simp) ?_
 dsimp only [slices_AppendSeq_Lapi_Op_api_Op.s,Co.M,Co.G,Co.J,Co.H,Co.N,Co.F,Co.C,Co.Z,Co.B,Co.b8,Co.aJ,Co.b_,Co.i6,Co.z8,Co.cn]
 refine SW.kZ 0 51 29 rfl ?_
 simp only [tc]
 refine SW.seq ?_
 (refine SW.au [0,1,2,4,5,6,7] mixed ?_;(repeat (first | refine RW.ro U (h:= ?_) | refine RW.skip (h:= ?_) | refine RW.op U (h:= ?_) | refine RW.aL U (h:= ?_) | refine RW.aj (h:= ?_)));refine RW.nil ⟨by kernel_rfl,aa.mk (h:= ?_)⟩)
 refine SW.seq (SW.seq ?_)
 (refine SW.au [0,1,2,4,5,6,7] mixed ?_;(repeat (first | refine RW.ro U (h:= ?_) | refine RW.skip (h:= ?_) | refine RW.op U (h:= ?_) | refine RW.aL U (h:= ?_) | refine RW.aj (h:= ?_)));refine RW.nil ⟨by kernel_rfl,aa.mk (h:= ?_)⟩)
 refine SW.block (SW.qn (nk:=2+3*l.length+(eD l v).length*(1+2)) [2] [.ptr 3 0] rfl ⟨rfl,trivial⟩ fun ca cb hca hcb=> ?_)
 have hLl:=td l v
 have nR:=hl.1
 let s0:yW 4 3:=⟨[],2,by decide,by decide⟩
 have hy:=o7 (y:=4) (bx:=3) (B:=(eD l v).length) (by decide) s0 (by simp [s0];omega) hca hcb
 have hO:fH [(0,Ob.box 22 [ops l]),(1,.box 34 v.cells)] (dJ 4 3 13 [2] [7] ca cb) s0 5:=by
  refine ⟨by simp,fun n hn=> ?_,fun n hn=> ?_,by simp [Hp.ok,Ob.ok,SV.aF,SV.ok,ag.an],by simp [dJ,s0,Hp.ok,Ob.ok,SV.aF,SV.ok]⟩
  ·simp only [List.map_cons,List.map_nil,List.mem_cons,List.not_mem_nil,or_false] at hn;omega
  ·simp only [List.map_cons,List.map_nil,List.mem_cons,List.not_mem_nil,or_false] at hn
   rcases hn with rfl | rfl <;> simp [dJ,s0,af,bq]
 have hsb:=ri (y:=4) (b:=0) (q:=1) (k:=5) hl.1 hl.2 s0 hy rfl hO
 have hsubF:HSub ((0,.box 22 [ops l])::(1,.box 34 v.cells)::dJ 4 3 13 [2] [7] ca cb s0) ((4,.l5 13 [2] [.ptr 3 0] [7] ca cb .ready none)::[(3,.box 22 [.gs 2 0]),(2,.arr 51 29 0 []),(0,.box 22 [ops l]),(1,.box 34 v.cells)]):=by
  intro n ob hn
  match n with
  | 0 | 1 | 2 | 3 | 4=>simpa [dJ,s0,af] using hn
  | n+5=>simp [dJ,s0,af,bq] at hn
 have hsc:=(hsb.here (fun n=>decide (n<5)) (fun n hn=> ?_) (by simp [SV.aF,SV.ok]) (by simp [dJ,s0,Hp.ok,Ob.ok,SV.aF,SV.ok,ag.an]) ?_).frame hsubF
 ·refine hsc.mono ?_
  rintro r F' ⟨F1,⟨rfl,xs,s',hon,hpre,hall,⟨hn0,tY⟩,rfl⟩,rfl⟩
  have hl':=tf hon
  have hxs:=hall rfl
  obtain ⟨L,rn,pJ,rU⟩:=s'
  have hL:L=eD l v:=by rw [show eD l v=xs from hxs.symm];simpa [s0] using hl'
  have hn0:rn≠0:=fun e=>by simp [dJ,e,af] at hn0
  have tY:rn≠1:=fun e=>by simp [dJ,e,af] at tY
  rw [← hL]
  have hlk:=gO (ro:=false) (h:=(4,.l5 13 [2] [.ptr 3 0] [7] ca cb .ready none)::[(3,.box 22 [.gs 2 0]),(2,.arr 51 29 0 []),(0,.box 22 [ops l]),(1,.box 34 v.cells)]) (F:=(0,.box 22 [ops l])::(1,.box 34 v.cells)::dJ 4 3 13 [2] [7] ca cb s0) (F':=(0,.box 22 [ops l])::(1,.box 34 v.cells)::dJ 4 3 13 [2] [7] ca cb ⟨L,rn,pJ,rU⟩) hsubF (fun h=>by cases h)
  generalize bn false _ _ _=G at hlk
  have hG:∀ n ob,lk ((0,Ob.box 22 [ops l])::(1,.box 34 v.cells)::dJ 4 3 13 [2] [7] ca cb ⟨L,rn,pJ,rU⟩) n=some ob→lk G n=some ob:=fun n ob h=>by
   rw [hlk,eE (.inr (by rw [h];simp)),h]
  refine ⟨none,hG 4 _ (by simp [dJ,af,jT]),?_⟩
  refine SW.weak (fun n=>if n=2 then rn else n) (st1:=⟨[(2,.ptr 3 0)],[(3,.box 22 [.gs 2 L.length]),(2,.arr 51 29 L.length (uU L)),(0,.box 22 [ops l]),(1,.box 34 v.cells)],6⟩) ?_ ?_
  ·have q3:=hG 3 (.box 22 [.gs rn L.length]) (by simp [dJ,af])
   have q2:=hG rn (.arr 51 29 L.length ((L.flatMap ah.ds).map .d)) (by simp [dJ,af,hn0,tY,pJ,rU])
   have q0:=hG 0 (.box 22 [ops l]) (by simp [af])
   have q1:=hG 1 (.box 34 v.cells) (by simp [af])
   refine ⟨by show 2≤6;omega,fun n hn=>if_neg (by omega),?_,?_,?_⟩
   ·simp [bf,List.lookup,SV.aP,SV.ok]
   ·simp [vY,cU,Ob.aP,SV.aM,SV.aP,SV.dW,SV.cm,Ob.ok,SV.aF,SV.ok,q3,q2,q0,q1,pJ,ag.bN,ag.an]
   ·intro a ha b hb e
    simp only [List.map_cons,List.map_nil,List.mem_cons,List.not_mem_nil,or_false] at ha hb
    rcases ha with rfl | rfl | rfl | rfl <;> rcases hb with rfl | rfl | rfl | rfl <;> simp at e <;> first | rfl | omega
  ·refine SW.seq ?_
   (refine SW.au [0,1,2,4,5,6,7] mixed ?_;(repeat (first | refine RW.ro U (h:= ?_) | refine RW.skip (h:= ?_) | refine RW.op U (h:= ?_) | refine RW.aL U (h:= ?_) | refine RW.aj (h:= ?_)));refine RW.nil ⟨by kernel_rfl,aa.mk (h:= ?_)⟩)
   refine SW.freeze 2 (L.flatMap ah.ds) rfl rfl ?_
   simp only [mL,SV.kW,List.map_cons,List.map_nil,if_true,if_false,reduceIte,bL,Nat.reduceEqDiff]
   refine SW.ret ?_
   exact End.mk (tc l v) (h4:=⟨rfl,rfl⟩) (h6:=by simp [tc,Hp.ok,Ob.ok,SV.aF,SV.ok,SV.cm,ag.an])
 ·match n,hn with
  | 0,_ | 1,_ | 2,_ | 3,_ | 4,_=>simp [dJ,s0,af]
  | n +5,h=>
    have:n+5<5:=by simpa using h
    omega
 ·rintro r F' _ h1 h2
  refine ⟨SV.gP (fun n hn=> ?_) _ h1,Hp.gw (fun n hn=> ?_) h2⟩ <;> (simp at hn ⊢;omega)
end
section
attribute [local irreducible] SW RW bB SC ai aa
theorem Bk (l:List ah)(v:ag)(i:Nat)(h:i<2):lk (tc l v) i≠none:=by
 match i,h with
 | 0,_ | 1,_=>simp [tc,af]
abbrev Bl (b q:Nat)(l:List ah)(v:ag):Hp:=[(b,.box 22 [ops l]),(q,.box 34 v.cells)]
theorem rY {l:List ah}{v:ag}(hl:mB l)(b q:Nat)(tX:b≠q)(k:Nat):
  bB Tryz.prog slices_AppendSeq_Lapi_Op_api_Op.f [.d .aY,.fn (.func gossip_lacked_1.f) [] [.ptr b 0,.ptr q 0]] (Bl b q l v) k 0 (ops (eD l v)) (Bl b q l v):=by
 have h:=SB.oW [b,q] (rX (v:=v) hl) (by simp [tX]) (Bk l v) k
 simp only [tc,Hp.aP,Ob.aP,SV.aP,SV.aM,ag.bN,List.map_cons,List.map_nil] at h
 exact h
theorem vm {l:List ah}{v:ag}(hl:mB l):
  SB Tryz.prog slices_Collect_api_Op.f [.fn (.func gossip_lacked_1.f) [] [.ptr 0 0,.ptr 1 0]] (tc l v) 2 0 fun r F=>r=ops (eD l v)∧F=tc l v:=by
 refine slices_Collect_api_Op.enter (by simp [SV.ok,SV.aF]) (by simp [tc,Hp.ok,Ob.ok,SV.aF,SV.ok,ag.an]) (by simp) ?_
 dsimp only [slices_Collect_api_Op.s,Co.M,Co.G,Co.J,Co.H,Co.N,Co.F,Co.C,Co.Z,Co.B,Co.b8,Co.aJ,Co.b_,Co.i6,Co.z8,Co.cn]
 simp only [tc]
 (repeat (first | refine SW.seq ?_ | refine SW.block ?_ | (refine SW.au [0,2] mixed ?_;(repeat (first | refine RW.ro U (h:= ?_) | refine RW.skip (h:= ?_) | refine RW.op U (h:= ?_) | refine RW.aL U (h:= ?_) | refine RW.aj (h:= ?_) | (refine RW.aG (h:= ?_);(first | refine ai.mk U (hc:=rY (by first | assumption | omega) 0 1 (by decide) _) (h:= ?_)))));refine RW.nil ⟨by kernel_rfl,aa.mk (h:= ?_)⟩) | refine SW.skip ?_ | refine SW.exit ?_ | refine SW.ret ?_ | refine SW.aC rfl ?_ | refine SW.ay rfl ?_))
 exact End.mk (tc l v) (h4:=⟨rfl,rfl⟩) (h6:=by simp [tc,Hp.ok,Ob.ok,SV.aF,SV.ok,SV.cm,ag.an])
theorem o8 {l:List ah}{v:ag}(hl:mB l)(b q:Nat)(tX:b≠q)(k:Nat):
  bB Tryz.prog slices_Collect_api_Op.f [.fn (.func gossip_lacked_1.f) [] [.ptr b 0,.ptr q 0]] (Bl b q l v) k 0 (ops (eD l v)) (Bl b q l v):=by
 have h:=SB.oW [b,q] (vm (v:=v) hl) (by simp [tX]) (Bk l v) k
 simp only [tc,Hp.aP,Ob.aP,SV.aP,SV.aM,ag.bN,List.map_cons,List.map_nil] at h
 exact h
theorem yX (l:List ah)(v:ag):SB Tryz.prog gossip_lacked.f [ops l,.agg v.cells] [] 0 2 fun r F=>r= .fn (.func gossip_lacked_1.f) [] [.ptr 0 0,.ptr 1 0]∧F=tc l v:=by
 refine gossip_lacked.enter (by simp [SV.ok,SV.aF,SV.cm,ag.an]) (by simp [Hp.ok]) (by simp) ?_
 dsimp only [gossip_lacked.s,Co.M,Co.G,Co.J,Co.H,Co.N,Co.F,Co.C,Co.Z,Co.B,Co.b8,Co.aJ,Co.b_,Co.i6,Co.z8,Co.cn]
 (repeat (first | refine SW.seq ?_ | refine SW.block ?_ | (refine SW.au [0,1,2,3,4] mixed ?_;(repeat (first | refine RW.ro U (h:= ?_) | refine RW.skip (h:= ?_) | refine RW.op U (h:= ?_) | refine RW.aL U (h:= ?_) | refine RW.aj (h:= ?_)));refine RW.nil ⟨by kernel_rfl,aa.mk (h:= ?_)⟩) | refine SW.skip ?_ | refine SW.exit ?_ | refine SW.ret ?_ | refine SW.aC rfl ?_ | refine SW.ay rfl ?_))
 exact End.mk (tc l v) (h4:=⟨rfl,rfl⟩) (h5:=by simp [gI,SV.ok,SV.aF]) (h6:=by simp [tc,Hp.ok,Ob.ok,SV.aF,SV.ok,SV.cm,ag.an])
theorem oz (l:List ah)(v:ag)(k:Nat):bB Tryz.prog gossip_lacked.f [ops l,.agg v.cells] [] k 2 (.fn (.func gossip_lacked_1.f) [] [.ptr k 0,.ptr (k+1) 0]) (Bl k (k+1) l v):=by
 have h:=SB.new (yX l v) k
 simp only [tc,Hp.aP,Ob.aP,SV.aP,SV.aM,ag.bN,List.map_cons,List.map_nil] at h
 rw [show iA [] k 0=k by simp [iA],show iA [] k 1=k+1 by simp [iA];omega] at h
 exact h
theorem Bm {l:List ah}(v:ag)(hl:mB l):Go.Sl.Pure Tryz.prog gossip_Lacks.f [ops l,.agg v.cells] (ops (eD l v)):=by
 refine gossip_Lacks.enter (by first | rfl | simp [SV.ok,SV.aF]) (by first | rfl | simp [Hp.ok,Ob.ok,SV.ok,SV.aF,ag.an]) (by simp) ?_
 dsimp only [gossip_Lacks.s,Co.M,Co.G,Co.J,Co.H,Co.N,Co.F,Co.C,Co.Z,Co.B,Co.b8,Co.aJ,Co.b_,Co.i6,Co.z8,Co.cn]
 refine SW.seq ?_
 (refine SW.au [0,1,3,4] mixed ?_;(repeat (first | refine RW.ro U (h:= ?_) | refine RW.skip (h:= ?_) | refine RW.op U (h:= ?_) | refine RW.aL U (h:= ?_) | refine RW.aj (h:= ?_) | (refine RW.aG (h:= ?_);(first | refine ai.mk U (hc:=oz _ _ 1) (h:= ?_) | refine ai.mk U (hc:=o8 (by first | assumption | omega) 1 2 (by decide) _) (h:= ?_)))));refine RW.nil ⟨by kernel_rfl,aa.mk (h:= ?_)⟩)
 refine SW.seq ?_
 (refine SW.au [0,1,3,4] mixed ?_;(repeat (first | refine RW.ro U (h:= ?_) | refine RW.skip (h:= ?_) | refine RW.op U (h:= ?_) | refine RW.aL U (h:= ?_) | refine RW.aj (h:= ?_) | (refine RW.aG (h:= ?_);(first | refine ai.mk U (hc:=oz _ _ 1) (h:= ?_) | refine ai.mk U (hc:=o8 (by first | assumption | omega) 1 2 (by decide) _) (h:= ?_)))));refine RW.nil ⟨by kernel_rfl,aa.mk (h:= ?_)⟩)
 refine SW.ret ?_
 exact End.mk [] (h4:=⟨rfl,rfl⟩)
theorem vn {l:List ah}(v:ag)(hl:mB l)(k:Nat):bB Tryz.prog gossip_Lacks.f [ops l,.agg v.cells] [] k 0 (ops (eD l v)) []:=(Bm v hl).sc rfl k
end
end Go.Proofs.YtnakpdoioammhaaGreatDoor
