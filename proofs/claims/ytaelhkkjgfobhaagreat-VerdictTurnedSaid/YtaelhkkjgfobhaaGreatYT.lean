/-
 Verdicts: a history that is put in any order (plain).
-/
import Derived.Test.YtaelhkkjgfobhaaGreatRows
import Derived.SizedLaws
import Derived.Test.YtaelhkkjgfobhaaGreatSH
import Derived.Test.YtaelhkkjgfobhaaGreatSJ
import Derived.Test.YtaelhkkjgfobhaaGreatS7
set_option linter.unusedSectionVars false
set_option linter.unusedVariables false
set_option linter.unusedSimpArgs false
namespace Go.Proofs.YtaelhkkjgfobhaaGreat
open Go.Sl Go.Proofs
section
theorem En.zG {E:En}{o:ag}:E.may o=true↔o.dot.may=true/\o.dot.n=E.kn.get o.dot.r+1/\E.kn.above o.dep=true:=by
 unfold En.may ay.put
 by_cases h1:o.dot.may=false
 .rw[if_pos h1];simp[h1]
 .rw[if_neg h1]
  have h1':o.dot.may=true:=by simpa using h1
  by_cases h2:o.dot.n=E.kn.get o.dot.r+1
  .rw[if_neg (by simpa using h2)];simp[h1',h2]
  .rw[if_pos h2];simp[h2]
theorem En.Nl {E:En}{o:ag}(h:E.may o=true):(E.put o).kn=E.kn.set o.dot.r o.dot.n:=by
 obtain⟨h1,h2,_⟩:=En.zG.1 h;unfold En.put ay.put;rw[if_neg (by rw[h1];decide),if_neg (by simpa using h2)]
structure xB (l:List ag)(E:En)(left:List ag):Prop where
 perm:(E.l++left).Perm l
 Mn:∀ o a,o∈E.l->a∈l->a.before o=true->a∈E.l
 kn:E.kn=bu E.l
 K:E.l≠[]->E.K=dQ E.l
theorem xB.zero (l:List ag):xB l En.zero l:=⟨List.Perm.refl _,λ _ _ h=>absurd h (by simp[En.zero]),rfl,λ h=>absurd rfl h⟩
theorem Nn {left:List ag}{i:Nat}{o:ag}(hi:left[i]? =some o):left=left.take i++o::left.drop (i+1):=by
 have hl:=cU hi;have e:left[i]=o:=by
  rw[List.getElem?_eq_getElem hl] at hi;exact Option.some.inj hi
 rw[<- e,<- List.drop_eq_getElem_cons hl,List.take_append_drop]
theorem wU:∀ {l:List ag},l≠[]->∃ o,o∈l/\∀ a,a∈l->o.time<=a.time
 | [],h=>absurd rfl h
 | [x],_=>⟨x,by simp,λ a ha=>by rw[List.mem_singleton.1 ha];exact Nat.le_refl _⟩
 | x ::y::l,_=>by
  obtain⟨o,ho,hm⟩:=wU (l:=y::l) (by simp)
  by_cases h:x.time<=o.time
  .refine⟨x,by simp,λ a ha=> ?_⟩
   rcases List.mem_cons.1 ha with rfl|ha
   .exact Nat.le_refl _
   .exact Nat.le_trans h (hm a ha)
  .refine⟨o,List.mem_cons_of_mem _ ho,λ a ha=> ?_⟩
   rcases List.mem_cons.1 ha with rfl|ha
   .omega
   .exact hm a ha
section
variable {n:Int} {l:List ag} {E:En} {left:List ag} (h:xB l E left)
include h
theorem xB.sub {o:ag}(ho:o∈E.l):o∈l:=h.perm.mem_iff.1 (List.mem_append_left _ ho)
theorem xB.No {o:ag}(ho:o∈left):o∈l:=h.perm.mem_iff.1 (List.mem_append_right _ ho)
theorem xB.len:E.l.length+left.length=l.length:=by rw[<- h.perm.length_eq,List.length_append]
theorem xB.Qs (hw:∀ o,o∈l->o.dot.wf):E.kn.wf:=λ r hr=>by
 rw[h.kn];rcases p0 E.l hr with h0|⟨a,ha,e⟩
 .omega
 .have:=(hw a (h.sub ha)).2
  rw[e] at this;exact this
variable (hH:o8 n l)
include hH
theorem xB.nd:j8 (E.l++left):=hH.uniq.perm h.perm
theorem xB.part:Part E.l l:=⟨hH.uniq,(h.nd hH).sub (List.sublist_append_left _ _),λ o ho=>h.sub ho,h.Mn⟩
theorem xB.out {o:ag}(ho:o∈left):o∉E.l:=λ h2=>by
 have:=h.nd hH;unfold j8 at this;rw[List.map_append,List.nodup_append] at this;exact this.2.2 o.dot (List.mem_map.2 ⟨o,h2,rfl⟩) o.dot (List.mem_map.2 ⟨o,ho,rfl⟩) rfl
theorem xB.known {o:ag}(ho:o∈l)(hk:o.dot.n<=E.kn.get o.dot.r):o∈E.l:=by
 have h8:=hH.Ap ho;rw[h.kn] at hk;rcases p0 E.l h8.1 with h0|⟨a,ha,e⟩
 .omega
 .have hal:=h.sub ha
  have e1:a.dot.r=o.dot.r:=by rw[e]
  have e2:a.dot.n=(bu E.l).get o.dot.r:=by rw[e]
  by_cases heq:o.dot.n=a.dot.n
  .have:o.dot=a.dot:=by rw[e,<- e2,<- heq]
   rw[hH.uniq.inj ho hal this];exact ha
  .refine h.Mn a o ha ho ?_
   have own:=(hH.form a hal).own;unfold ag.before ay.aU;rw[hH.may ho,Bool.true_and,decide_eq_true_eq,<- e1];omega
theorem xB.put {i:Nat}{o:ag}(hi:left[i]? =some o)(hm:E.may o=true):xB l (E.put o) (left.take i++left.drop (i+1)):=by
 have hol:o∈left:=List.mem_of_getElem? hi;have ho:=h.No hol;obtain⟨m1,m2,m3⟩:=En.zG.1 hm;refine⟨?_,λ x a hx ha hb=> ?_,?_,λ _=>rfl⟩
 .show((E.l++[o])++(left.take i++left.drop (i+1))).Perm l
  refine List.Perm.trans ?_ h.perm;rw[List.append_assoc];refine List.Perm.append_left _ ?_
  conv=>rhs;rw[Nn hi]
  show(o::(left.take i++left.drop (i+1))).Perm (left.take i++o::left.drop (i+1));exact List.perm_middle.symm
 .have hx:x∈E.l++[o]:=hx
  show a∈E.l++[o];rcases List.mem_append.1 hx with hx|hx
  .exact List.mem_append_left _ (h.Mn x a hx ha hb)
  .rw[List.mem_singleton.1 hx] at hb
   refine List.mem_append_left _ (h.known hH ha ?_);unfold ag.before ay.aU at hb;rw[Bool.and_eq_true,decide_eq_true_eq] at hb;exact Nat.le_trans hb.2 (ay.ir.1 m3 _ (hH.Ap ha).1)
 .rw[En.Nl hm]
  show _=bu (E.l++[o]);rw[tZ,<- h.kn];unfold eU;rw[if_pos (hH.Ap ho).1,Nat.max_eq_right (by omega)]
theorem xB.next (hne:left≠[]):∃ (i:Nat) (o:ag),left[i]? =some o/\E.may o=true:=by
 obtain⟨o,ho,hmin⟩:=wU hne;obtain⟨i,hi⟩:=List.mem_iff_getElem?.1 ho;have hol:=h.No ho;have hdep:∀ d,o.dep.aU d=true->∃ a,a∈E.l/\a.dot=d:=λ d hd=>by
  obtain⟨a,ha,e⟩:=hH.there hol hd;have hb:a.before o=true:=by unfold ag.before;rw[e];exact hd
  have ht:=((hH.one o hol).uL a ha hb).1;rcases List.mem_append.1 (h.perm.mem_iff.2 ha) with h1|h1
  .exact⟨a,h1,e⟩
  .have:=hmin a h1
   omega
 have hge:∀ r,r<8->o.dep.get r<=E.kn.get r:=λ r hr=>by
  by_cases h0:o.dep.get r=0
  .omega
  .obtain⟨a,ha,e⟩:=hdep ⟨r,o.dep.get r⟩ (by
    simp only[ay.aU,Dt.may,Bool.and_eq_true,decide_eq_true_eq];exact⟨⟨hr,by omega⟩,by omega⟩)
   have e1:a.dot.r=r:=by rw[e]
   have e2:a.dot.n=o.dep.get r:=by rw[e]
   have:=pZ ha (by rw[e1];exact hr);rw[e1,e2,<- h.kn] at this;exact this
 have h8:=hH.Ap hol;refine⟨i,o,hi,En.zG.2 ⟨hH.may hol,?_,ay.ir.2 hge⟩⟩;have own:=(hH.form o hol).own;have h1:=hge _ h8.1
 by_cases h2:o.dot.n<=E.kn.get o.dot.r
 .exact absurd (h.known hH hol h2) (h.out hH ho)
 .omega
end
section
variable {n:Int} {l:List ag} {E:En} (h:xB l E []) (hH:o8 n l)
include h
theorem xB.II:E.l.Perm l:=by have:=h.perm;rwa [List.append_nil] at this
theorem xB.QU:E.kn=bu l:=by rw[h.kn];exact BR λ o=>h.II.mem_iff
include hH
theorem xB.tell {x:ag}(hx:x∈l):pN E x.dot= .dL [.d (.int .u8 (((dQ l).get x.dot:Nat):Int)),i64 0]:=by
 have hxE:=h.II.mem_iff.2 hx;have hd:x.dot∈qB E.l:=Dt.mem_set.2 (List.mem_map.2 ⟨x,hxE,rfl⟩);have hs:=tL (h.part hH) (st:=bu l) (λ o ho=> .inl (h.II.mem_iff.2 ho)) hd (yy.2 λ e he _=>wS hH (by
  rw[Dt.mem_set,List.mem_map] at he ⊢;obtain⟨a,ha,e⟩:=he;exact⟨a,h.sub ha,e⟩))
 unfold pN;rw[h.K (List.ne_nil_of_mem hxE),sC,if_pos (decide_eq_true hd),ej,ej,hs]
end
theorem E6 {len p j:Nat}(hp:p<len)(hj:j<len):∃ i,i<len/\(p+i) % len=j:=by
 by_cases h:p<=j
 .exact⟨j - p,by omega,by rw[show p+(j - p)=j by omega];exact Nat.mod_eq_of_lt hj⟩
 .exact⟨j+len - p,by omega,by rw[show p+(j+len - p)=j+len by omega,Nat.add_mod_right];exact Nat.mod_eq_of_lt hj⟩
end
section
attribute [local irreducible] SW RW aH SC aj ak js sG
set_option maxHeartbeats 4000000 in
theorem Np (E:En):SB Tryz.prog verdict_Engine_Known.f [.ptr 0 0] (eH 0 1 2 E) 3 0 λ r F=>r= .agg E.kn.cells/\F=eH 0 1 2 E:=by
 refine verdict_Engine_Known.enter (by simp[SV.ax,SV.ok]) (gq E (by decide)) (by simp) ?_;dsimp only[verdict_Engine_Known.s,Co.M,Co.J,Co.F,Co.z8,Co.K,Co.P,Co.W,Co.D,Co.A,Co.S];have cN:=sB 0 1 2 (by decide) E;have g2:=jg.g2 1 2 E.l.length E.kn;have gl:(2+8<=(jg 1 2 E.l.length E.kn).length)=True:=eq_true (by rw[jg.len];decide);refine SW.seq (SW.g0 dE Zm aa ?_);refine SW.seq (SW.seq (SW.g1 dE Zm aa cN ?_));refine SW.an rfl (SW.skip (SW.seq (SW.g0 dE Zm (Zq g2 gl) ?_)));refine SW.ret ?_;exact End.mk (eH 0 1 2 E) (h4:=⟨rfl,rfl⟩) (h6:=gq E (by decide))
theorem Nq (e r m:Nat)(hd:[e,r,m].Nodup)(E:En)(k:Nat):aH Tryz.prog verdict_Engine_Known.f [.ptr e 0] (eH e r m E) k 0 (.agg E.kn.cells) (eH e r m E):=by
 have:=SB.lR [e,r,m] (Np E) hd (λ i hi=>Bg E i hi) k;rw[qY] at this
 simpa[SV.aN,SV.aC,eu,ay.aq] using this
end
end Go.Proofs.YtaelhkkjgfobhaaGreat
namespace Go.Proofs.YtaelhkkjgfobhaaGreat
open Go.Sl Go.Proofs
attribute [local irreducible] SW RW aH SC aj ak js sG
abbrev bytes (l:List Nat):SV:= .d (.sl l.length (l.map λ (x:Nat)=>DV.int .u8 (x:Int)))
theorem KP {l:List Nat}{i x:Nat}(h:l[i]? =some x):(List.map SV.d (l.map λ (x:Nat)=>DV.int .u8 (x:Int)))[i]? =some (u8 x):=by simp[h]
theorem IJ (l:List Nat):(List.map SV.d (l.map λ (x:Nat)=>DV.int .u8 (x:Int))).length=l.length:=by simp
theorem Nr (l:List ag)(j:Nat):List.map SV.d (List.take (j*29) (l.flatMap ag.ds))++List.map SV.d (List.take ((l.length - (j+1))*29) (List.drop ((j+1)*29) (l.flatMap ag.ds)))=qt (l.take j++l.drop (j+1)):=by
 unfold qt;rw[ED,tH,List.flatMap_append,List.map_append,List.take_of_length_le (l:=(l.drop (j+1)).flatMap ag.ds)];rw[fV,List.length_drop];exact Nat.le_refl _
theorem KQ {l:List ag}{j:Nat}(h:j<l.length):(l.take j++l.drop (j+1)).length=j+(l.length - (j+1)):=by
 rw[List.length_append,List.length_take,List.length_drop,Nat.min_eq_left (by omega)]
structure P7 (l:List ag)(k p i:Nat)(d:Bool)(E E':En)(left L':List ag):Prop where
 le:i<=left.length
 tn:xB l E' L'
 QV:d=true->k+1+L'.length=l.length
 not:d=false->E=E'/\left=L'/\∀ i',i'<i->∀ o,left[(p+i') % left.length]? =some o->E.may o=false
set_option maxHeartbeats 16000000 in
theorem zI (l :List ag)(n:Int)(b:List Nat)(hb0:∀ x,x∈b->x<256)(yT:b.length<=9223372036854775807)(hd:∀ o,o∈l->o.bn<256/\o.kind<256/\o.mC/\o.dot.wf/\o.cl.length<=140737488351232)(hlen:l.length<=9223372036854775807):
    SB Tryz.prog law19_VerdictTurned.f [ops l,.d (.int .i64 n),bytes b] [] 0 0 (λ r F=>r=bl true):=by
  refine law19_VerdictTurned.enter (by first|rfl|simp[SV.ok,SV.ax]) (by first|rfl|simp[Hp.ok,Ob.ok,SV.ok,SV.ax,ay.ah]) (by simp) ?_;dsimp only[law19_VerdictTurned.s,Co.M,Co.G,Co.J,Co.H,Co.F,Co.C,Co.Z,Co.B,Co.b8];have hG':=Ay l (λ o ho=>⟨_,_,(hd o ho).2.2.1.eq,(hd o ho).2.2.1.le⟩) hlen;refine SW.seq (SW.g0 ae Zm aa ?_);refine SW.seq (SW.seq ?_);rcases hG:jk l with _|_
  rotate_left
  . rw[hG] at hG'
    refine SW.g2 ae Zm aa hG' bY ?_;refine SW.ai rfl (SW.seq (SW.g2 ae Zm aa hG' bY ?_));refine SW.ret ?_;exact End.mk [] (h4:=rfl)
  rw[hG] at hG';have zD:=s_ hG;have hd':=ud hG (λ o ho=>⟨(hd o ho).2.2.1,(hd o ho).2.2.2.2⟩);have hrow:lN l:=λ o ho=>⟨(hd o ho).2.1,(hd o ho).2.2.1,hd' o ho⟩
  have cH:=wO l hlen n (λ o ho=>⟨(hd o ho).2.2.2.1,(hd o ho).2.1,(hd o ho).2.2.1⟩);rcases h40:decide ((l.length:Int)>40) with _|_
  rotate_left
  . skip
    refine SW.g2 ae Zm h40 hG' bY ?_;refine SW.ai rfl (SW.seq (SW.g2 ae Zm aa hG' bY ?_));refine SW.ret ?_;exact End.mk [] (h4:=rfl)
  obtain⟨z,hz⟩:∃ z,mR n l=z:=⟨_,rfl⟩;rw[hz] at cH;rcases hz0:(z != 0) with _|_
  rotate_left
  . skip
    refine SW.g4 ae Zm (Zq h40 hz0) hG' cH bY trivial ?_;refine SW.ai rfl (SW.seq (SW.g4 ae Zm aa hG' cH bY trivial ?_));refine SW.ret ?_;exact End.mk [] (h4:=rfl)
  rcases h200:decide ((b.length:Int)>200) with _|_
  rotate_left
  . skip
    refine SW.g4 ae Zm (Zq h40 (Zq hz0 h200)) hG' cH bY trivial ?_;refine SW.ai rfl (SW.seq (SW.g4 ae Zm aa hG' cH bY trivial ?_));refine SW.ret ?_;exact End.mk [] (h4:=rfl)
  refine SW.g2 ae Zm (Zq h40 (Zq hz0 h200)) hG' cH ?_;refine SW.an rfl (SW.skip ?_);have hH:o8 n l:=qR.1 (by rw[hz];simpa using hz0);have l40:l.length<=40:=by simp only[decide_eq_false_iff_not] at h40;omega
  have hdw:∀ o,o∈l->o.dot.wf:=λ o ho=>(hd o ho).2.2.2.1
  refine SW.seq (SW.g1 ae Zm aa (DC 0) ?_);refine SW.seq (SW.seq (SW.g0 ae Zm aa ?_));refine SW.an rfl (SW.skip (SW.seq (SW.g0 ae Zm aa ?_)));refine SW.weak (λ n=>if n=0 then 1 else if n=1 then 2 else if n=2 then 0 else 4) (st1:=⟨[(8,.gs 3 l.length),(7,.ptr 0 0),(2,bytes b),(0,ops l)],(3,.arr 43 29 l.length (qt l))::eH 0 1 2 En.zero,4⟩) ?_ ?_
  . refine⟨Nat.zero_le _,λ n hn=>absurd hn (Nat.not_lt_zero n),?_,?_,?_⟩
    . simp[aJ,List.lookup,SV.aC,SV.ok,SV.aN,SV.ax]
    . simp[sV,af,Ob.aC,Ob.ok,oA,qX,fP,dH,SV.aN,SV.aC,SV.dy,SV.ax,SV.ok,SV.aW,En.zero,List.lookup,c_,gJ,gf]
    . intro a ha b hb e
      simp only[List.map_cons,List.map_nil,List.mem_cons,List.not_mem_nil,or_false] at ha hb;rcases ha with rfl|rfl|rfl|rfl<;>rcases hb with rfl|rfl|rfl|rfl<;>simp at e<;>rfl
  refine SW.freeze 3 (l.flatMap ag.ds) rfl rfl ?_;simp only[k9,SV.iJ,List.map_cons,List.map_nil,if_true,if_false,reduceIte,c_,Nat.reduceEqDiff];refine SW.seq (SW.seq ?_);refine SW.g0 ae Zm aa ?_;refine SW.block ?_;refine SW.loop (α:={s:Nat×En×List ag // s.1+s.2.2.length=l.length/\xB l s.2.1 s.2.2}) (λ s=>⟨[(9,i64 s.1.1),(8,ops s.1.2.2),(7,.ptr 0 0),(2,bytes b),(0,ops l)],eH 0 1 2 s.1.2.1,3⟩) (λ s=>s.1.2.2.length) ⟨(0,En.zero,l),by simp,xB.zero l⟩ id (aG.same (Nat.zero_le _) (by simp[aJ,List.lookup,SV.aC,SV.ok,SV.ax]) (gq _ (by simp)) (λ y hy=>by
    simp only[List.mem_cons,List.not_mem_nil,or_false] at hy;rcases hy with rfl|rfl|rfl<;>rfl)) ?_
  rintro⟨⟨k,E,left⟩,hk,hT⟩;dsimp only at hk hT ⊢
  by_cases hne:0<left.length
  . have h1 : decide ((left.length:Int)>0)=true:=by simp only[decide_eq_true_eq];omega
    have e2:IntKind.i64.wrap ((k:Int)+1)=((k+1:Nat):Int):=wrap_i64 _ (by omega);have hEl:=hT.len;refine SW.seq (SW.seq (SW.g0 ae Zm h1 ?_));refine SW.ai rfl (SW.skip (SW.seq (SW.block (SW.seq (SW.g0 ae Zm aa ?_)))));obtain⟨p,hp,hp1,gj⟩:∃ p,p<left.length/\(∀ x,b[k]? =some x->p=x % left.length)/\(b.length<=k->p=0):=by
      rcases hx:b[k]? with _|x
      . exact⟨0,hne,λ x h=>(by cases h),λ _=>rfl⟩
      . exact⟨x % left.length,Nat.mod_lt _ hne,λ y h=>(by cases h;rfl),λ h=>(by have:=cU hx;omega)⟩
    refine SW.cut ⟨[(10,i64 p),(9,i64 k),(8,ops left),(7,.ptr 0 0),(2,bytes b),(0,ops l)],eH 0 1 2 E,3⟩ id ?_ ?_
    . by_cases hkb:k<b.length
      . obtain⟨x,hx⟩:=aX hkb
        have hx2:=hb0 x (List.mem_of_getElem? hx);have h2:decide ((k:Int)<b.length)=true:=by simp only[decide_eq_true_eq];omega
        have p1:IntKind.i64.wrap (x:Int)=(x:Int):=wrap_i64 _ (by omega);have p2:(x:Int).tmod (left.length:Int)=((x % left.length:Nat):Int):=(Int.ofNat_tmod x _).symm;rw[<- hp1 x hx] at p2;have p3:IntKind.i64.wrap (p:Int)=(p:Int):=wrap_i64 _ (by omega);refine SW.seq ?_;refine SW.g0 ae Zm h2 ?_;refine SW.ai rfl ?_;refine SW.g0 ae Zm (Zq (KP hx) (Zq IJ (Zq p1 (Zq p2 p3)))) ?_;exact aG.same (Nat.zero_le _) (by simp[aJ,List.lookup,SV.aC,SV.ok,SV.ax]) (gq _ (by simp)) (λ y hy=>by
          simp only[List.mem_cons,List.not_mem_nil,or_false] at hy;rcases hy with rfl|rfl|rfl<;>rfl)
      . have h2:decide ((k:Int)<b.length)=false:=by simp only[decide_eq_false_iff_not];omega
        obtain rfl:=gj (by omega);refine SW.seq ?_;refine SW.g0 ae Zm h2 ?_;refine SW.an rfl (SW.skip ?_);exact aG.same (Nat.zero_le _) (by simp[aJ,List.lookup,SV.aC,SV.ok,SV.ax]) (gq _ (by simp)) (λ y hy=>by
          simp only[List.mem_cons,List.not_mem_nil,or_false] at hy;rcases hy with rfl|rfl|rfl<;>rfl)
    refine SW.seq ?_;refine SW.g0 ae Zm aa ?_;refine SW.seq (SW.seq ?_);refine SW.g0 ae Zm aa ?_;refine SW.block ?_;refine SW.loop (α:={s:Nat×Bool×En×List ag // P7 l k p s.1 s.2.1 E s.2.2.1 left s.2.2.2}) (λ s=>⟨[(12,i64 s.1.1),(11,bl s.1.2.1),(10,i64 p),(9,i64 k),(8,ops s.1.2.2.2),(7,.ptr 0 0),(2,bytes b),(0,ops l)],eH 0 1 2 s.1.2.2.1,3⟩) (λ s=>left.length - s.1.1) ⟨(0,false,E,left),⟨Nat.zero_le _,hT,by simp,λ _=>⟨rfl,rfl,λ i' h=>absurd h (Nat.not_lt_zero _)⟩⟩⟩ id (aG.same (Nat.zero_le _) (by simp[aJ,List.lookup,SV.aC,SV.ok,SV.ax]) (gq _ (by simp)) (λ y hy=>by
      simp only[List.mem_cons,List.not_mem_nil,or_false] at hy;rcases hy with rfl|rfl|rfl<;>rfl)) ?_
    rintro⟨⟨i,d,E',L'⟩,hR⟩;dsimp only at hR ⊢;have hi:=hR.le;rcases d with _|_
    . obtain⟨hE,hL,hno⟩:=hR.not rfl
      subst hE;subst hL
      by_cases hil:i<left.length
      . have h2:decide ((i:Int)<left.length)=true:=by simp only[decide_eq_true_eq];omega
        obtain⟨j,hj⟩:∃ j,(p+i) % left.length=j:=⟨_,rfl⟩;have hjl:j<left.length:=by rw[<- hj];exact Nat.mod_lt _ hne
        obtain⟨o,ho⟩:=aX hjl;have hol:o∈l:=hT.No (List.mem_of_getElem? ho);have q1:IntKind.i64.wrap ((p:Int)+(i:Int))=((p+i:Nat):Int):=by rw[<- Int.natCast_add];exact wrap_i64 _ (by omega)
        have q2:((p+i:Nat):Int).tmod (left.length:Int)=(j:Int):=by rw[<- hj];exact(Int.ofNat_tmod _ _).symm
        have q3:IntKind.i64.wrap (j:Int)=(j:Int):=wrap_i64 _ (by omega);have e3:IntKind.i64.wrap ((i:Int)+1)=((i+1:Nat):Int):=wrap_i64 _ (by omega);have hx:=hrow o hol;refine SW.seq (SW.seq (SW.g0 ae Zm h2 ?_));refine SW.ai rfl (SW.skip (SW.seq (SW.block (SW.seq (SW.g0 ae Zm (Zq q1 (Zq q2 q3)) ?_)))));refine SW.seq ?_;rcases hm:E.may o with _|_
        . have cP:∀ k,aH Tryz.prog verdict_Engine_Put.f [.ptr 0 0,.agg o.cells] (eH 0 1 2 E) k 0 (.dL [.d .aL,i64 9]) (eH 0 1 2 E):=yB 0 1 2 (by decide) E (hT.Qs hdw) o (hdw o hol) hm
          have hno':∀ i',i'<i+1->∀ x,left[(p+i') % left.length]? =some x->E.may x=false:=λ i' h x hx=>by
            by_cases he:i'=i
            . rw[he,hj,ho] at hx
              cases hx;exact hm
            . exact hno i' (by omega) x hx
          refine SW.g1 ae Zm (Zq (gW ho) (cF ho)) cP ?_;refine SW.seq ?_;refine SW.g0 ae Zm aa ?_;refine SW.an rfl (SW.skip ?_);refine SW.g0 ae Zm e3 ?_;exact⟨⟨(i+1,false,E,left),⟨by show i+1<=_;omega,hT,λ h=>(by cases h),λ _=>⟨rfl,rfl,hno'⟩⟩⟩,id,by show left.length - (i+1)<_;omega,aG.same (Nat.zero_le _) (by simp[aJ,List.lookup,SV.aC,SV.ok,SV.ax]) (gq _ (by simp)) (λ y hy=>by
            simp only[List.mem_cons,List.not_mem_nil,or_false] at hy;rcases hy with rfl|rfl|rfl<;>rfl)⟩
        . have hput:=hT.put hH ho hm
          have cP:aH Tryz.prog verdict_Engine_Put.f [.ptr 0 0,.agg o.cells] (eH 0 1 2 E) 3 6 (.dL [bN (oJ E.K (E.put o).K),i64 0]) (eH 0 7 8 (E.put o)):=DE 0 1 2 (by decide) E (hT.Qs hdw) o (hdw o hol) hm (by rw[List.length_append,List.length_singleton];omega) (λ x hx=>by
            rcases List.mem_append.1 hx with hx|hx
            . exact hrow x (hT.sub hx)
            . rw[List.mem_singleton.1 hx];exact hrow o hol) (λ k=>by rw[hx.2.1.eq];exact(tB o.cl hx.2.2).sc rfl k) 3
          obtain⟨E1,oE⟩:∃ E1,E.put o=E1:=⟨_,rfl⟩;rw[oE] at cP hput;generalize oJ E.K E1.K=R at cP;have e4:IntKind.i64.wrap ((j:Int)+1)=((j+1:Nat):Int):=wrap_i64 _ (by omega);refine SW.g1 ae Zm (Zq (gW ho) (cF ho)) cP ?_;refine SW.seq (SW.g0 ae Zm aa ?_);refine SW.ai rfl (SW.seq (SW.g0 ae Zm e4 ?_));have hol1:=KQ hjl;have hod:=Nr left j;obtain⟨L1,hL1⟩:∃ L1,left.take j++left.drop (j+1)=L1:=⟨_,rfl⟩;rw[hL1] at hol1 hod hput;refine SW.weak (λ n=>if n=1 then 7 else if n=2 then 8 else if n=3 then 11 else n) (st1:=⟨[(12,i64 i),(10,i64 p),(9,i64 k),(8,.gs 3 L1.length),(7,.ptr 0 0),(2,bytes b),(0,ops l)],(3,.arr 43 29 L1.length (qt L1))::eH 0 1 2 E1,4⟩) ?_ ?_
          . rw[<- hod,hol1]
            refine⟨Nat.zero_le _,λ n hn=>absurd hn (Nat.not_lt_zero n),?_,?_,?_⟩
            . simp[aJ,List.lookup,SV.aC,SV.ok,SV.aN,SV.ax]
            . simp[sV,af,Ob.aC,Ob.ok,oA,qX,fP,dH,SV.aN,SV.aC,SV.dy,SV.ax,SV.ok,SV.aW]
              rw[<- List.map_take,<- List.map_drop,<- List.map_take,<- List.map_append];exact⟨(SV.dy _).symm,SV.aW _⟩
            . intro a ha b hb e
              simp only[List.map_cons,List.map_nil,List.mem_cons,List.not_mem_nil,or_false] at ha hb;rcases ha with rfl|rfl|rfl|rfl<;>rcases hb with rfl|rfl|rfl|rfl<;>simp at e<;>rfl
          refine SW.freeze 3 (L1.flatMap ag.ds) rfl rfl ?_;simp only[k9,SV.iJ,List.map_cons,List.map_nil,if_true,if_false,reduceIte,c_,Nat.reduceEqDiff];refine SW.g0 ae Zm aa ?_;refine SW.g0 ae Zm e3 ?_;exact⟨⟨(i+1,true,E1,L1),⟨by show i+1<=_;omega,hput,λ _=>by show k+1+L1.length=_;omega,λ h=>(by cases h)⟩⟩,id,by show left.length - (i+1)<_;omega,aG.same (Nat.zero_le _) (by simp[aJ,List.lookup,SV.aC,SV.ok,SV.ax]) (gq _ (by simp)) (λ y hy=>by
            simp only[List.mem_cons,List.not_mem_nil,or_false] at hy;rcases hy with rfl|rfl|rfl<;>rfl)⟩
      . exfalso
        obtain⟨j,o,hj,hm⟩:=hT.next hH (λ e=>by rw[e] at hne;exact absurd hne (by decide))
        obtain⟨i',hi',e⟩:=E6 hp (cU hj);have:=hno i' (by omega) o (by rw[e];exact hj);rw[hm] at this;cases this
    . have hdid:=hR.QV rfl
      have hT':=hR.tn;refine SW.seq (SW.seq ?_);rcases h2:decide ((i:Int)<L'.length) with _|_
      . skip
        refine SW.g0 ae Zm h2 ?_;refine SW.an rfl (SW.exit ?_);refine(?_:Sl.SW _ _ _ _ _ _);refine SW.seq ?_;refine SW.g0 ae Zm aa ?_;refine SW.an rfl (SW.skip ?_);refine SW.g0 ae Zm e2 ?_;exact⟨⟨(k+1,E',L'),hdid,hT'⟩,id,by show L'.length<left.length;omega,aG.same (Nat.zero_le _) (by simp[aJ,List.lookup,SV.aC,SV.ok,SV.ax]) (gq _ (by simp)) (λ y hy=>by
          simp only[List.mem_cons,List.not_mem_nil,or_false] at hy;rcases hy with rfl|rfl|rfl<;>rfl)⟩
      . skip
        refine SW.g0 ae Zm h2 ?_;refine SW.an rfl (SW.exit ?_);refine(?_:Sl.SW _ _ _ _ _ _);refine SW.seq ?_;refine SW.g0 ae Zm aa ?_;refine SW.an rfl (SW.skip ?_);refine SW.g0 ae Zm e2 ?_;exact⟨⟨(k+1,E',L'),hdid,hT'⟩,id,by show L'.length<left.length;omega,aG.same (Nat.zero_le _) (by simp[aJ,List.lookup,SV.aC,SV.ok,SV.ax]) (gq _ (by simp)) (λ y hy=>by
          simp only[List.mem_cons,List.not_mem_nil,or_false] at hy;rcases hy with rfl|rfl|rfl<;>rfl)⟩
  have h1:decide ((left.length:Int)>0)=false:=by simp only[decide_eq_false_iff_not];omega
  refine SW.seq (SW.seq (SW.g0 ae Zm h1 ?_));refine SW.an rfl (SW.exit ?_);refine(?_:Sl.SW _ _ _ _ _ _);obtain rfl:left=[]:=List.eq_nil_of_length_eq_zero (by omega);have cO:=Bb l zD hrow 3;have hkn:=hT.QU;have htell:∀ x,x∈l->pN E x.dot= .dL [.d (.int .u8 (((dQ l).get x.dot:Nat):Int)),i64 0]:=λ x hx=>hT.tell hH hx
  generalize dQ l=K at cO htell;refine SW.seq ?_;refine SW.g1 ae Zm aa cO ?_;refine SW.seq (SW.seq ?_);refine SW.g0 ae Zm aa ?_;refine SW.block ?_;refine SW.loop (α:={i:Nat // i<=l.length}) (λ i=>⟨[(17,i64 i.1),(16,.mp 3),(7,.ptr 0 0),(0,ops l)],(3,uf K)::eH 0 1 2 E,4⟩) (λ i=>l.length - i.1) ⟨0,Nat.zero_le _⟩ id (aG.same (Nat.zero_le _) (by simp[aJ,List.lookup,SV.aC,SV.ok,SV.ax]) (aA (by simp) (dH _ _) (gq _ (by simp))) (λ y hy=>by
    simp only[List.mem_cons,List.not_mem_nil,or_false] at hy;rcases hy with rfl|rfl|rfl|rfl<;>rfl)) ?_
  rintro⟨i,hi⟩;dsimp only
  by_cases h:i<l.length
  . obtain⟨x,hx⟩:=aX h
    have h1:decide ((i:Int)<l.length)=true:=by simp only[decide_eq_true_eq];omega
    have e2:IntKind.i64.wrap ((i:Int)+1)=((i+1:Nat):Int):=wrap_i64 _ (by omega);have cV:=λ k=>DB 0 1 2 (by decide) E x.dot k
    rw[htell x (List.mem_of_getElem? hx)] at cV;have k1:=kJ K.m x.dot;change _=SV.d (.int .u8 ((K.get x.dot:Nat):Int)) at k1;have hne:(((K.get x.dot:Nat):Int) != ((K.get x.dot:Nat):Int))=false:=by simp
    generalize ((K.get x.dot:Nat):Int)=g at cV k1 hne;dsimp only[uf];refine SW.seq (SW.seq ?_);refine SW.g0 ae Zm h1 ?_;refine SW.ai rfl (SW.skip ?_);refine SW.seq (SW.block (SW.seq ?_));refine SW.g1 ae Zm (Zq (p_ hx) (mW hx)) cV ?_;refine SW.seq ?_;refine SW.g0 ae Zm (Zq (p_ hx) (Zq (mW hx) (Zq k1 hne))) ?_;refine SW.an rfl (SW.skip ?_);refine SW.g0 ae Zm e2 ?_;exact⟨⟨i+1,by omega⟩,id,by show l.length - (i+1)<_;omega,aG.same (Nat.zero_le _) (by simp[aJ,List.lookup,SV.aC,SV.ok,SV.ax]) (aA (by simp) (dH _ _) (gq _ (by simp))) (λ y hy=>by
      simp only[List.mem_cons,List.not_mem_nil,or_false] at hy;rcases hy with rfl|rfl|rfl|rfl<;>rfl)⟩
  have h1:decide ((i:Int)<l.length)=false:=by simp only[decide_eq_false_iff_not];omega
  refine SW.seq (SW.seq (SW.g0 ae Zm h1 ?_));refine SW.an rfl (SW.exit ?_);refine(?_:Sl.SW _ _ _ _ _ _);have cK:=λ k=>Nq 0 1 2 (by decide) E k
  rw[hkn] at cK;have cR:=wT l hlen;generalize bu l=kn at cK cR;refine SW.seq (SW.g4 ae Zm aa cK cR bY trivial ?_);refine SW.ret ?_;exact End.mk [] (h4:=rfl)
end Go.Proofs.YtaelhkkjgfobhaaGreat
namespace Go.Proofs.YtaelhkkjgfobhaaGreat
open Go.Sl Go.Proofs
theorem yH:∀ b:List Nat,(b.flatMap λ (x:Nat)=>[DV.int .u8 (x:Int)])=b.map λ (x:Nat)=>DV.int .u8 (x:Int)
 | []=>rfl
 | x::b=>by rw[List.flatMap_cons,yH b];rfl
set_option maxRecDepth 100000 in
theorem E7 {d:Nat}{ds:List DV}(h:Fit Tryz.prog (d+2) mV ds):ds=[.aL]\/∃ l:List Nat,(∀ x∈l,x<256)/\l.length<=9223372036854775807/\ds=[.sl l.length (l.flatMap λ (x:Nat)=>[DV.int .u8 (x:Int)])]:=
 s8 (λ (x:Nat)=>[DV.int .u8 (x:Int)]) (λ x=>x<256) (P:= Tryz.prog) (t:=mV) (e:=y6) Tryz.underlying89 (λ _ h=>qQ (P:= Tryz.prog) Tryz.underlying5 h) h
set_option maxRecDepth 100000 in
theorem KR {d:Nat}{ds:List DV}(h:Fit Tryz.prog (d+2) mV ds):∃ x b,ds=[x]/\((∀ x,x∈b->x<256)/\b.length<=9223372036854775807)/\
  ∀ (p:Nat->Prop) (μ:Nat->Nm) (M:Mem) (r r':List SV) (hr:∀ vs,aS p μ M r' vs->aS p μ M r vs) (vs:List Value),aS p μ M (.d x::r') vs->aS p μ M (bytes b::r) vs:=by
 rcases E7 h with rfl|⟨b,hb,yT,rfl⟩
 .exact⟨.aL,[],rfl,⟨by simp,by simp⟩,λ p μ M r r' hr vs hv=>tX hr vs hv⟩
 .rw[yH]
  exact⟨_,b,rfl,⟨hb,yT⟩,λ p μ M r r' hr vs hv=>Aq hr vs hv⟩
set_option maxRecDepth 100000 in
theorem KS (x:DV):kB Tryz.prog mV [x]= .d x:=DG x (by kernel_rfl)
set_option maxRecDepth 100000 in
theorem sF:∀ nu,mB Tryz.prog 7 Tryz.f12.params.toList nu->(∀ ds,ds∈nu->ew reachBytes ds)->SB Tryz.prog 12 (nL Tryz.prog Tryz.f12.params.toList nu) [] 0 0 λ r F=>r=bl true:=by
 intro nu h hs;have hp: Tryz.f12.params.toList=[jN,La,mV]:=by kernel_rfl
 rw[hp] at h ⊢;obtain⟨x0,x1,x2,rfl,h0,h1,h2⟩:=DH h;obtain⟨y,l,rfl,hl,ho,hw⟩:=yE (d:=1) h0 (hs _ (by simp));obtain⟨n,_,rfl⟩:=yU (P:= Tryz.prog) (d:=6) Tryz.underlying3 h1;obtain⟨z,b,rfl,⟨hb0,yT⟩,hwb⟩:=KR (d:=5) h2;simp only[nL,DF,DI,KS];exact SB.mono (SB.args (zI l n b hb0 yT (λ o h=>⟨(ho o h).2.2.2.1,(ho o h).1,(ho o h).2.1,(ho o h).2.2.2.2,(ho o h).2.2.1⟩) (by omega)) rfl (λ p μ M vs hv=>hw p μ M _ _ (Aq (hwb p μ M _ _ (λ _ h=>h))) vs hv)) λ r F h=>h
open Go.ChangeShapes Go.WideShapes Go.ChangeAt Go.RowKit in
set_option maxRecDepth 100000 in
theorem q_ (os:Os)(started:os.Started)(H:Type)(enc:TypeId×Value->H):
  ReturnsInHanded {} Tryz.checked os 12 .any (Rows.verdictTurnedSpec.pre6 enc Tryz.prog Tryz.f12 Rows.verdictTurnedRow.domain false) (Rows.verdictTurnedSpec.post enc Tryz.prog Tryz.f12 false true false false):=by
 refine returnsInHanded_of_change_sized (C:= Tryz.checked) own started (by kernel_rfl) Tryz.func12
  (ChangeSpec.witness6 (enc:=enc) (C:= Tryz.checked) false ⟨#[],#[.slice none 0 0,.int .i64 0,.slice none 0 0],[]⟩ 8 (by kernel_rfl) (by kernel_rfl) (by kernel_rfl) (by kernel_rfl)) ?_
 intro W base args ds gs before hval hW hcnd hsz _;refine sZ (f:=12) (fn:= Tryz.f12) (spec:=Rows.verdictTurnedSpec) (tb:=BS) 7 (by kernel_rfl) (by kernel_rfl) rfl (by kernel_rfl) rfl (λ ds hl=> ?_) reachBytes (λ nu hf hs=> ?_) W base args ds gs before hval hW (qZ _) (λ n hn=>by simpa using List.all_eq_true.1 hsz n (iB hn))
 .rw[show Tryz.f12.params.toList.length=3 from by kernel_rfl] at hl
  match ds,hl with
  | [d0,d1,d2],_=>exact⟨rfl,rfl,rfl⟩
 .exact sF nu hf hs
theorem verdictTurned_holds:Rows.VerdictTurnedSaid:=
 OpenClaim.holds_of_wide 12 Tryz.f12 rfl rfl rfl rfl rfl rfl rfl ⟨rfl,rfl,rfl,rfl,rfl⟩ rfl rfl rfl rfl rfl (by kernel_rfl) Tryz.func12 (by kernel_rfl)
  (of_decide_eq_true (by kernel_rfl)) (by unfold Func.isWrapper;first|(rw[if_pos (by decide +kernel)];kernel_rfl)|(rw[if_neg (by decide +kernel)];exact⟨rfl,rfl⟩))
  (λ os started H enc _=>q_ os started H enc)
end Go.Proofs.YtaelhkkjgfobhaaGreat
