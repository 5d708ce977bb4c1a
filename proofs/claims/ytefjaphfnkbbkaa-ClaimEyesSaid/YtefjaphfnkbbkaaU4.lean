/-
 The machine does what 'sop' says: maps with flat keys.
-/
import Derived.Test.YtefjaphfnkbbkaaU3
import Derived.Maps.Keyed
set_option linter.unusedSectionVars false
set_option linter.unusedVariables false
set_option linter.unusedSimpArgs false
namespace Go.Sl
open Go.RowKit
section
section
variable {P:Program}
theorem qL (em:Bool)(d:Nat)(ih:∀ (t:TypeId) (ks:List Bool) (xs:List Value) (w:World),a_ P d t=some ks→xs.length=ks.length→(Instr.checkKey em d t (valOf P t xs)).run P w= .ok () w)
  (xs : List Value) (w:World):∀ (fs:List Field) (o:Nat) (ks:List Bool),kI (a_ P d) o fs=some ks→o+ks.length≤xs.length→
   (forIn (m:=Sem) fs PUnit.unit fun f _=>do
    if f.name≠ "_" then
     Instr.checkKey em d f.type (← part f.type xs.toArray f.offset)
    pure (ForInStep.yield PUnit.unit)).run P w= .ok PUnit.unit w:=by
 intro fs
 induction fs with
 | nil=>intro o ks h _;simp
 | cons f fs ihf=>
  intro o ks h hx
  simp only [kI] at h
  split at h
  ·cases h
  ·rename_i hno
   simp only [not_or,ne_eq,Decidable.not_not] at hno
   split at h
   ·rename_i ks1 h1
    split at h
    ·rename_i ks2 h2
     simp at h
     subst h
     simp at hx
     have hr:=ihf (o+ks1.length) ks2 h2 (by omega)
     have hi:=ih f.type ks1 ((xs.drop o).take ks1.length) w h1 (by simp;omega)
     simp only [List.forIn_cons,Sem.run_bind,ne_eq,hno.1,not_false_eq_true,if_true,hno.2,j8 h1 xs o (by omega),Result.andThen_ok,hi,Sem.run_pure]
     simpa using hr
    ·cases h
   ·cases h
theorem u6 (em:Bool)(d:Nat)(ih:∀ (t:TypeId) (ks:List Bool) (xs:List Value) (w:World),a_ P d t=some ks→xs.length=ks.length→(Instr.checkKey em d t (valOf P t xs)).run P w= .ok () w)
  {e:TypeId} {ks:List Bool} (he:a_ P d e=some ks) (xs:List Value) (w:World):∀ (n k:Nat),(k+n)*ks.length≤xs.length→
   (forIn (m:=Sem) (List.range' k n) PUnit.unit fun i _=>do
    let s ← sizeOf e
    let v ← part e xs.toArray (i*s)
    Instr.checkKey em d e v
    pure (ForInStep.yield PUnit.unit)).run P w= .ok PUnit.unit w:=by
 intro n
 obtain ⟨i',hi',hs'⟩:=kK he
 induction n with
 | zero=>intro k _;simp
 | succ n ihn=>
  intro k hx
  have hx':k*ks.length+ks.length≤xs.length:=by
   have:(k+(n+1))*ks.length=k*ks.length+ks.length+n*ks.length:=by rw [Nat.add_mul,Nat.add_mul];omega
   omega
  have hr:=ihn (k+1) (by rwa [show k+1+n=k+(n+1) by omega])
  have hi:=ih e ks ((xs.drop (k*ks.length)).take ks.length) w he (by simp;omega)
  simp only [List.range'_succ,List.forIn_cons,Sem.run_bind,c_ hi',hs',Result.andThen_ok,j8 he xs _ hx',hi,Sem.run_pure]
  exact hr
theorem u7 (em:Bool):∀ (d:Nat) (t:TypeId) (ks:List Bool) (xs:List Value) (w:World),a_ P d t=some ks→xs.length=ks.length→(Instr.checkKey em d t (valOf P t xs)).run P w= .ok () w:=by
  intro d
  induction d with
  | zero=>intro t ks xs w h;simp [a_] at h
  | succ d ih=>
    intro t ks xs w h hl
    simp only [a_] at h
    split at h
    · rename_i i h1 h2
      generalize valOf P t xs=v
      cases v <;> simp [Instr.checkKey,run_underlying h1]
    · rename_i k i h1 h2
      generalize valOf P t xs=v
      cases v <;> simp [Instr.checkKey,run_underlying h1]
    · rename_i fs i h1 h2
      split at h
      · cases h
      · split at h
        · rename_i ks' h3
          split at h
          · rename_i hsize
            simp at h;subst h
            have ht:dg P t=some (some i.size):=by simp [dg,h1,h2]
            have:=qL (P:=P) em d ih xs w fs.toList 0 ks' h3 (by omega)
            simp only [valOf,ht,Instr.checkKey,Sem.run_bind,run_underlying h1,Result.andThen_ok]
            simp only [← Array.forIn_toList] 
            rw [this];rfl
          · cases h
        · cases h
    · rename_i n e i h1 h2
      split at h
      · rename_i ks' h3
        split at h
        · rename_i hsize
          simp at h;subst h
          have ht:dg P t=some (some i.size):=by simp [dg,h1,h2]
          rw [kJ] at hl
          have:=u6 (P:=P) em d ih h3 xs w n 0 (by simp;omega)
          simp only [valOf,ht,Instr.checkKey,Sem.run_bind,run_underlying h1,Result.andThen_ok]
          simp only [Std.Legacy.Range.forIn_eq_forIn_range',Std.Legacy.Range.size,Nat.sub_zero,Nat.add_sub_cancel,Nat.div_one]
          rw [this];rfl
        · cases h
      · cases h
    · cases h
theorem F_:∀ {k:Bool} {x y:Value},DH k x y=some true→x=y:=by
 intro k x y h
 cases k <;> cases x <;> cases y <;> simp [DH] at h
 ·subst h;rfl
 ·obtain ⟨rfl,rfl⟩:=h;rfl
theorem zq:∀ {ks:List Bool} {xs ys:List Value},dR ks xs ys=some true→xs=ys
 | [],[],[],_=>rfl
 | [],[],_::_,h=>by simp [dR] at h
 | [],_::_,_,h=>by simp [dR] at h
 | _::_,[],_,h=>by simp [dR] at h
 | _::_,_::_,[],h=>by simp [dR] at h
 | k ::ks,x::xs,y::ys,h=>by
  simp only [dR] at h
  split at h
  ·rename_i a b h1 h2
   simp at h
   obtain ⟨rfl,rfl⟩:=h
   rw [F_ h1,zq h2]
  ·cases h
theorem wg {k:Bool}{x:Value}{b:Bool}(h:DH k x x=some b)(d:Nat):Instr.sameBits d x x=true:=by
 cases k <;> cases x <;> simp [DH] at h <;> cases d <;> simp [Instr.sameBits]
theorem tW {d:Nat}:∀ {ks:List Bool} {xs:List Value} {b:Bool},dR ks xs xs=some b→(xs.zip xs).all (fun (x,y)=>Instr.sameBits d x y)=true
 | [],[],_,_=>rfl
 | [],_::_,_,h=>by simp [dR] at h
 | _::_,[],_,h=>by simp [dR] at h
 | k ::ks,x::xs,b,h=>by
  simp only [dR] at h
  split at h
  ·rename_i a b h1 h2
   simp only [List.zip_cons_cons,List.all_cons,tW h2,Bool.and_true]
   exact wg h1 d
  ·cases h
structure mY (P:Program)(t:TypeId)(ks:List Bool)(v:Value):Prop where
 eq:v=valOf P t v.cells.toList
 self:∃ b,dR ks v.cells.toList v.cells.toList=some b
theorem mY.len {t:TypeId}{ks:List Bool}{v:Value}(h:mY P t ks v):v.cells.toList.length=ks.length:=by
 obtain ⟨b,hb⟩:=h.self
 exact (gI hb).1
theorem mY.check {t:TypeId}{ks:List Bool}{v:Value}(h:mY P t ks v)(hks:a_ P 10000 t=some ks)(em:Bool)(w:World):(Instr.checkKey em 10000 t v).run P w= .ok () w:=by
 have:=u7 (P:=P) em 10000 t ks v.cells.toList w hks h.len
 rwa [← h.eq] at this
theorem mY.stays {t:TypeId}{ks:List Bool}{v:Value}(h:mY P t ks v)(w:World):(Instr.keyThatStays v v).run P w= .ok v w:=by
 have:Instr.sameBits 10000 v v=true:=by
  obtain ⟨b,hb⟩:=h.self
  by_cases ha:∃ cs,v= .agg cs
  ·obtain ⟨cs,rfl⟩:=ha
   simp only [Value.cells] at hb
   simp only [Instr.sameBits,BEq.rfl,Bool.true_and]
   exact tW hb
  ·have hc:v.cells= #[v]:=by cases v <;> first | rfl | exact absurd ⟨_,rfl⟩ ha
   rw [hc] at hb
   match ks,hb with
   | [k],hb=>
    have hb:=oA hb
    exact wg hb 10000
   | [],hb=>simp [dR] at hb
   | _::_::_,hb=>
    simp only [dR] at hb
    split at hb
    ·rename_i h2;simp at h2
    ·cases hb
 simp [Instr.keyThatStays,this]
theorem mY.same {t:TypeId}{ks:List Bool}{u v:Value}(hu:mY P t ks u)(hv:mY P t ks v)(h:dR ks u.cells.toList v.cells.toList=some true):u=v:=by
 rw [hu.eq,hv.eq,zq h]
theorem fS {p:Nat→Prop}{μ:Nat→Nm}{M:Mem}{t:TypeId}{ks:List Bool}(hks:a_ P 10000 t=some ks){key:SV}(qM:gJ ks (lQ P t) key=true){v:Value}(hr:Rp p μ M key v):
  mY P t ks v∧aM p μ M key.cells v.cells.toList:=by
 unfold gJ at qM
 simp only [Bool.and_eq_true,beq_iff_eq] at qM
 obtain ⟨h1,h2⟩:=qM
 obtain ⟨b,hb⟩:=Option.isSome_iff_exists.1 h2
 by_cases ha:∃ cs,key= .agg cs
 ·obtain ⟨cs,rfl⟩:=ha
  obtain ⟨vs,rfl,hvs⟩:=Rp.dh.1 hr
  refine ⟨⟨?_,b,j9 hb hvs hvs⟩,hvs⟩
  simp only [jj] at h1
  have:∃ n,dg P t=some (some n):=by
   unfold lQ at h1
   split at h1
   ·exact ⟨_,by assumption⟩
   ·cases h1
  obtain ⟨n,hn⟩:=this
  simp [valOf,hn,Value.cells]
 ·have hc:key.cells=[key]:=by cases key <;> first | rfl | exact absurd ⟨_,rfl⟩ ha
  have hg:jj key=false:=by cases key <;> first | rfl | exact absurd ⟨_,rfl⟩ ha
  rw [hg] at h1
  rw [hc] at hb ⊢
  have hk1:∃ k,ks=[k]∧DI k key key=some b:=by
   match ks,hb with
   | [],hb=>simp [iu] at hb
   | [k],hb=>
    simp only [iu] at hb
    split at hb
    ·rename_i a b' e1 e2
     simp at hb e2
     subst e2;subst hb
     exact ⟨k,rfl,by simpa using e1⟩
    ·cases hb
   | _::_::_,hb=>
    simp only [iu] at hb
    split at hb
    ·rename_i h2;simp at h2
    ·cases hb
  obtain ⟨k,rfl,hk⟩:=hk1
  have hty:dg P t=some none:=by
   rcases jb hks with ⟨e,_⟩ | e
   ·exact e
   ·simp [lQ,e] at h1
  have hv:v.cells= #[v]:=by
   cases k <;> cases key <;> simp [DI] at hk <;> rename_i x <;> cases x <;> simp [DI] at hk
   ·rw [Rp.br.1 hr];rfl
   ·rw [Rp.aR.1 hr];rfl
  have hcs:aM p μ M [key] v.cells.toList:=by rw [hv];exact aM.aC.2 ⟨v,[],rfl,hr,aM.aN.2 rfl⟩
  refine ⟨⟨?_,b,j9 hb hcs hcs⟩,hcs⟩
  simp [valOf,hty,hv]
noncomputable def jM (P:Program)(t:TypeId)(ks:List Bool)(x:Value):List MapEntry→Nat→Option (Option Nat)
 | [],_=>some none
 | e::r,i=>open Classical in if mY P t ks e.key then match dR ks x.cells.toList e.key.cells.toList with
  | some true=>some (some i)
  | some false=>jM P t ks x r (i+1)
  | none=>none
  else none
theorem oF {p:Nat→Prop}{μ:Nat→Nm}{M:Mem}{t:TypeId}{ks:List Bool}(hks:a_ P 10000 t=some ks){key:SV}{x:Value}(hx:aM p μ M key.cells x.cells.toList):∀ {es:List (Nat×SV×SV)} {cW:List MapEntry} {i:Nat} {r:Option Nat},
  fO p μ M es cW→gL ks (lQ P t) key es i=some r→jM P t ks x cW i=some r∧(∀ j,r=some j→i≤j∧∃ e en,es[j - i]? =some e∧cW[j - i]? =some en∧mY P t ks en.key∧dR ks x.cells.toList en.key.cells.toList=some true∧Rp p μ M e.2.1 en.key∧Rp p μ M e.2.2 en.val)
 | [],cW,i,r,hr,h=>by
  simp only [fO] at hr
  subst hr
  simp only [gL,Option.some.injEq] at h
  subst h
  exact ⟨rfl,fun j h=>by cases h⟩
 | (b, k,v)::es,cW,i,r,hr,h=>by
  obtain ⟨en,ens',rfl,h1,h2,h3,h4⟩:=hr
  simp only [gL] at h
  split at h
  ·rename_i qM
   obtain ⟨hv,hkc⟩:=fS hks qM h2
   split at h
   ·rename_i hq
    have hq:=j9 hq hx hkc
    simp at h;subst h
    refine ⟨by simp [jM,hq,hv],fun j hj=> ?_⟩
    simp at hj;subst hj
    exact ⟨Nat.le_refl _,(b,k,v),en,by simp,by simp,hv,hq,h2,h3⟩
   ·rename_i hq
    have hq:=j9 hq hx hkc
    obtain ⟨a1,a2⟩:=oF hks hx h4 h
    refine ⟨by simp [jM,hq,a1,hv],fun j hj=> ?_⟩
    obtain ⟨b1,e,en',b2,b3,b4⟩:=a2 j hj
    refine ⟨by omega,e,en',?_,?_,b4⟩
    ·rw [show j - i=(j - (i+1))+1 by omega];simpa using b2
    ·rw [show j - i=(j - (i+1))+1 by omega];simpa using b3
   ·cases h
  ·cases h
theorem rI {t:TypeId}{ks:List Bool}(hks:a_ P 10000 t=some ks){x:Value}(hx:mY P t ks x)(w:World):∀ (es:List MapEntry) (i:Nat) (r:Option Nat),jM P t ks x es i=some r→
  ((Instr.findAsking t x es i).run P w= .ok (r.map fun j=>(j,((es[j - i]?).map (·.val)).getD undef)) w)∧∀ j,r=some j→i≤j
 | [],i,r,h=>by
  simp only [jM,Option.some.injEq] at h
  subst h
  exact ⟨by simp [Instr.findAsking],fun j h=>by cases h⟩
 | e ::es,i,r,h=>by
  simp only [jM] at h
  split at h <;> first | (cases h;done) | skip
  rename_i he
  have hq:∀ b,dR ks x.cells.toList e.key.cells.toList=some b→(Op.equal t x e.key).run P w= .ok b w:=fun b hb=>by
   have:=qx (P:=P) (w:=w) 10000 t ks _ _ b hks hb
   rw [← hx.eq,← he.eq] at this
   exact this
  split at h
  ·rename_i hb
   simp at h;subst h
   exact ⟨by simp [Instr.findAsking,hq _ hb],fun j hj=>by simp at hj;omega⟩
  ·rename_i hb
   obtain ⟨a1,a2⟩:=rI hks hx w es (i+1) r h
   refine ⟨?_,fun j hj=>by have:=a2 j hj;omega⟩
   simp only [Instr.findAsking,Sem.run_bind,hq _ hb,Result.andThen_ok,Bool.false_eq_true,if_false,a1]
   cases r with
   | none=>rfl
   | some j=>
    have:=a2 j rfl
    simp only [Option.map_some,show j - i=(j - (i+1))+1 by omega,List.getElem?_cons_succ]
  ·cases h
theorem oG {d:TypeDesc}{a b:Value}{r:Bool}(h:Instr.sameNow d a b=some r)(hd:(∃ fs,d= .struct fs)∨∃ n e,d= .array n e):False:=by
 rcases hd with ⟨fs,rfl⟩ | ⟨n,e,rfl⟩ <;> simp [Instr.sameNow] at h
theorem tX {t:TypeId}{d:TypeDesc}{k:Bool}(hd:(k=true∧∃ q,d= .int q)∨(k=false∧d= .bool)){x:Value}(hx1:x.cells.toList=[x])(HJ:∀ {v:Value},mY P t [k] v→v.cells.toList=[v]):∀ (es:List MapEntry) (i:Nat) (r:Option Nat),jM P t [k] x es i=some r→
  Instr.findNow d x es i=some (r.map fun j=>(j,((es[j - i]?).map (·.val)).getD undef))∧∀ j,r=some j→i≤j
 | [],i,r,h=>by
  simp only [jM,Option.some.injEq] at h
  subst h
  exact ⟨by simp [Instr.findNow],fun j h=>by cases h⟩
 | e ::es,i,r,h=>by
  simp only [jM] at h
  split at h <;> first | (cases h;done) | skip
  rename_i hke
  have hq:∀ b,dR [k] x.cells.toList e.key.cells.toList=some b→Instr.sameNow d x e.key=some b:=fun b hb=>by
   rw [hx1,HJ hke] at hb
   have hb:=oA hb
   generalize e.key=y at hb
   rcases hd with ⟨rfl,q,rfl⟩ | ⟨rfl,rfl⟩ <;> cases x <;> cases y <;> simp [DH] at hb
   ·simp [Instr.sameNow,hb]
   ·simp [Instr.sameNow,hb]
  split at h
  ·rename_i hb
   simp at h;subst h
   exact ⟨by simp [Instr.findNow,hq _ hb],fun j hj=>by simp at hj;omega⟩
  ·rename_i hb
   obtain ⟨a1,a2⟩:=tX hd hx1 HJ es (i+1) r h
   refine ⟨?_,fun j hj=>by have:=a2 j hj;omega⟩
   simp only [Instr.findNow,hq _ hb,a1]
   cases r with
   | none=>rfl
   | some j=>
    have:=a2 j rfl
    simp only [Option.map_some,show j - i=(j - (i+1))+1 by omega,List.getElem?_cons_succ]
  ·cases h
theorem gM {t:TypeId}{ks:List Bool}(hks:a_ P 10000 t=some ks){x:Value}(hx:mY P t ks x)(w:World){es:List MapEntry}{r:Option Nat}(h:jM P t ks x es 0=some r):
  (Instr.findKey t x es).run P w= .ok (r.map fun j=>(j,((es[j]?).map (·.val)).getD undef)) w:=by
 obtain ⟨a1,_⟩:=rI hks hx w es 0 r h
 have agg:(∃ d,P.underlying t=some d∧((∃ fs,d= .struct fs)∨∃ n e,d= .array n e))→(Instr.findKey t x es).run P w= .ok (r.map fun j=>(j,((es[j]?).map (·.val)).getD undef)) w:=by
  rintro ⟨d,hd,hk⟩
  simp only [Instr.findKey,Sem.run_bind,run_underlying hd,Result.andThen_ok]
  cases es with
  | nil=>
   simp only [jM,Option.some.injEq] at h
   subst h
   simp [Instr.findNow]
  | cons e es=>
   have:Instr.findNow d x (e::es) 0=none:=by
    simp only [Instr.findNow]
    split
    ·rename_i hs;exact (oG hs hk).elim
    ·rename_i hs;exact (oG hs hk).elim
    ·rfl
   rw [this]
   simpa using a1
 have one:∀ (k:Bool) (d:TypeDesc),ks=[k]→P.underlying t=some d→dg P t=some none→((k=true∧∃ q,d= .int q)∨(k=false∧d= .bool))→(Instr.findKey t x es).run P w= .ok (r.map fun j=>(j,((es[j]?).map (·.val)).getD undef)) w:=by
  intro k d hk hd hty hkd
  subst hk
  have HJ:∀ {v:Value},mY P t [k] v→v.cells.toList=[v]:=fun {v} hv=>by
   have e:=hv.eq
   simp only [valOf,hty] at e
   have hl:=hv.len
   match hc:v.cells.toList,hl with
   | [y],_=>rw [hc] at e;simp at e;rw [e]
  obtain ⟨b1,_⟩:=tX hkd (HJ hx) HJ es 0 r h
  simp only [Instr.findKey,Sem.run_bind,run_underlying hd,Result.andThen_ok,b1]
  simp
 obtain ⟨d,hks⟩:∃ d,a_ P (d+1) t=some ks:=⟨9999,hks⟩
 simp only [a_] at hks
 split at hks
 ·rename_i i h1 h2
  simp at hks;obtain ⟨_,rfl⟩:=hks
  exact one false _ rfl h1 (by simp [dg,h1,h2]) (.inr ⟨rfl,rfl⟩)
 ·rename_i k i h1 h2
  simp at hks;obtain ⟨_,rfl⟩:=hks
  exact one true _ rfl h1 (by simp [dg,h1,h2]) (.inl ⟨rfl,_,rfl⟩)
 ·rename_i fs i h1 h2
  exact agg ⟨_,h1,.inl ⟨_,rfl⟩⟩
 ·rename_i n el i h1 h2
  exact agg ⟨_,h1,.inr ⟨_,_,rfl⟩⟩
 ·cases hks
end
section
variable {P:Program} {o:Oper} {E:Nat→Option SV} {H:Nat→Option Ob} {k:Nat} {own:Bool} {e:j4}
theorem tY {t:TypeId}{z:SV}(h:tT P t=some z):∃ v,(∀ w:World,(zeroValue t).run P w= .ok v w)∧∀ {p:Nat→Prop} {μ:Nat→Nm} {M:Mem},Rp p μ M z v:=by
 unfold tT at h
 split at h
 ·rename_i i hi
  split at h
  ·rename_i z' hz
   exact ⟨z',fun w=>oz hi hz,fun {_ _ _}=>BA h⟩
  ·cases h
 ·cases h
theorem fO.length {p:Nat→Prop}{μ:Nat→Nm}{M:Mem}:∀ {es:List (Nat×SV×SV)} {cW:List MapEntry},fO p μ M es cW→cW.length=es.length
 | [],cW,hr=>by simp only [fO] at hr;subst hr;rfl
 | (b,k,v)::es,cW,hr=>by
  obtain ⟨en,ens',rfl,h1,h2,h3,h4⟩:=hr
  simp [fO.length h4]
theorem fO.append {p:Nat→Prop}{μ:Nat→Nm}{M:Mem}{b:Nat}{k v:SV}{en:MapEntry}(h1:en.born=b)(h2:Rp p μ M k en.key)(h3:Rp p μ M v en.val):∀ {es:List (Nat×SV×SV)} {cW:List MapEntry},fO p μ M es cW→fO p μ M (es++[(b,k,v)]) (cW++[en])
 | [],cW,hr=>by simp only [fO] at hr;subst hr;exact ⟨en,[],rfl,h1,h2,h3,rfl⟩
 | (b',k',v')::es,cW,hr=>by
  obtain ⟨en',ens',rfl,g1,g2,g3,g4⟩:=hr
  exact ⟨en',_,rfl,g1,g2,g3,fO.append h1 h2 h3 g4⟩
theorem fO.modify {p:Nat→Prop}{μ:Nat→Nm}{M:Mem}{v:SV}{u:Value}(hv:Rp p μ M v u):∀ {es:List (Nat×SV×SV)} {cW:List MapEntry} (i:Nat),fO p μ M es cW→fO p μ M (es.modify i fun e=>(e.1,e.2.1,v)) (cW.modify i fun e=>{ e with val:=u})
 | [],cW,i,hr=>by simp only [fO] at hr;subst hr;simp [fO]
 | (b',k',v')::es,cW,0,hr=>by
  obtain ⟨en',ens',rfl,g1,g2,g3,g4⟩:=hr
  exact ⟨_,_,rfl,g1,g2,hv,g4⟩
 | (b',k',v')::es,cW,i+1,hr=>by
  obtain ⟨en',ens',rfl,g1,g2,g3,g4⟩:=hr
  exact ⟨en',_,rfl,g1,g2,g3,fO.modify hv i g4⟩
theorem fO.erase {p:Nat→Prop}{μ:Nat→Nm}{M:Mem}:∀ {es:List (Nat×SV×SV)} {cW:List MapEntry} (i:Nat),fO p μ M es cW→fO p μ M (es.eraseIdx i) (cW.eraseIdx i)
 | [],cW,i,hr=>by simp only [fO] at hr;subst hr;simp [fO]
 | (b',k',v')::es,cW,0,hr=>by
  obtain ⟨en',ens',rfl,g1,g2,g3,g4⟩:=hr
  exact g4
 | (b',k',v')::es,cW,i+1,hr=>by
  obtain ⟨en',ens',rfl,g1,g2,g3,g4⟩:=hr
  exact ⟨en',_,rfl,g1,g2,g3,fO.erase i g4⟩
theorem fO.find {p:Nat→Prop}{μ:Nat→Nm}{M:Mem}{st:Nat}:∀ {es:List (Nat×SV×SV)} {cW:List MapEntry} {e:Nat×SV×SV},fO p μ M es cW→es.find? (fun e=>e.1 == st)=some e→∃ en,cW.find? (fun x=>x.born == st)=some en∧Rp p μ M e.2.1 en.key∧Rp p μ M e.2.2 en.val
 | [],cW,e,hr,h=>by simp at h
 | (b',k',v')::es,cW,e,hr,h=>by
  obtain ⟨en',ens',rfl,g1,g2,g3,g4⟩:=hr
  simp only [List.find?_cons] at h ⊢
  rw [g1]
  cases hb:b' == st
  ·simp only [hb] at h ⊢
   exact fO.find g4 h
  ·simp only [hb,Option.some.injEq] at h ⊢
   subst h
   exact ⟨_,rfl,g2,g3⟩
theorem Rp.rJ {p:Nat→Prop}{μ:Nat→Nm}{M:Mem}{n:Nat}{v:Value}(h:Rp p μ M (.mp n) v)(hl:(μ n).live=true):v= .map (some (μ n).blk):=by simpa [bY,hl] using h.rep
theorem Rp.oI {p:Nat→Prop}{μ:Nat→Nm}{M:Mem}{n:Nat}{v:Value}(h:Rp p μ M (.mp n) v)(hl:(μ n).live=false):v= .map none:=by simpa [bY,hl] using h.rep
theorem Rp.Fm {p:Nat→Prop}{μ:Nat→Nm}{M:Mem}{n:Nat}{v:Value}(h:Rp p μ M (.it n) v):v= .pointer (some ⟨(μ n).blk,0,none⟩):=by simpa [bY] using h.rep
theorem Rp.qS {p:Nat→Prop}{μ:Nat→Nm}{M:Mem}{v:Value}(h:Rp p μ M (.d .nC) v):v= .map none:=by simpa [bH] using Rp.bN.1 h
theorem kO {p:Nat→Prop}{μ:Nat→Nm}{M:Mem}{v:SV}{u:Value}{b:Bool}(ok:Bool)(h:Rp p μ M v u):Rp p μ M (jk ok v b) (if ok then .tuple #[u,.bool b] else u):=by
 cases ok
 ·exact h
 ·exact Rp.dI.2 ⟨_,rfl,aM.aC.2 ⟨_,_,rfl,h,aM.aC.2 ⟨_,_,rfl,Rp.br.2 rfl,aM.aN.2 rfl⟩⟩⟩
theorem Ga {t kt et:TypeId}{m i:Operand}{ok:Bool}{m' i':X}{ks:List Bool}{z:SV}(ho:o.op= .lookup t m i ok)(ht:P.underlying t=some (.map kt et))(hm:cX m=some m')(hi:cX i=some i')
  (hks:a_ P 10000 kt=some ks) (hz:tT P et=some z) (he:cQ E H k own (.look ks (lQ P kt) z m' i' ok)=some e):Sound P o E H k e:=by
 obtain ⟨z',hz1,hz2⟩:=tY hz
 simp only [cQ] at he
 split at he <;> first | (cases he;done) | skip
 ·rename_i key h1 h2
  split at he <;> first | (cases he;done) | skip
  rename_i qM
  injection he with he
  subst he
  refine ⟨OT.pure fun p μ M a w hk hS=>⟨if ok then .tuple #[z',.bool false] else z',?_,kO ok hz2⟩,aT⟩
  have e1:=(hk.get (by simp [ho,Op.operands]) hm h1).qS
  obtain ⟨kv,_⟩:=fS hks qM (hk.get (by simp [ho,Op.operands]) hi h2)
  have hf:=gM hks kv w (es:=[]) (r:=none) (by simp [jM])
  simp [execOp,ho,Instr.lookup,run_underlying ht,e1,kv.check hks,hf,hz1]
 ·rename_i n key h1 h2
  split at he <;> first | (cases he;done) | skip
  ·rename_i es c hH
   split at he <;> first | (cases he;done) | skip
   rename_i qM
   split at he <;> first | (cases he;done) | skip
   rename_i r hf
   injection he with he
   subst he
   refine ⟨OT.pure fun p μ M a w hk hS=> ?_,sub_one hH⟩
   obtain ⟨_,⟨h0,cW,hb,hre⟩,_⟩:=hS.one
   have e1:=(hk.get (by simp [ho,Op.operands]) hm h1).rJ h0
   obtain ⟨kv,kc⟩:=fS hks qM (hk.get (by simp [ho,Op.operands]) hi h2)
   obtain ⟨hv,hj⟩:=oF hks kc hre hf
   have hfk:=gM hks kv w hv
   cases r with
   | none=>
    refine ⟨if ok then .tuple #[z',.bool false] else z',?_,kO ok hz2⟩
    simp [execOp,ho,Instr.lookup,run_underlying ht,e1,MapKept.run_getObj_map hb,kv.check hks,hfk,hz1]
   | some j=>
    obtain ⟨_,q,en,hq,hen,_,_,_,hval⟩:=hj j rfl
    simp only [Nat.sub_zero] at hq hen
    simp only [Option.map_some,hen,Option.getD_some] at hfk
    refine ⟨if ok then .tuple #[en.val,.bool true] else en.val,?_,kO ok (by simpa [lP,hq] using hval)⟩
    simp [execOp,ho,Instr.lookup,run_underlying ht,e1,MapKept.run_getObj_map hb,kv.check hks,hfk]
  ·rename_i hH
   split at he <;> first | (cases he;done) | skip
   rename_i qM
   injection he with he
   subst he
   refine ⟨OT.pure fun p μ M a w hk hS=>⟨if ok then .tuple #[z',.bool false] else z',?_,kO ok hz2⟩,sub_one hH⟩
   have e1:=(hk.get (by simp [ho,Op.operands]) hm h1).oI hS.one.2.1
   obtain ⟨kv,_⟩:=fS hks qM (hk.get (by simp [ho,Op.operands]) hi h2)
   have hf:=gM hks kv w (es:=[]) (r:=none) (by simp [jM])
   simp [execOp,ho,Instr.lookup,run_underlying ht,e1,kv.check hks,hf,hz1]
theorem Gb {c:Call}{t kt et:TypeId}{x:Operand}{y:X}(ho:o.op= .call c)(bI:c.callee= .builtin .len)(ha:c.args.toList=[x])(nj:c.argTypes.toList=[t])(ht:P.underlying t=some (.map kt et))
  (hx:cX x=some y) (he:cQ E H k own (.FU y)=some e):Sound P o E H k e:=by
 have ha':c.args= #[x]:=by cases hh:c.args;simp [hh] at ha;simp [ha]
 have hat':c.argTypes= #[t]:=by cases hh:c.argTypes;simp [hh] at nj;simp [nj]
 have hin:x∈o.op.operands:=by simp [ho,Op.operands,Call.operands,bI,ha']
 simp only [cQ] at he
 split at he <;> first | (cases he;done) | skip
 ·rename_i h1
  injection he with he
  subst he
  refine ⟨OT.pure fun p μ M a w hk hS=>⟨.int .i64 0,?_,Rp.aR.2 rfl⟩,aT⟩
  have e1:=(hk.get hin hx h1).qS
  simp [execOp,ho,resolve,bI,ha',hat',invoke,builtin,e1,Builtin.len_,run_underlying ht,goInt]
 ·rename_i n h1
  split at he <;> first | (cases he;done) | skip
  ·rename_i es c' hH
   injection he with he
   subst he
   refine ⟨OT.pure fun p μ M a w hk hS=> ?_,sub_one hH⟩
   obtain ⟨_,⟨h0,cW,hb,hre⟩,_⟩:=hS.one
   have e1:=(hk.get hin hx h1).rJ h0
   refine ⟨.int .i64 es.length,?_,Rp.aR.2 rfl⟩
   have:=hre.length
   simp at this
   simp [execOp,ho,resolve,bI,ha',hat',invoke,builtin,e1,Builtin.len_,run_underlying ht,goInt,MapKept.run_getObj_map hb,this]
  ·rename_i hH
   injection he with he
   subst he
   refine ⟨OT.pure fun p μ M a w hk hS=>⟨.int .i64 0,?_,Rp.aR.2 rfl⟩,sub_one hH⟩
   have e1:=(hk.get hin hx h1).oI hS.one.2.1
   simp [execOp,ho,resolve,bI,ha',hat',invoke,builtin,e1,Builtin.len_,run_underlying ht,goInt]
theorem jl {w:World}{b:Nat}{x:Obj}(o:Obj)(hb:w.heap[b]? =some x):({ w with heap:=w.heap.setIfInBounds b o}:World).heap[b]? =some o∧∀ c,c≠b→({ w with heap:=w.heap.setIfInBounds b o}:World).heap[c]? =w.heap[c]? :=by
 have hlt:=(Array.getElem?_eq_some_iff.1 hb).1
 refine ⟨by simp [Array.getElem?_setIfInBounds,hlt],fun c hc=> ?_⟩
 simp only [Array.getElem?_setIfInBounds]
 rw [if_neg (fun h:b=c=>hc h.symm)]
theorem BJ {t kt et:TypeId}{m i v:Operand}{m' i' v':X}{ks:List Bool}(ho:o.op= .mapUpdate t m i v∨o.op= .insert t m i v)(ht:P.underlying t=some (.map kt et))(hm:cX m=some m')(hi:cX i=some i')(hv:cX v=some v')
  (hks:a_ P 10000 kt=some ks) (he:cQ E H k own (.Aj ks (lQ P kt) m' i' v')=some e):Sound P o E H k e:=by
 have hin:m∈o.op.operands∧i∈o.op.operands∧v∈o.op.operands:=by rcases ho with ho | ho <;> simp [ho,Op.operands]
 simp only [cQ] at he
 split at he <;> first | (cases he;done) | skip
 rename_i n key s h1 h2 h3
 split at he <;> first | (cases he;done) | skip
 rename_i es c hH
 split at he <;> first | (cases he;done) | skip
 rename_i qM
 split at he <;> first | (cases he;done) | skip
 rename_i r hf
 injection he with he
 subst he
 refine ⟨OT.write fun p μ M a w hk hp aZ=> ?_,sub_one hH⟩
 obtain ⟨h0,cW,hb,hre⟩:=aZ
 have e1:=(hk.get hin.1 hm h1).rJ h0
 have r2:=hk.get hin.2.1 hi h2
 have r3:=hk.get hin.2.2 hv h3
 obtain ⟨kv,kc⟩:=fS hks qM r2
 obtain ⟨hfv,hj⟩:=oF hks kc hre hf
 have hfk:=gM hks kv w hfv
 cases r with
 | none=>
  obtain ⟨g1,g2⟩:=jl (.map (cW.push { key:=a.eval i,val:=a.eval v,born:=c}) (c+1)) hb
  refine ⟨undef,_,.inr ⟨?_,rfl⟩,Rp.any,⟨h0,cW.push { key:=a.eval i,val:=a.eval v,born:=c},g1,?_⟩,fun b hb=>g2 b (hb h0),by simp,rfl,⟨rfl,Nat.le_refl _⟩,rfl⟩
  ·rcases ho with ho | ho <;> simp [execOp,ho,Instr.mapUpdate,run_underlying ht,e1,MapKept.run_getObj_map hb,kv.check hks,hfk,MapKept.run_setObj_map _ hb]
  ·simp only [Array.toList_push]
   exact fO.append (en:={ key:=a.eval i,val:=a.eval v,born:=c}) rfl r2 r3 hre
 | some j=>
  obtain ⟨_,q,en,hq,hen,hkv,hcs,hkr,hval⟩:=hj j rfl
  simp only [Nat.sub_zero] at hq hen
  have hsame:=kv.same hkv hcs
  simp only [Option.map_some,hen,Option.getD_some] at hfk
  have hen':cW[j]? =some en:=by simpa using hen
  obtain ⟨g1,g2⟩:=jl (.map (cW.modify j fun e=>{ e with key:=a.eval i,val:=a.eval v}) c) hb
  refine ⟨undef,_,.inr ⟨?_,rfl⟩,Rp.any,⟨h0,cW.modify j fun e=>{ e with key:=a.eval i,val:=a.eval v},g1,?_⟩,fun b hb=>g2 b (hb h0),by simp,rfl,⟨rfl,Nat.le_refl _⟩,rfl⟩
  ·have hst:(Instr.keyThatStays en.key (a.eval i)).run P w= .ok (a.eval i) w:=by rw [← hsame];exact kv.stays w
   rcases ho with ho | ho <;> simp [execOp,ho,Instr.mapUpdate,run_underlying ht,e1,MapKept.run_getObj_map hb,kv.check hks,hfk,hen',hst,MapKept.run_setObj_map _ hb]
  ·have:(cW.modify j fun e=>{ e with key:=a.eval i,val:=a.eval v}).toList=cW.toList.modify j fun e=>{ e with val:=a.eval v}:=by
    rw [Array.toList_modify]
    apply List.ext_getElem?
    intro m
    simp only [List.getElem?_modify]
    by_cases hmj:j=m
    ·subst hmj
     simp [hen',hsame]
    ·simp [hmj]
   rw [this]
   exact fO.modify r3 j hre
theorem Gc {c :Call}{t kt et t':TypeId}{m i:Operand}{m' i':X}{ks:List Bool}(ho:o.op= .call c)(bI:c.callee= .builtin .delete)(ha:c.args.toList=[m,i])(nj:c.argTypes.toList=[t,t'])(ht:P.underlying t=some (.map kt et))(hm:cX m=some m')(hi:cX i=some i')
  (hks:a_ P 10000 kt=some ks) (he:cQ E H k own (.DR ks (lQ P kt) m' i')=some e):Sound P o E H k e:=by
 have ha':c.args= #[m,i]:=by cases hh:c.args;simp [hh] at ha;simp [ha]
 have hat':c.argTypes= #[t,t']:=by cases hh:c.argTypes;simp [hh] at nj;simp [nj]
 have hin1:m∈o.op.operands:=by simp [ho,Op.operands,Call.operands,bI,ha']
 have hin2:i∈o.op.operands:=by simp [ho,Op.operands,Call.operands,bI,ha']
 simp only [cQ] at he
 split at he <;> first | (cases he;done) | skip
 ·rename_i key h1 h2
  split at he <;> first | (cases he;done) | skip
  rename_i qM
  injection he with he
  subst he
  refine ⟨OT.pure fun p μ M a w hk hS=>⟨.tuple #[],?_,Rp.any⟩,aT⟩
  have e1:=(hk.get hin1 hm h1).qS
  obtain ⟨kv,_⟩:=fS hks qM (hk.get hin2 hi h2)
  simp [execOp,ho,resolve,bI,ha',hat',invoke,builtin,Builtin.delete_,run_underlying ht,e1,kv.check hks]
 ·rename_i n key h1 h2
  split at he <;> first | (cases he;done) | skip
  ·rename_i es cl hH
   split at he <;> first | (cases he;done) | skip
   rename_i qM
   split at he <;> first | (cases he;done) | skip
   rename_i r hf
   injection he with he
   subst he
   refine ⟨OT.write fun p μ M a w hk hp aZ=> ?_,sub_one hH⟩
   obtain ⟨h0,cW,hb,hre⟩:=aZ
   have e1:=(hk.get hin1 hm h1).rJ h0
   obtain ⟨kv,kc⟩:=fS hks qM (hk.get hin2 hi h2)
   obtain ⟨hfv,hj⟩:=oF hks kc hre hf
   have hfk:=gM hks kv w hfv
   cases r with
   | none=>
    obtain ⟨g1,g2⟩:=jl (.map cW cl) hb
    refine ⟨.tuple #[],_,.inl ?_,Rp.any,⟨h0,cW,g1,hre⟩,fun b hb=>g2 b (hb h0),by simp,rfl,⟨rfl,Nat.le_refl _⟩,rfl⟩
    simp [execOp,ho,resolve,bI,ha',hat',invoke,builtin,Builtin.delete_,run_underlying ht,e1,MapKept.run_getObj_map hb,kv.check hks,hfk,MapKept.run_setObj_map _ hb]
   | some j=>
    obtain ⟨g1,g2⟩:=jl (.map (cW.eraseIdxIfInBounds j) cl) hb
    refine ⟨.tuple #[],_,.inl ?_,Rp.any,⟨h0,cW.eraseIdxIfInBounds j,g1,?_⟩,fun b hb=>g2 b (hb h0),by simp,rfl,⟨rfl,Nat.le_refl _⟩,rfl⟩
    ·simp [execOp,ho,resolve,bI,ha',hat',invoke,builtin,Builtin.delete_,run_underlying ht,e1,MapKept.run_getObj_map hb,kv.check hks,hfk,MapKept.run_setObj_map _ hb]
    ·have:(cW.eraseIdxIfInBounds j).toList=cW.toList.eraseIdx j:=by
      unfold Array.eraseIdxIfInBounds
      split
      ·simp
      ·rw [List.eraseIdx_of_length_le]
       simp;omega
     rw [this]
     exact fO.erase j hre
  ·rename_i hH
   split at he <;> first | (cases he;done) | skip
   rename_i qM
   injection he with he
   subst he
   refine ⟨OT.pure fun p μ M a w hk hS=>⟨.tuple #[],?_,Rp.any⟩,sub_one hH⟩
   have e1:=(hk.get hin1 hm h1).oI hS.one.2.1
   obtain ⟨kv,_⟩:=fS hks qM (hk.get hin2 hi h2)
   simp [execOp,ho,resolve,bI,ha',hat',invoke,builtin,Builtin.delete_,run_underlying ht,e1,kv.check hks]
theorem OT.BK {n:Nat}{HK ob:Ob}{v:SV}(h:∀ (p:Nat→Prop) (μ:Nat→Nm) (M:Mem) (a:Act) (w:World),fW E o.op.operands p μ M a→p n→bS p μ M w (μ n) HK→oy M w→
    ∃ u ro cap,(execOp a.eval o).run P w= .ok (.value u) (w.alloc ro)∧
      ∀ (p':Nat→Prop) (aY:Nat→Nm),(∀ n,p n→p' n)→(∀ n,p n→aY n=μ n)→p' k→aY k=⟨w.heap.size,cap,true⟩→bS p' aY M (w.alloc ro) ⟨w.heap.size,cap,true⟩ ob∧Rp p' aY M v u):
    OT P o E [(n,HK)] (fun n=>k≤n∧n<k+1) v [(n,HK),(k,ob)]:=by
  intro rd p μ M a w K Q hnew hkn hS hK
  obtain ⟨hp,hob0,hM0⟩:=hS.one
  obtain ⟨u,ro,cap,hr,hu⟩:=h p μ M a w hkn hp hob0 hS.mem
  have hk: ¬ p k:=hnew k ⟨Nat.le_refl _,by omega⟩
  have hnk:n≠k:=fun e=>hk (e ▸ hp)
  have hlt:=fun l=>hob0.lt l
  obtain ⟨h1,h2⟩:=hu (fun n=>p n∨(k≤n∧n<k+1)) (vY μ k ⟨w.heap.size,cap,true⟩) (fun n h=> .inl h) (rE hk) (.inr ⟨Nat.le_refl _,by omega⟩) (bf _ _ _)
  have hlk:∀ m,lk [(n,HK),(k,ob)] m=if m=n then some HK else if m=k then some ob else none:=by
    intro m
    rw [ag,bC]
  refine fE hr (hK u (vY μ k ⟨w.heap.size,cap,true⟩) M (w.alloc ro) h2 ⟨j6 ro hS.mem,fun m iY hm=> ?_,fun m m' hm hm' lm lm' e=> ?_⟩ ⟨fun n hn=> ?_,Mem.le_refl M,fun b hb _=>⟨iK w ro hb,fun _=>rfl⟩,by simp,fun m hm=> ?_,rfl,⟨rfl,Nat.le_refl _⟩,rfl⟩)
  · rw [hlk] at hm
    split at hm
    · rename_i e
      subst e
      simp at hm;subst hm
      rw [dQ _ _ _ hnk]
      exact ⟨.inl hp,hob0.more (fun _ h=> .inl h) (rE hk) (Mem.le_refl M) (fun l=>iK w ro (hlt l)),hM0⟩
    · split at hm
      · rename_i e
        subst e
        simp at hm;subst hm
        rw [bf]
        exact ⟨.inr ⟨Nat.le_refl _,by omega⟩,h1,fun _=>rF hS.mem (Nat.le_refl _)⟩
      · cases hm
  · rw [hlk] at hm hm'
    by_cases a1:m=n <;> by_cases a2:m'=n
    · omega
    · by_cases a3:m'=k
      · subst a1;subst a3
        rw [dQ _ _ _ hnk] at e lm
        rw [bf] at e
        have:=hlt lm
        simp at e;omega
      · simp [a2,a3] at hm'
    · by_cases a3:m=k
      · subst a2;subst a3
        rw [dQ _ _ _ hnk] at e lm'
        rw [bf] at e
        have:=hlt lm'
        simp at e;omega
      · simp [a1,a3] at hm
    · by_cases a3:m=k <;> by_cases a4:m'=k
      · omega
      · simp [a2,a4] at hm'
      · simp [a1,a3] at hm
      · simp [a1,a3] at hm
  · exact dQ _ _ _ (by omega)
  · rw [hlk] at hm
    by_cases a1:m=n
    · subst a1
      exact .inr ⟨fun h=>hk (by
          have:m=k:=by omega
          exact this ▸ hp),by simp [bC]⟩
    · by_cases a2:m=k
      · subst a2
        exact .inl ⟨⟨Nat.le_refl _,by omega⟩,fun _=> .inl (by rw [bf];exact Nat.le_refl _)⟩
      · simp [a1,a2] at hm
theorem Rp.BL {p:Nat→Prop}{μ:Nat→Nm}{M:Mem}{n:Nat}(hp:p n):Rp p μ M (.it n) (.pointer (some ⟨(μ n).blk,0,none⟩)):=fun aY h=>by
 simp [bY,h n hp]
theorem BM {t kt et:TypeId}{m:Operand}{m':X}(ho:o.op= .range t m)(ht:P.underlying t=some (.map kt et))(hm:cX m=some m')(he:cQ E H k own (.rD m')=some e):Sound P o E H k e:=by
 simp only [cQ] at he
 split at he <;> first | (cases he;done) | skip
 ·rename_i h1
  injection he with he
  subst he
  refine ⟨OT.make fun p μ M a w hk hM=> ?_,aT⟩
  have e1:=(hk.get (by simp [ho,Op.operands]) hm h1).qS
  refine ⟨.pointer (some ⟨w.heap.size,0,none⟩),.mapIter none 0 #[] 0,0,?_,fun p' aY hp ja hpk hk'=>⟨⟨rfl,(fun n h=>by cases h),fF w (.mapIter none 0 #[] 0)⟩,?_⟩⟩
  ·simp [execOp,ho,Instr.range,run_underlying ht,e1,run_newObj]
  ·have:=Rp.BL (μ:=aY) (M:=M) hpk
   rwa [hk'] at this
 ·rename_i n h1
  split at he <;> first | (cases he;done) | skip
  ·rename_i es c hH
   injection he with he
   subst he
   refine ⟨OT.BK fun p μ M a w hk hpn aZ hM=> ?_,sub_one hH⟩
   obtain ⟨h0,cW,hb,hre⟩:=aZ
   have e1:=(hk.get (by simp [ho,Op.operands]) hm h1).rJ h0
   refine ⟨.pointer (some ⟨w.heap.size,0,none⟩),.mapIter (some (μ n).blk) c #[] c,0,?_,fun p' aY hp ja hpk hk'=>⟨⟨rfl,(fun n' h=>by cases h;exact hp _ hpn),?_⟩,?_⟩⟩
   ·simp [execOp,ho,Instr.range,run_underlying ht,e1,MapKept.run_getObj_map hb,run_newObj]
   ·have:=fF w (.mapIter (some (μ n).blk) c #[] c)
    simpa [ja n hpn] using this
   ·have:=Rp.BL (μ:=aY) (M:=M) hpk
    rwa [hk'] at this
  ·rename_i hH
   injection he with he
   subst he
   refine ⟨OT.BK fun p μ M a w hk hpn aZ hM=> ?_,sub_one hH⟩
   have e1:=(hk.get (by simp [ho,Op.operands]) hm h1).oI aZ
   refine ⟨.pointer (some ⟨w.heap.size,0,none⟩),.mapIter none 0 #[] 0,0,?_,fun p' aY hp ja hpk hk'=>⟨⟨rfl,(fun n h=>by cases h),fF w (.mapIter none 0 #[] 0)⟩,?_⟩⟩
   ·simp [execOp,ho,Instr.range,run_underlying ht,e1,run_newObj]
   ·have:=Rp.BL (μ:=aY) (M:=M) hpk
    rwa [hk'] at this
theorem BN {x:Operand}{x':X}(ho:o.op= .entry x)(hx:cX x=some x')(he:cQ E H k own (.uY x')=some e)(aZ:e.ob):Sound P o E H k e:=by
 simp only [cQ] at he
 split at he <;> first | (cases he;done) | skip
 rename_i n h1
 split at he <;> first | (cases he;done) | skip
 rename_i m since seen st hH
 split at he <;> first | (cases he;done) | skip
 rename_i es c hH2
 split at he <;> first | (cases he;done) | skip
 rename_i stamp hst
 split at he <;> first | (cases he;done) | skip
 rename_i en hen
 injection he with he
 subst he
 obtain ⟨rfl,hnm⟩:=aZ
 refine ⟨OT.pure fun p μ M a w hk hS=> ?_,?_⟩
 ·obtain ⟨_,hb,_⟩:=hS.obs n (.iter (some m) since seen c) (by simp [ag])
  obtain ⟨_,DL,_⟩:=hS.obs m (.map es c) (by rw [ag,if_neg (fun h=>hnm h.symm),bC,if_pos rfl])
  obtain ⟨_,_,hb⟩:=hb
  obtain ⟨_,cW,DL,hre⟩:=DL
  have e1:=(hk.get (by simp [ho,Op.operands]) hx h1).Fm
  obtain ⟨en',hf,g1,g2⟩:=hre.find hen
  have hf':cW.find? (fun x=>x.born == stamp)=some en':=by rw [← Array.find?_toList];exact hf
  have hbk:seen.toArray.back? =some stamp:=by simpa using hst
  refine ⟨.tuple #[en'.key,en'.val],?_,Rp.dI.2 ⟨_,rfl,aM.aC.2 ⟨_,_,rfl,g1,aM.aC.2 ⟨_,_,rfl,g2,aM.aN.2 rfl⟩⟩⟩⟩
  simp only [Option.map_some] at hb
  have hg:(getObj (μ n).blk).run P w= .ok (.mapIter (some (μ m).blk) since seen.toArray c) w:=by simp [getObj,Sem.run,hb]
  simp [execOp,ho,Instr.entry,e1,hg,hbk,MapKept.run_getObj_map DL,hf']
 ·intro q ob hq
  rw [ag,bC] at hq
  split at hq
  ·rename_i e;subst e;simp at hq;subst hq;exact hH
  ·split at hq
   ·rename_i e;subst e;simp at hq;subst hq;exact hH2
   ·cases hq
end
end
section
section
variable {P:Program} {o:Oper} {E:Nat→Option SV} {H:Nat→Option Ob} {k:Nat} {own:Bool} {e:j4}
theorem fO.get {p:Nat→Prop}{μ:Nat→Nm}{M:Mem}:∀ {es:List (Nat×SV×SV)} {cW:List MapEntry} (i:Nat),fO p μ M es cW→
  (es[i]? =none∧cW[i]? =none)∨∃ e en,es[i]? =some e∧cW[i]? =some en∧en.born=e.1∧Rp p μ M e.2.1 en.key∧Rp p μ M e.2.2 en.val
 | [],cW,i,h=>by
  have h:cW=[]:=h
  subst h;exact .inl ⟨by simp,by simp⟩
 | (b,k,v)::r,cW,i,h=>by
  obtain ⟨en,ens',rfl,h1,h2,h3,h4⟩:=h
  cases i with
  | zero=>exact .inr ⟨_,en,rfl,rfl,h1,h2,h3⟩
  | succ i=>simpa using fO.get i h4
theorem fO.findIdx {p:Nat→Prop}{μ:Nat→Nm}{M:Mem}{b:Int}:∀ {es:List (Nat×SV×SV)} {cW:List MapEntry},fO p μ M es cW→cW.findIdx? (fun e=>(e.born:Int) == b)=es.findIdx? (fun e=>(e.1:Int) == b)
 | [],cW,h=>by
  have h:cW=[]:=h
  subst h;rfl
 | (t,k,v)::r,cW,h=>by
  obtain ⟨en,ens',rfl,h1,_,_,h4⟩:=h
  simp only [List.findIdx?_cons,h1,fO.findIdx h4]
theorem D6 {t kt et:TypeId}{m i:Operand}{m' i':X}{ks:List Bool}{z:SV}(ho:o.op= .mapEntry t m i)(ht:P.underlying t=some (.map kt et))(hm:cX m=some m')(hi:cX i=some i')
  (hks:a_ P 10000 kt=some ks) (hz:tT P et=some z) (he:cQ E H k own (.qp ks (lQ P kt) z m' i')=some e):Sound P o E H k e:=by
 have hin:m∈o.op.operands∧i∈o.op.operands:=by simp [ho,Op.operands]
 simp only [cQ] at he
 split at he <;> first | (cases he;done) | skip
 rename_i n key h1 h2
 split at he <;> first | (cases he;done) | skip
 rename_i es c hH
 split at he <;> first | (cases he;done) | skip
 rename_i qM
 split at he <;> first | (cases he;done) | skip
 rename_i r hf
 injection he with he
 subst he
 refine ⟨OT.write fun p μ M a w hk hp aZ=> ?_,sub_one hH⟩
 obtain ⟨h0,cW,hb,hre⟩:=aZ
 have e1:=(hk.get hin.1 hm h1).rJ h0
 have r2:=hk.get hin.2 hi h2
 obtain ⟨kv,kc⟩:=fS hks qM r2
 obtain ⟨hfv,hj⟩:=oF hks kc hre hf
 have hfk:=gM hks kv w hfv
 obtain ⟨zv,hzv,hzr⟩:=tY hz
 cases r with
 | none=>
  obtain ⟨g1,g2⟩:=jl (.map (cW.push { key:=a.eval i,val:=zv,born:=c}) (c+1)) hb
  refine ⟨.tuple #[zv,.int .i64 c],_,.inl ?_,Rp.dI.2 ⟨_,rfl,aM.aC.2 ⟨zv,_,rfl,hzr,aM.aC.2 ⟨_,[],rfl,Rp.aR.2 rfl,aM.aN.2 rfl⟩⟩⟩,⟨h0,cW.push { key:=a.eval i,val:=zv,born:=c},g1,?_⟩,fun b hb=>g2 b (hb h0),by simp,rfl,⟨rfl,Nat.le_refl _⟩,rfl⟩
  ·simp [execOp,ho,Instr.mapEntry,run_underlying ht,e1,MapKept.run_getObj_map hb,kv.check hks,hfk,hzv,MapKept.run_setObj_map _ hb,goInt]
  ·simp only [Array.toList_push]
   exact fO.append (en:={ key:=a.eval i,val:=zv,born:=c}) rfl r2 hzr hre
 | some j=>
  obtain ⟨_,q,en,hq,hen,hkv,hcs,hkr,hval⟩:=hj j rfl
  simp only [Nat.sub_zero] at hq hen
  have hsame:=kv.same hkv hcs
  simp only [Option.map_some,hen,Option.getD_some] at hfk
  have hen':cW[j]? =some en:=by simpa using hen
  have hmod:cW.modify j (fun e=>{ e with key:=a.eval i})=cW:=by
   apply Array.ext_getElem?
   intro m
   rw [Array.getElem?_modify]
   by_cases hmj:j=m
   ·subst hmj
    simp [hen',hsame]
   ·simp [hmj]
  obtain ⟨g1,g2⟩:=jl (.map cW c) hb
  have hborn:en.born=q.1:=by
   rcases fO.get j hre with ⟨x1,x2⟩ | ⟨e',en',x1,x2,x3,_⟩
   ·rw [hq] at x1;cases x1
   ·rw [hq] at x1;rw [hen] at x2
    injection x1 with x1;injection x2 with x2
    rw [x1,x2];exact x3
  refine ⟨.tuple #[en.val,.int .i64 en.born],_,.inl ?_,?_,⟨h0,cW,g1,hre⟩,fun b hb=>g2 b (hb h0),by simp,rfl,⟨rfl,Nat.le_refl _⟩,rfl⟩
  ·have hst:(Instr.keyThatStays en.key (a.eval i)).run P w= .ok (a.eval i) w:=by rw [← hsame];exact kv.stays w
   simp [execOp,ho,Instr.mapEntry,run_underlying ht,e1,MapKept.run_getObj_map hb,kv.check hks,hfk,hen',hst,MapKept.run_setObj_map _ hb,goInt,hmod]
  ·refine Rp.dI.2 ⟨_,rfl,aM.aC.2 ⟨en.val,_,rfl,?_,aM.aC.2 ⟨_,[],rfl,Rp.aR.2 ?_,aM.aN.2 rfl⟩⟩⟩
   ·simp only [lP,hq];exact hval
   ·simp only [zo,hq,hborn]
theorem D7 {t:TypeId}{m s x:Operand}{m' s' x':X}(ho:o.op= .entryStore t m s x)(hm:cX m=some m')(hs:cX s=some s')(hx:cX x=some x')(he:cQ E H k own (.qq m' s' x')=some e):Sound P o E H k e:=by
 have hin:m∈o.op.operands∧s∈o.op.operands∧x∈o.op.operands:=by simp [ho,Op.operands]
 simp only [cQ] at he
 split at he <;> first | (cases he;done) | skip
 rename_i n kb b v h1 h2 h3
 split at he <;> first | (cases he;done) | skip
 rename_i es c hH
 split at he <;> first | (cases he;done) | skip
 rename_i j hj
 injection he with he
 subst he
 refine ⟨OT.write fun p μ M a w hk hp aZ=> ?_,sub_one hH⟩
 obtain ⟨h0,cW,hb,hre⟩:=aZ
 have e1:=(hk.get hin.1 hm h1).rJ h0
 have e2:=Rp.aR.1 (hk.get hin.2.1 hs h2)
 have r3:=hk.get hin.2.2 hx h3
 have hfi:cW.findIdx? (fun e=>(e.born:Int) == b)=some j:=by
  have h2:∀ (q:Array MapEntry) (f:MapEntry→Bool),q.findIdx? f=q.toList.findIdx? f:=fun q f=>by cases q;simp
  rw [h2,fO.findIdx hre];exact hj
 obtain ⟨g1,g2⟩:=jl (.map (cW.modify j fun e=>{ e with val:=a.eval x}) c) hb
 refine ⟨undef,_,.inr ⟨?_,rfl⟩,Rp.any,⟨h0,cW.modify j fun e=>{ e with val:=a.eval x},g1,?_⟩,fun b hb=>g2 b (hb h0),by simp,rfl,⟨rfl,Nat.le_refl _⟩,rfl⟩
 ·simp [execOp,ho,Instr.entryStore,e1,e2,MapKept.run_getObj_map hb,hfi,MapKept.run_setObj_map _ hb,asInt,asIntOf]
 ·rw [Array.toList_modify]
  exact fO.modify r3 j hre
theorem HL {c:Call}{t el:TypeId}{x:Operand}{x':X}{ti:TypeInfo}{z:List SV}(ho:o.op= .call c)(bI:c.callee= .builtin .clear)(ha:c.args.toList=[x])(nj:c.argTypes.toList=[t])(ht:P.underlying t=some (.slice el))
  (hi:P.info? el=some ti) (hz:fm P el=some z) (hsz:z.length=ti.size∧0<ti.size) (hx:cX x=some x') (he:cQ E H k own (.Hv ti.size z x')=some e) (aZ:e.ob):Sound P o E H k e:=by
 have ha':c.args= #[x]:=by cases hh:c.args;simp [hh] at ha;simp [ha]
 have hat':c.argTypes= #[t]:=by cases hh:c.argTypes;simp [hh] at nj;simp [nj]
 have hin:x∈o.op.operands:=by simp [ho,Op.operands,Call.operands,bI,ha']
 simp only [cQ] at he
 split at he <;> first | (cases he;done) | skip
 rename_i n off len h1
 split at he <;> first | (cases he;done) | skip
 rename_i el' z' l cs hH
 injection he with he
 subst he
 obtain ⟨b1,b2⟩:=aZ
 refine ⟨OT.write fun p μ M a w hk hp aZ=> ?_,sub_one hH⟩
 have hpos:0<len*ti.size:=Nat.mul_pos b1 hsz.2
 rcases aZ with ⟨_,_,rfl⟩ | aZ
 ·simp at b2;omega
 obtain ⟨h0,vs,hb,DJ,hl2,Hg,hl4,hr⟩:=aZ
 obtain ⟨A,cp,e1,e2,e3⟩:=(by simpa only [bY] using (hk.get hin hx h1).rep:∃ A c,a.eval x= .slice (some A) len c∧len≤c∧(len≠0→A=⟨(μ n).blk,off,none⟩))
 have e3:=e3 (by omega)
 subst e3
 obtain ⟨v,hv,D8,hzone⟩:=fG hz (p:=p) (μ:=μ) (M:=M)
 have hvs:v.cells.size=ti.size:=by have:=D8.length;simp at this;omega
 have hm:=rH D8 len (len*ti.size) (by rw [hsz.1])
 have hle:l*z'≤vs.size:=by rw [hl4];exact Nat.mul_le_mul_right z' hl2
 have hzl:((Array.range (len*ti.size)).map (v.cells[· % v.cells.size]!)).toList=(Builtin.zeroCells v.cells len).toList:=by
  unfold Builtin.zeroCells;rw [hvs]
 have hlen:(Builtin.zeroCells v.cells len).toList.length=len*ti.size:=by rw [← hzl];simp
 rw [hzl] at hm
 have hone:∀ u∈(Builtin.zeroCells v.cells len).toList,u.oneCell'=true:=by
  refine aM.Al ?_ hm
  rw [List.all_eq_true] at hzone ⊢
  intro y hy
  rw [List.mem_flatten] at hy
  obtain ⟨q,hq,hy⟩:=hy
  rw [List.eq_of_mem_replicate hq] at hy
  exact hzone y hy
 obtain ⟨w',hr',q1,q2,q3,q4,q5,q6⟩:=fH (P:=P) (Builtin.zeroCells v.cells len).toList vs w off 0 hb (by rw [hlen];omega) hone
 have hlr:((List.replicate len z).flatten).length=len*ti.size:=by rw [hm.length.symm,hlen]
 refine ⟨.tuple #[],w',.inl ?_,Rp.any,.inr ⟨h0,_,q1,?_,hl2,Hg,?_,?_⟩,fun b hb=>q2 b (hb h0),q3,q4,q5,q6⟩
 ·obtain ⟨len',rfl⟩:∃ m,len=m+1:=⟨len - 1,by omega⟩
  simp [execOp,ho,resolve,bI,ha',hat',invoke,builtin,Builtin.clear_,run_underlying ht,e1,hv,hr']
 ·rw [pM (by omega)]
  simp only [List.length_append,List.length_take,List.length_drop,hlr]
  omega
 ·simp only [j7,List.size_toArray,List.length_append,List.length_take,List.length_drop,Array.length_toList,Nat.add_zero] at hlen ⊢
  omega
 ·have:=aM.bE (o:=off) hr hm (by omega)
  rw [← tU _ _ _ _ (by omega) (by simpa using hle)] at this
  simpa using this
theorem OT.Gd {k n m:Nat}{ob iY om:Ob}{v:SV}(hnm:n≠m)(h:∀ (p:Nat→Prop) (μ:Nat→Nm) (M:Mem) (a:Act) (w:World),fW E o.op.operands p μ M a→p n→p m→bS p μ M w (μ n) ob→bS p μ M w (μ m) om→
  ∃ u w',((execOp a.eval o).run P w= .ok (.value u) w'∨((execOp a.eval o).run P w= .ok .skip w'∧u=undef))∧Rp p μ M v u∧bS p μ M w' (μ n) iY∧
   (∀ b,((μ n).live=true→b≠(μ n).blk)→w'.heap[b]? =w.heap[b]?)∧w'.heap.size=w.heap.size∧w'.os=w.os∧Tape w w'∧w'.output=w.output):
  OT P o E [(n,ob),(m,om)] (fun q=>k≤q∧q<k+0) v [(n,iY),(m,om)]:=by
 intro rd p μ M a w K Q hnew hkn hS hK
 have hlk:∀ (o1:Ob) q,lk [(n,o1),(m,om)] q=if q=n then some o1 else if q=m then some om else none:=fun o1 q=>by rw [ag,bC]
 obtain ⟨hp,aZ,hmn⟩:=hS.obs n ob (by rw [hlk,if_pos rfl])
 obtain ⟨hpm,hom,hmm⟩:=hS.obs m om (by rw [hlk,if_neg (Ne.symm hnm),if_pos rfl])
 have hne:(μ n).live=true→(μ m).live=true→(μ n).blk≠(μ m).blk:=fun l1 l2 e=>hnm (hS.inj n m (by rw [hlk,if_pos rfl];simp) (by rw [hlk,if_neg (Ne.symm hnm),if_pos rfl];simp) l1 l2 e)
 obtain ⟨u,w',hr,hu,hob',hother,hsz,h1,h2,h3⟩:=h p μ M a w hkn hp hpm aZ hom
 have hpk:∀ m,p m→(fun m=>p m∨(k≤m∧m<k+0)) m:=fun m hm=> .inl hm
 have key:K (a.put o.dst u) w':=by
  refine hK u μ M w' (hu.more hpk (fun _ _=>rfl) (Mem.le_refl M)) ⟨⟨fun b i x hm=> ?_,hS.mem.jK⟩,fun q ob'' hm=> ?_,fun q q' hm hm' lm lm' e=> ?_⟩
   ⟨fun _ _=>rfl,Mem.le_refl M,fun b hb hf=>⟨hother b fun l e=>hf n (by rw [hlk,if_pos rfl];simp) l e.symm,fun _=>rfl⟩,by omega,fun q hm=> ?_,h1,h2,h3⟩
  ·have hb:(μ n).live=true→b≠(μ n).blk:=fun l e=>by rw [e,hmn l] at hm;cases hm
   rw [← hS.mem b i x hm]
   unfold World.cell?
   rw [hother b hb]
  ·rw [hlk] at hm
   split at hm
   ·rename_i e
    subst e
    simp at hm
    subst hm
    exact ⟨.inl hp,hob'.more hpk (fun _ _=>rfl) (Mem.le_refl M) fun _=>rfl,hmn⟩
   ·split at hm
    ·rename_i e
     subst e
     simp at hm
     subst hm
     exact ⟨.inl hpm,hom.more hpk (fun _ _=>rfl) (Mem.le_refl M) fun l=>hother _ fun l' e=>hne l' l e.symm,hmm⟩
    ·cases hm
  ·refine hS.inj q q' ?_ ?_ lm lm' e
   ·rw [hlk] at hm ⊢
    split at hm
    ·rename_i e;rw [if_pos e];simp
    ·rename_i e;rw [if_neg e];exact hm
   ·rw [hlk] at hm' ⊢
    split at hm'
    ·rename_i e;rw [if_pos e];simp
    ·rename_i e;rw [if_neg e];exact hm'
  ·refine .inr ⟨by omega,?_⟩
   rw [hlk] at hm ⊢
   split at hm
   ·rename_i e;rw [if_pos e];simp
   ·rename_i e;rw [if_neg e];exact hm
 rcases hr with hr | ⟨hr,rfl⟩
 ·exact fE hr key
 ·exact uZ hr key
theorem wj {p:Nat→Prop}{μ:Nat→Nm}{M:Mem}{w:World}{b:Nat}(hmem:∀ b i u,M b i=some u→w.cell? ⟨b,i,none⟩=some u):∀ (l:List DV) (q:Nat),cq M b q l→
  ∃ us:List Value,us.length=l.length∧aM p μ M (l.map .d) us∧∀ (j:Nat) (u:Value),us[j]? =some u→w.cell? ⟨b,q+j,none⟩=some u
 | [],q,_=>⟨[],rfl,aM.aN.2 rfl,fun j u h=>by simp at h⟩
 | c ::l,q,hq=>by
  simp only [cq] at hq
  obtain ⟨⟨u,hu,hd⟩,hq⟩:=hq
  obtain ⟨us,l1,l2,l3⟩:=wj (p:=p) (μ:=μ) hmem l (q+1) hq
  refine ⟨u::us,by simp [l1],aM.aC.2 ⟨u,us,rfl,Rp.bN.2 hd,l2⟩,fun j x hj=> ?_⟩
  cases j with
  | zero=>simp at hj;subst hj;exact hmem b _ _ (by simpa using hu)
  | succ j=>
   have:=l3 j x (by simpa using hj)
   rwa [show q+1+j=q+(j+1) by omega] at this
theorem OT.Ge {k n:Nat}{ob iY:Ob}{v:SV}(h:∀ (p:Nat→Prop) (μ:Nat→Nm) (M:Mem) (a:Act) (w:World),fW E o.op.operands p μ M a→p n→bS p μ M w (μ n) ob→(∀ b i u,M b i=some u→w.cell? ⟨b,i,none⟩=some u)→
  ∃ u w',((execOp a.eval o).run P w= .ok (.value u) w'∨((execOp a.eval o).run P w= .ok .skip w'∧u=undef))∧Rp p μ M v u∧bS p μ M w' (μ n) iY∧
   (∀ b,((μ n).live=true→b≠(μ n).blk)→w'.heap[b]? =w.heap[b]?)∧w'.heap.size=w.heap.size∧w'.os=w.os∧Tape w w'∧w'.output=w.output):
  OT P o E [(n,ob)] (fun m=>k≤m∧m<k+0) v [(n,iY)]:=by
 intro rd p μ M a w K Q hnew hkn hS hK
 obtain ⟨hp,aZ,hmn⟩:=hS.obs n ob (by simp [bC])
 obtain ⟨u,w',hr,hu,hob',hother,hsz,h1,h2,h3⟩:=h p μ M a w hkn hp aZ (fun b i u hm=>hS.mem b i u hm)
 have hpk:∀ m,p m→(fun m=>p m∨(k≤m∧m<k+0)) m:=fun m hm=> .inl hm
 have key:K (a.put o.dst u) w':=by
  refine hK u μ M w' (hu.more hpk (fun _ _=>rfl) (Mem.le_refl M)) ⟨⟨fun b i x hm=> ?_,hS.mem.jK⟩,fun m ob'' hm=> ?_,fun m m' hm hm' _ _ _=> ?_⟩
   ⟨fun _ _=>rfl,Mem.le_refl M,fun b hb hf=>⟨hother b fun l e=>hf n (by simp [bC]) l e.symm,fun _=>rfl⟩,by omega,fun m hm=> ?_,h1,h2,h3⟩
  ·have hb:(μ n).live=true→b≠(μ n).blk:=fun l e=>by rw [e,hmn l] at hm;cases hm
   rw [← hS.mem b i x hm]
   unfold World.cell?
   rw [hother b hb]
  ·rw [bC] at hm
   split at hm
   ·rename_i e
    subst e
    simp at hm
    subst hm
    exact ⟨.inl hp,hob'.more hpk (fun _ _=>rfl) (Mem.le_refl M) fun _=>rfl,hmn⟩
   ·cases hm
  ·rw [bC] at hm hm'
   split at hm <;> split at hm' <;> first | omega | simp at hm hm'
  ·rw [bC] at hm
   split at hm
   ·rename_i e
    subst e
    exact .inr ⟨by omega,by simp [bC]⟩
   ·simp at hm
 rcases hr with hr | ⟨hr,rfl⟩
 ·exact fE hr key
 ·exact uZ hr key
theorem Gf {c:Call}{t el t':TypeId}{x y:Operand}{x' y':X}{ti:TypeInfo}(ho:o.op= .call c)(bI:c.callee= .builtin .copy)(ha:c.args.toList=[x,y])(nj:c.argTypes.toList=[t,t'])(ht:P.underlying t=some (.slice el))
  (hi:P.info? el=some ti) (hx:cX x=some x') (hy:cX y=some y') (he:cQ E H k own (.copy el ti.size x' y')=some e) (aZ:e.ob):Sound P o E H k e:=by
 have ha':c.args= #[x,y]:=by cases hh:c.args;simp [hh] at ha;simp [ha]
 have hat':c.argTypes= #[t,t']:=by cases hh:c.argTypes;simp [hh] at nj;simp [nj]
 have hin:x∈o.op.operands∧y∈o.op.operands:=by simp [ho,Op.operands,Call.operands,bI,ha']
 simp only [cQ] at he
 split at he
 rotate_left
 ·
  rename_i n m m0 cs h1 h2
  split at he <;> first | (cases he;done) | skip
  rename_i tb sz' len' cs' hH
  injection he with he
  subst he
  obtain ⟨b0,b1,b2,b3,b4⟩:=aZ
  cases b0;cases b1;cases b2
  refine ⟨OT.Ge fun p μ M a w hk hp aZ hmem=> ?_,sub_one hH⟩
  obtain ⟨A',c',f1,f2,f3,f4⟩:=(by simpa [bH] using Rp.bN.1 (hk.get hin.2 hy h2):∃ A cp,a.eval y= .slice A m cp∧m≤cp∧(m=0→cs=[])∧(0<m→∃ b q,A=some ⟨b,q,none⟩∧cq M b q cs))
  rcases Nat.eq_zero_or_pos m with h0 | h0
  ·subst h0
   have hcs:=f3 rfl
   subst hcs
   have hx0:∃ A c,a.eval x= .slice A 0 c:=by
    rcases (hk.get hin.1 hx h1).iZ with ⟨_,e1⟩ | ⟨_,_,A,e1⟩
    ·exact ⟨_,_,e1⟩
    ·exact ⟨_,_,e1⟩
   obtain ⟨A,c0,e1⟩:=hx0
   refine ⟨.int .i64 (0:Nat),w,.inl ?_,Rp.aR.2 rfl,?_,fun b hb=>rfl,rfl,rfl,Tape.refl _,rfl⟩
   ·have hf:(Builtin.firstCells ti.size 0 (.slice A' 0 c')).run P w= .ok #[] w:=by
     cases A' with
     | none=>rfl
     | some ad=>exact run_firstCells_some (P:=P) w ti.size 0 ad 0 c' [] (by simp) (by simp)
    cases A with
    | none=>simp [execOp,ho,resolve,bI,ha',hat',invoke,builtin,Builtin.copy_,run_underlying ht,e1,f1,Builtin.lenOf,sizeOf,typeInfo,hi,hf,goInt]
    | some ad=>simp [execOp,ho,resolve,bI,ha',hat',invoke,builtin,Builtin.copy_,run_underlying ht,e1,f1,Builtin.lenOf,sizeOf,typeInfo,hi,hf,goInt,storeCells]
   ·rcases aZ with ⟨q1,q2,q3⟩ | ⟨q0,vs,hb,q1,q2,q3,q4,hr'⟩
    ·exact .inl ⟨q1,q2,rfl⟩
    ·exact .inr ⟨q0,vs,hb,by simp,q2,q3,q4,by simpa using aM.aN.2 rfl⟩
  ·obtain ⟨b,q,rfl,hR⟩:=f4 h0
   obtain ⟨us,hul,hru,husc⟩:=wj (p:=p) (μ:=μ) hmem cs q hR
   rw [b4] at hul
   rcases (hk.get hin.1 hx h1).iZ with ⟨hl,e1⟩ | ⟨_,hz,_⟩
   rotate_left
   ·omega
   rcases aZ with ⟨hl',_⟩ | ⟨_,vs,hb,q1,q2,q3,q4,hr'⟩
   ·rw [hl] at hl';cases hl'
   have hone':∀ u∈us,u.oneCell'=true:=aM.Al (by simp [SV.cL]) hru
   have hf:=run_firstCells_some (P:=P) w ti.size m ⟨b,q,none⟩ m c' us hul (fun j u hj=>by rw [de];exact husc j u hj)
   have hle:m*ti.size≤vs.size:=by rw [q4];exact Nat.mul_le_mul_right _ q2
   obtain ⟨w',hr'',r1,r2,r3,r4,r5,r6⟩:=fH (P:=P) us vs w 0 0 hb (by rw [hul];omega) hone'
   refine ⟨.int .i64 (m:Nat),w',.inl ?_,Rp.aR.2 rfl,.inr ⟨hl,_,r1,by simpa using b4,q2,q3,?_,?_⟩,fun b hb=>r2 b (hb hl),r3,r4,r5,r6⟩
   ·simp [execOp,ho,resolve,bI,ha',hat',invoke,builtin,Builtin.copy_,run_underlying ht,e1,f1,Builtin.lenOf,sizeOf,typeInfo,hi,hf,hr'',goInt]
   ·simp only [j7,List.size_toArray,List.length_append,List.length_take,List.length_drop,Array.length_toList,Nat.add_zero,hul] at hle ⊢
    omega
   ·have e:List.take (m*ti.size) (j7 vs.toList (0+0) us)=us:=by
     simp only [j7,Nat.add_zero,List.take_zero,List.nil_append,hul,Nat.zero_add]
     rw [List.take_append_of_le_length (by omega),List.take_of_length_le (by omega)]
    show aM p μ M (cs.map .d) (List.take (m*ti.size) (j7 vs.toList (0+0) us))
    rw [e];exact hru
 ·cases he
 rename_i n off len m off' len' h1 h2
 split at he <;> first | (cases he;done) | skip
 rename_i tb cs tb' cs' hH hH'
 split at he <;> first | (cases he;done) | skip
 rename_i hone
 injection he with he
 subst he
 obtain ⟨b0,b1,b2,b3,b4⟩:=aZ
 refine ⟨OT.Gd b0 fun p μ M a w hk hp hpm aZ hom=> ?_,fun q ob hq=> ?_⟩
 ·obtain ⟨h0,vs,hb,hr⟩:=aZ
  obtain ⟨h0',vs',hb',hr'⟩:=hom
  obtain ⟨A,cp,e1,e2,e3⟩:=(by simpa only [bY] using (hk.get hin.1 hx h1).rep:∃ A c,a.eval x= .slice (some A) len c∧len≤c∧(len≠0→A=⟨(μ n).blk,off,none⟩))
  have e3:=e3 (by omega)
  subst e3
  obtain ⟨A,cp',f1,f2,f3⟩:=(by simpa only [bY] using (hk.get hin.2 hy h2).rep:∃ A c,a.eval y= .slice (some A) len' c∧len'≤c∧(len'≠0→A=⟨(μ m).blk,off',none⟩))
  have f3:=f3 (by omega)
  subst f3
  subst b4
  let us:List Value:=(vs'.toList.drop off').take (len*ti.size)
  have hru:aM p μ M ((cs'.drop off').take (len*ti.size)) us:=aM.take _ (aM.drop _ hr')
  have hul:us.length=len*ti.size:=by rw [hru.length];simp;omega
  have hone':∀ u∈us,u.oneCell'=true:=aM.Al (by
   rw [List.all_eq_true] at hone ⊢
   intro z hz
   exact hone z (List.mem_of_mem_drop (List.mem_of_mem_take hz))) hru
  have hvl:vs.size=cs.length:=by have:=hr.length;simpa using this
  have hf:=run_firstCells_some (P:=P) w ti.size len ⟨(μ m).blk,off',none⟩ len cp' us hul (fun j u hj=>by
   rw [de,cell_of hb']
   simp only [us,List.getElem?_take,List.getElem?_drop] at hj
   split at hj
   ·simpa using hj
   ·cases hj)
  obtain ⟨w',hr'',q1,q2,q3,q4,q5,q6⟩:=fH (P:=P) us vs w off 0 hb (by rw [hul];omega) hone'
  refine ⟨.int .i64 (len:Nat),w',.inl ?_,Rp.aR.2 rfl,⟨h0,_,q1,?_⟩,fun b hb=>q2 b (hb h0),q3,q4,q5,q6⟩
  ·simp [execOp,ho,resolve,bI,ha',hat',invoke,builtin,Builtin.copy_,run_underlying ht,e1,f1,Builtin.lenOf,sizeOf,typeInfo,hi,hf,hr'',goInt]
  ·have:=aM.bE (o:=off) hr hru (by simp;omega)
   simpa using this
 ·rw [ag,bC] at hq
  split at hq
  ·rename_i e;subst e;rw [← hq];exact hH
  ·split at hq
   ·rename_i e;subst e;rw [← hq];exact hH'
   ·cases hq
end
end
section
section
variable {P:Program} {o:Oper} {E:Nat→Option SV} {H:Nat→Option Ob} {k:Nat} {own:Bool} {e:j4}
theorem Am {so:SO}(hc:cO P o.op=some so)(he:cQ E H k own so=some e)(aZ:e.ob):Sound P o E H k e:=by
 cases hop:o.op <;> rw [hop] at hc <;> simp only [cO] at hc <;> try (cases hc;done)
 case move x=>
  obtain ⟨y,hy,rfl⟩:=Option.map_eq_some_iff.1 hc
  exact Hw (.inl hop) hy he
 case assign x=>
  obtain ⟨y,hy,rfl⟩:=Option.map_eq_some_iff.1 hc
  exact Hw (.inr hop) hy he
 case pick c x y=>
  split at hc <;> first | (cases hc;done) | skip
  rename_i h1 h2 h3
  injection hc with hc;subst hc
  exact FV hop h1 h2 h3 he
 case alloc t=>
  obtain ⟨z,hz,rfl⟩:=Option.map_eq_some_iff.1 hc
  exact DU hop hz he
 case box t x=>
  obtain ⟨y,hy,rfl⟩:=Option.map_eq_some_iff.1 hc
  exact Hx hop hy he
 case build t parts=>
  split at hc <;> first | (cases hc;done) | skip
  ·rename_i fs z ht hz
   split at hc <;> first | (cases hc;done) | skip
   rename_i Iz
   obtain ⟨qs,hq,rfl⟩:=Option.map_eq_some_iff.1 hc
   exact F6 hop ht hz Iz hq he aZ
  ·rename_i n el z ht hz
   split at hc <;> first | (cases hc;done) | skip
   rename_i j hj
   obtain ⟨qs,hq,rfl⟩:=Option.map_eq_some_iff.1 hc
   exact F7 hop ht hz hj hq he aZ
 case buildSlice t len parts=>
  split at hc <;> first | (cases hc;done) | skip
  rename_i el ht
  split at hc <;> first | (cases hc;done) | skip
  rename_i j z hj hz
  split at hc <;> first | (cases hc;done) | skip
  rename_i hsz
  obtain ⟨qs,hq,rfl⟩:=Option.map_eq_some_iff.1 hc
  exact HF hop ht hj hz hsz hq he aZ
 case load t x=>
  split at hc <;> first | (cases hc;done) | skip
  rename_i y sz h1 h2
  injection hc with hc;subst hc
  exact FW hop h1 h2 he aZ
 case store t x v=>
  split at hc <;> first | (cases hc;done) | skip
  rename_i h1 h2 h3
  injection hc with hc;subst hc
  exact D1 hop h3 h1 h2 he aZ
 case nilCheck x=>
  obtain ⟨y,hy,rfl⟩:=Option.map_eq_some_iff.1 hc
  exact FX hop hy he
 case binOp op t x y t'=>
  split at hc
  ·rename_i hq
   split at hc
   ·split at hc <;> first | (cases hc;done) | skip
    rename_i h1 h2
    injection hc with hc;subst hc
    exact Fj hop h1 h2 he aZ
   ·rename_i ht
    split at hc <;> first | (cases hc;done) | skip
    rename_i h1 h2
    injection hc with hc;subst hc
    exact HE hop hq ht h1 h2 he
   ·rename_i fs ht
    split at hc <;> first | (cases hc;done) | skip
    rename_i h1 h2 h3
    split at hc <;> first | (cases hc;done) | skip
    rename_i hg
    injection hc with hc;subst hc
    exact Fl hop hq (.inl ⟨_,ht⟩) h3 (by simpa using hg) h1 h2 he
   ·rename_i n el ht
    split at hc <;> first | (cases hc;done) | skip
    rename_i h1 h2 h3
    split at hc <;> first | (cases hc;done) | skip
    rename_i hg
    injection hc with hc;subst hc
    exact Fl hop hq (.inr ⟨_,_,ht⟩) h3 (by simpa using hg) h1 h2 he
   ·split at hc <;> first | (cases hc;done) | skip
    rename_i h1 h2
    injection hc with hc;subst hc
    exact D0 hop hq h1 h2 he aZ
  ·split at hc <;> first | (cases hc;done) | skip
   rename_i h1 h2
   injection hc with hc;subst hc
   exact Fj hop h1 h2 he aZ
 case unOp op t x=>
  cases op <;> simp only at hc <;> try (cases hc;done)
  ·obtain ⟨y,hy,rfl⟩:=Option.map_eq_some_iff.1 hc
   exact Hz hop hy he
  ·obtain ⟨y,hy,rfl⟩:=Option.map_eq_some_iff.1 hc
   exact Hy hop hy he
 case convert s d x=>
  split at hc <;> first | (cases hc;done) | skip
  rename_i h1 h2 h3
  injection hc with hc;subst hc
  exact FY hop h1 h2 h3 he
 case makeFunc f a c=>
  split at hc <;> first | (cases hc;done) | skip
  rename_i h1 h2
  injection hc with hc;subst hc
  exact HB hop h1 h2 he
 case makeMap t r=>
  cases r <;> simp only at hc <;> try (cases hc;done)
  injection hc with hc;subst hc
  exact HC hop he
 case makeSlice t l c=>
  split at hc <;> first | (cases hc;done) | skip
  rename_i el l' c' ht hl hc'
  split at hc <;> first | (cases hc;done) | skip
  rename_i i z hi hz
  split at hc <;> first | (cases hc;done) | skip
  rename_i hsz
  injection hc with hc;subst hc
  exact HG hop ht hi hz hsz hl hc' he aZ
 case slice t x lo hi mx=>
  cases mx with
  | some m=>
   cases lo <;> cases hi <;> simp only at hc <;> try (cases hc;done)
   rename_i h
   split at hc <;> first | (cases hc;done) | skip
   rename_i el x' h' m' ht hx hh hm
   split at hc <;> first | (cases hc;done) | skip
   rename_i j hj
   injection hc with hc;subst hc
   exact F8 hop ht hj hx hh hm he aZ
  | none=>
  simp only at hc
  split at hc <;> first | (cases hc;done) | skip
  ·rename_i el x' lo' hi' ht hx hl hh
   split at hc <;> first | (cases hc;done) | skip
   rename_i j hj
   injection hc with hc;subst hc
   exact HH hop ht hj hx hl hh he aZ
  ·rename_i nn el x' lo' hi' ht hx hl hh
   split at hc <;> first | (cases hc;done) | skip
   rename_i j hj
   injection hc with hc;subst hc
   exact F9 hop ht hj hx hl hh he aZ
 case fieldAddr s x f=>
  split at hc <;> first | (cases hc;done) | skip
  rename_i fs x' hs hx
  split at hc <;> first | (cases hc;done) | skip
  rename_i fl hf
  split at hc <;> first | (cases hc;done) | skip
  rename_i i hi
  split at hc <;> first | (cases hc;done) | skip
  rename_i IQ
  injection hc with hc;subst hc
  exact HD hop hs hf hi IQ hx he
 case field t x f=>
  split at hc <;> first | (cases hc;done) | skip
  rename_i fs x' hs hx
  split at hc <;> first | (cases hc;done) | skip
  rename_i fl hf
  split at hc <;> first | (cases hc;done) | skip
  rename_i sz hz
  injection hc with hc;subst hc
  exact DX hop hs hf hz hx he aZ
 case indexAddr t x i=>
  split at hc <;> first | (cases hc;done) | skip
  ·rename_i n el x' i' ht hx hi
   split at hc <;> first | (cases hc;done) | skip
   rename_i j hj
   injection hc with hc;subst hc
   exact F4 hop ht hj hx hi he aZ
  ·rename_i el x' i' ht hx hi
   split at hc <;> first | (cases hc;done) | skip
   rename_i j hj
   injection hc with hc;subst hc
   exact F5 hop ht hj hx hi he aZ
 case index t x i=>
  split at hc <;> first | (cases hc;done) | skip
  ·rename_i n el x' i' ht hx hi
   split at hc <;> first | (cases hc;done) | skip
   rename_i j sz hj hz
   split at hc <;> first | (cases hc;done) | skip
   rename_i Fk
   injection hc with hc;subst hc
   exact DY hop ht hj hz (by cases sz <;> simp_all [BD]) hx hi he aZ
  ·rename_i x' i' ht hx hi
   injection hc with hc;subst hc
   exact F3 hop ht hx hi he aZ
 case extract x i=>
  obtain ⟨y,hy,rfl⟩:=Option.map_eq_some_iff.1 hc
  exact HA hop hy he
 case lookup t m i ok=>
  split at hc <;> first | (cases hc;done) | skip
  rename_i kt et m' i' ht hm hi
  split at hc <;> first | (cases hc;done) | skip
  rename_i ks z hks hz
  injection hc with hc;subst hc
  exact Ga hop ht hm hi hks hz he
 case mapUpdate t m i v=>
  split at hc <;> first | (cases hc;done) | skip
  rename_i kt et m' i' v' ht hm hi hv
  split at hc <;> first | (cases hc;done) | skip
  rename_i ks hks
  injection hc with hc;subst hc
  exact BJ (.inl hop) ht hm hi hv hks he
 case insert t m i v=>
  split at hc <;> first | (cases hc;done) | skip
  rename_i kt et m' i' v' ht hm hi hv
  split at hc <;> first | (cases hc;done) | skip
  rename_i ks hks
  injection hc with hc;subst hc
  exact BJ (.inr hop) ht hm hi hv hks he
 case mapEntry t m i=>
  split at hc <;> first | (cases hc;done) | skip
  rename_i kt et m' i' ht hm hi
  split at hc <;> first | (cases hc;done) | skip
  rename_i ks z hks hz
  injection hc with hc;subst hc
  exact D6 hop ht hm hi hks hz he
 case entryStore t m s x=>
  split at hc <;> first | (cases hc;done) | skip
  rename_i m' s' x' hm hs hx
  injection hc with hc;subst hc
  exact D7 hop hm hs hx he
 case range t m=>
  split at hc <;> first | (cases hc;done) | skip
  rename_i kt et m' ht hm
  injection hc with hc;subst hc
  exact BM hop ht hm he
 case next it s=>
  split at hc
  ·cases hc
  ·obtain ⟨y,hy,rfl⟩:=Option.map_eq_some_iff.1 hc
   simp [cQ] at he
 case entry it=>
  obtain ⟨y,hy,rfl⟩:=Option.map_eq_some_iff.1 hc
  exact BN hop hy he aZ
 case call c=>
  split at hc <;> first | (cases hc;done) | skip
  ·rename_i x t bI ha nj
   split at hc <;> first | (cases hc;done) | skip
   ·rename_i el x' ht hx
    injection hc with hc;subst hc
    exact qA hop bI ha nj ht hx he
   ·rename_i kt et x' ht hx
    injection hc with hc;subst hc
    exact Gb hop bI ha nj ht hx he
   ·rename_i x' ht hx
    injection hc with hc;subst hc
    exact FZ hop bI ha nj ht hx he
  ·rename_i x t bI ha nj
   split at hc <;> first | (cases hc;done) | skip
   rename_i el x' ht hx
   split at hc <;> first | (cases hc;done) | skip
   rename_i i z hi hz
   split at hc <;> first | (cases hc;done) | skip
   rename_i hsz
   injection hc with hc;subst hc
   exact HL hop bI ha nj ht hi hz hsz hx he aZ
  ·rename_i x y t t' bI ha nj
   split at hc <;> first | (cases hc;done) | skip
   rename_i el x' y' ht hx hy
   split at hc <;> first | (cases hc;done) | skip
   rename_i i hi
   injection hc with hc;subst hc
   exact Gf hop bI ha nj ht hi hx hy he aZ
  ·rename_i m i t t' bI ha nj
   split at hc <;> first | (cases hc;done) | skip
   rename_i kt et m' i' ht hm hi
   split at hc <;> first | (cases hc;done) | skip
   rename_i ks hks
   injection hc with hc;subst hc
   exact Gc hop bI ha nj ht hm hi hks he
  ·rename_i x y t t' bI ha nj
   split at hc <;> first | (cases hc;done) | skip
   rename_i htt
   subst htt
   split at hc <;> first | (cases hc;done) | skip
   rename_i el x' y' ht hx hy
   split at hc <;> first | (cases hc;done) | skip
   rename_i i z hi hz
   split at hc <;> first | (cases hc;done) | skip
   rename_i hzl
   injection hc with hc;subst hc
   exact HI hop bI ha nj ht hi hz hzl hx hy he aZ
  ·split at hc <;> first | (cases hc;done) | skip
   injection hc with hc;subst hc
   simp [cQ] at he
  ·rename_i x y bI ha
   split at hc <;> first | (cases hc;done) | skip
   rename_i hx hy
   injection hc with hc;subst hc
   exact IN hop bI ha hx hy he
  ·rename_i x y bI ha
   split at hc <;> first | (cases hc;done) | skip
   rename_i hx hy
   injection hc with hc;subst hc
   exact IP hop bI ha hx hy he
def bZ:SO→Bool
 | .alloc .. | .box .. | .store .. | .jL .. | .app .. | .DQ | .He .. | .Aj .. | .DR .. | .rD .. | .nh .. | .copy .. | .qp .. | .qq .. | .Hv .. | .call .. =>false
 | _=>true
end
end
end Go.Sl
