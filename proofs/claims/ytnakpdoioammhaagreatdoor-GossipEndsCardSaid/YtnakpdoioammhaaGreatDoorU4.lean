/-
 The machine does what 'sop' says: maps with flat keys.
-/
import Derived.Test.YtnakpdoioammhaaGreatDoorU3
import Derived.Maps.Keyed
set_option linter.unusedSectionVars false
set_option linter.unusedVariables false
set_option linter.unusedSimpArgs false
namespace Go.Sl
open Go.RowKit
section
section
variable {P:Program}
theorem pF (em:Bool)(d:Nat)(ih:∀ (t:TypeId) (ks:List Bool) (xs:List Value) (w:World),bu P d t=some ks→xs.length=ks.length→(Instr.checkKey em d t (valOf P t xs)).run P w= .ok () w)
  (xs : List Value) (w:World):∀ (fs:List Field) (o:Nat) (ks:List Bool),j6 (bu P d) o fs=some ks→o+ks.length≤xs.length→
   (forIn (m:=Sem) fs PUnit.unit fun f _=>do
    if f.name≠ "_" then
     Instr.checkKey em d f.type (← part f.type xs.toArray f.offset)
    pure (ForInStep.yield PUnit.unit)).run P w= .ok PUnit.unit w:=by
 intro fs
 induction fs with
 | nil=>intro o ks h _;simp
 | cons f fs ihf=>
  intro o ks h hx
  simp only [j6] at h
  split at h
  ·cases h
  ·rename_i hno
   simp only [not_or,ne_eq,Decidable.not_not] at hno
   split at h
   ·rename_i ks1 h1
    split at h
    ·rename_i ks2 h2
     simp at h
     subst h
     simp at hx
     have hr:=ihf (o+ks1.length) ks2 h2 (by omega)
     have hi:=ih f.type ks1 ((xs.drop o).take ks1.length) w h1 (by simp;omega)
     simp only [List.forIn_cons,Sem.run_bind,ne_eq,hno.1,not_false_eq_true,if_true,hno.2,jJ h1 xs o (by omega),Result.andThen_ok,hi,Sem.run_pure]
     simpa using hr
    ·cases h
   ·cases h
theorem tC (em:Bool)(d:Nat)(ih:∀ (t:TypeId) (ks:List Bool) (xs:List Value) (w:World),bu P d t=some ks→xs.length=ks.length→(Instr.checkKey em d t (valOf P t xs)).run P w= .ok () w)
  {e:TypeId} {ks:List Bool} (he:bu P d e=some ks) (xs:List Value) (w:World):∀ (n k:Nat),(k+n)*ks.length≤xs.length→
   (forIn (m:=Sem) (List.range' k n) PUnit.unit fun i _=>do
    let s ← sizeOf e
    let v ← part e xs.toArray (i*s)
    Instr.checkKey em d e v
    pure (ForInStep.yield PUnit.unit)).run P w= .ok PUnit.unit w:=by
 intro n
 obtain ⟨i',hi',hs'⟩:=j8 he
 induction n with
 | zero=>intro k _;simp
 | succ n ihn=>
  intro k hx
  have hx':k*ks.length+ks.length≤xs.length:=by
   have:(k+(n+1))*ks.length=k*ks.length+ks.length+n*ks.length:=by rw [Nat.add_mul,Nat.add_mul];omega
   omega
  have hr:=ihn (k+1) (by rwa [show k+1+n=k+(n+1) by omega])
  have hi:=ih e ks ((xs.drop (k*ks.length)).take ks.length) w he (by simp;omega)
  simp only [List.range'_succ,List.forIn_cons,Sem.run_bind,di hi',hs',Result.andThen_ok,jJ he xs _ hx',hi,Sem.run_pure]
  exact hr
theorem tD (em:Bool):∀ (d:Nat) (t:TypeId) (ks:List Bool) (xs:List Value) (w:World),bu P d t=some ks→xs.length=ks.length→(Instr.checkKey em d t (valOf P t xs)).run P w= .ok () w:=by
  intro d
  induction d with
  | zero=>intro t ks xs w h;simp [bu] at h
  | succ d ih=>
    intro t ks xs w h hl
    simp only [bu] at h
    split at h
    · rename_i i h1 h2
      generalize valOf P t xs=v
      cases v <;> simp [Instr.checkKey,run_underlying h1]
    · rename_i k i h1 h2
      generalize valOf P t xs=v
      cases v <;> simp [Instr.checkKey,run_underlying h1]
    · rename_i fs i h1 h2
      split at h
      · cases h
      · split at h
        · rename_i ks' h3
          split at h
          · rename_i hsize
            simp at h;subst h
            have ht:dh P t=some (some i.size):=by simp [dh,h1,h2]
            have:=pF (P:=P) em d ih xs w fs.toList 0 ks' h3 (by omega)
            simp only [valOf,ht,Instr.checkKey,Sem.run_bind,run_underlying h1,Result.andThen_ok]
            simp only [← Array.forIn_toList] 
            rw [this];rfl
          · cases h
        · cases h
    · rename_i n e i h1 h2
      split at h
      · rename_i ks' h3
        split at h
        · rename_i hsize
          simp at h;subst h
          have ht:dh P t=some (some i.size):=by simp [dh,h1,h2]
          rw [j7] at hl
          have:=tC (P:=P) em d ih h3 xs w n 0 (by simp;omega)
          simp only [valOf,ht,Instr.checkKey,Sem.run_bind,run_underlying h1,Result.andThen_ok]
          simp only [Std.Legacy.Range.forIn_eq_forIn_range',Std.Legacy.Range.size,Nat.sub_zero,Nat.add_sub_cancel,Nat.div_one]
          rw [this];rfl
        · cases h
      · cases h
    · cases h
theorem Fj:∀ {k:Bool} {x y:Value},CA k x y=some true→x=y:=by
 intro k x y h
 cases k <;> cases x <;> cases y <;> simp [CA] at h
 ·subst h;rfl
 ·obtain ⟨rfl,rfl⟩:=h;rfl
theorem xA:∀ {ks:List Bool} {xs ys:List Value},dO ks xs ys=some true→xs=ys
 | [],[],[],_=>rfl
 | [],[],_::_,h=>by simp [dO] at h
 | [],_::_,_,h=>by simp [dO] at h
 | _::_,[],_,h=>by simp [dO] at h
 | _::_,_::_,[],h=>by simp [dO] at h
 | k ::ks,x::xs,y::ys,h=>by
  simp only [dO] at h
  split at h
  ·rename_i a b h1 h2
   simp at h
   obtain ⟨rfl,rfl⟩:=h
   rw [Fj h1,xA h2]
  ·cases h
theorem uz {k:Bool}{x:Value}{b:Bool}(h:CA k x x=some b)(d:Nat):Instr.sameBits d x x=true:=by
 cases k <;> cases x <;> simp [CA] at h <;> cases d <;> simp [Instr.sameBits]
theorem sA {d:Nat}:∀ {ks:List Bool} {xs:List Value} {b:Bool},dO ks xs xs=some b→(xs.zip xs).all (fun (x,y)=>Instr.sameBits d x y)=true
 | [],[],_,_=>rfl
 | [],_::_,_,h=>by simp [dO] at h
 | _::_,[],_,h=>by simp [dO] at h
 | k ::ks,x::xs,b,h=>by
  simp only [dO] at h
  split at h
  ·rename_i a b h1 h2
   simp only [List.zip_cons_cons,List.all_cons,sA h2,Bool.and_true]
   exact uz h1 d
  ·cases h
structure l7 (P:Program)(t:TypeId)(ks:List Bool)(v:Value):Prop where
 eq:v=valOf P t v.cells.toList
 self:∃ b,dO ks v.cells.toList v.cells.toList=some b
theorem l7.len {t:TypeId}{ks:List Bool}{v:Value}(h:l7 P t ks v):v.cells.toList.length=ks.length:=by
 obtain ⟨b,hb⟩:=h.self
 exact (fW hb).1
theorem l7.check {t:TypeId}{ks:List Bool}{v:Value}(h:l7 P t ks v)(hks:bu P 10000 t=some ks)(em:Bool)(w:World):(Instr.checkKey em 10000 t v).run P w= .ok () w:=by
 have:=tD (P:=P) em 10000 t ks v.cells.toList w hks h.len
 rwa [← h.eq] at this
theorem l7.stays {t:TypeId}{ks:List Bool}{v:Value}(h:l7 P t ks v)(w:World):(Instr.keyThatStays v v).run P w= .ok v w:=by
 have:Instr.sameBits 10000 v v=true:=by
  obtain ⟨b,hb⟩:=h.self
  by_cases ha:∃ cs,v= .agg cs
  ·obtain ⟨cs,rfl⟩:=ha
   simp only [Value.cells] at hb
   simp only [Instr.sameBits,BEq.rfl,Bool.true_and]
   exact sA hb
  ·have hc:v.cells= #[v]:=by cases v <;> first | rfl | exact absurd ⟨_,rfl⟩ ha
   rw [hc] at hb
   match ks,hb with
   | [k],hb=>
    have hb:=mT hb
    exact uz hb 10000
   | [],hb=>simp [dO] at hb
   | _::_::_,hb=>
    simp only [dO] at hb
    split at hb
    ·rename_i h2;simp at h2
    ·cases hb
 simp [Instr.keyThatStays,this]
theorem l7.same {t:TypeId}{ks:List Bool}{u v:Value}(hu:l7 P t ks u)(hv:l7 P t ks v)(h:dO ks u.cells.toList v.cells.toList=some true):u=v:=by
 rw [hu.eq,hv.eq,xA h]
theorem fF {p:Nat→Prop}{μ:Nat→Nm}{M:Mem}{t:TypeId}{ks:List Bool}(hks:bu P 10000 t=some ks){key:SV}(rR:bK ks (kN P t) key=true){v:Value}(hr:Rp p μ M key v):
  l7 P t ks v∧aQ p μ M key.cells v.cells.toList:=by
 unfold bK at rR
 simp only [Bool.and_eq_true,beq_iff_eq] at rR
 obtain ⟨h1,h2⟩:=rR
 obtain ⟨b,hb⟩:=Option.isSome_iff_exists.1 h2
 by_cases ha:∃ cs,key= .agg cs
 ·obtain ⟨cs,rfl⟩:=ha
  obtain ⟨vs,rfl,hvs⟩:=Rp.c8.1 hr
  refine ⟨⟨?_,b,jL hb hvs hvs⟩,hvs⟩
  simp only [bD] at h1
  have:∃ n,dh P t=some (some n):=by
   unfold kN at h1
   split at h1
   ·exact ⟨_,by assumption⟩
   ·cases h1
  obtain ⟨n,hn⟩:=this
  simp [valOf,hn,Value.cells]
 ·have hc:key.cells=[key]:=by cases key <;> first | rfl | exact absurd ⟨_,rfl⟩ ha
  have hg:bD key=false:=by cases key <;> first | rfl | exact absurd ⟨_,rfl⟩ ha
  rw [hg] at h1
  rw [hc] at hb ⊢
  have hk1:∃ k,ks=[k]∧yw k key key=some b:=by
   match ks,hb with
   | [],hb=>simp [eZ] at hb
   | [k],hb=>
    simp only [eZ] at hb
    split at hb
    ·rename_i a b' e1 e2
     simp at hb e2
     subst e2;subst hb
     exact ⟨k,rfl,by simpa using e1⟩
    ·cases hb
   | _::_::_,hb=>
    simp only [eZ] at hb
    split at hb
    ·rename_i h2;simp at h2
    ·cases hb
  obtain ⟨k,rfl,hk⟩:=hk1
  have hty:dh P t=some none:=by
   rcases iy hks with ⟨e,_⟩ | e
   ·exact e
   ·simp [kN,e] at h1
  have hv:v.cells= #[v]:=by
   cases k <;> cases key <;> simp [yw] at hk <;> rename_i x <;> cases x <;> simp [yw] at hk
   ·rw [Rp.bI.1 hr];rfl
   ·rw [Rp.aS.1 hr];rfl
  have hcs:aQ p μ M [key] v.cells.toList:=by rw [hv];exact aQ.aI.2 ⟨v,[],rfl,hr,aQ.aX.2 rfl⟩
  refine ⟨⟨?_,b,jL hb hcs hcs⟩,hcs⟩
  simp [valOf,hty,hv]
noncomputable def jk (P:Program)(t:TypeId)(ks:List Bool)(x:Value):List MapEntry→Nat→Option (Option Nat)
 | [],_=>some none
 | e::r,i=>open Classical in if l7 P t ks e.key then match dO ks x.cells.toList e.key.cells.toList with
  | some true=>some (some i)
  | some false=>jk P t ks x r (i+1)
  | none=>none
  else none
theorem mY {p:Nat→Prop}{μ:Nat→Nm}{M:Mem}{t:TypeId}{ks:List Bool}(hks:bu P 10000 t=some ks){key:SV}{x:Value}(hx:aQ p μ M key.cells x.cells.toList):∀ {es:List (Nat×SV×SV)} {cZ:List MapEntry} {i:Nat} {r:Option Nat},
  fD p μ M es cZ→bM ks (kN P t) key es i=some r→jk P t ks x cZ i=some r∧(∀ j,r=some j→i≤j∧∃ e en,es[j - i]? =some e∧cZ[j - i]? =some en∧l7 P t ks en.key∧dO ks x.cells.toList en.key.cells.toList=some true∧Rp p μ M e.2.1 en.key∧Rp p μ M e.2.2 en.val)
 | [],cZ,i,r,hr,h=>by
  simp only [fD] at hr
  subst hr
  simp only [bM,Option.some.injEq] at h
  subst h
  exact ⟨rfl,fun j h=>by cases h⟩
 | (b, k,v)::es,cZ,i,r,hr,h=>by
  obtain ⟨en,ens',rfl,h1,h2,h3,h4⟩:=hr
  simp only [bM] at h
  split at h
  ·rename_i rR
   obtain ⟨hv,hkc⟩:=fF hks rR h2
   split at h
   ·rename_i hq
    have hq:=jL hq hx hkc
    simp at h;subst h
    refine ⟨by simp [jk,hq,hv],fun j hj=> ?_⟩
    simp at hj;subst hj
    exact ⟨Nat.le_refl _,(b,k,v),en,by simp,by simp,hv,hq,h2,h3⟩
   ·rename_i hq
    have hq:=jL hq hx hkc
    obtain ⟨a1,a2⟩:=mY hks hx h4 h
    refine ⟨by simp [jk,hq,a1,hv],fun j hj=> ?_⟩
    obtain ⟨b1,e,en',b2,b3,b4⟩:=a2 j hj
    refine ⟨by omega,e,en',?_,?_,b4⟩
    ·rw [show j - i=(j - (i+1))+1 by omega];simpa using b2
    ·rw [show j - i=(j - (i+1))+1 by omega];simpa using b3
   ·cases h
  ·cases h
theorem qc {t:TypeId}{ks:List Bool}(hks:bu P 10000 t=some ks){x:Value}(hx:l7 P t ks x)(w:World):∀ (es:List MapEntry) (i:Nat) (r:Option Nat),jk P t ks x es i=some r→
  ((Instr.findAsking t x es i).run P w= .ok (r.map fun j=>(j,((es[j - i]?).map (·.val)).getD undef)) w)∧∀ j,r=some j→i≤j
 | [],i,r,h=>by
  simp only [jk,Option.some.injEq] at h
  subst h
  exact ⟨by simp [Instr.findAsking],fun j h=>by cases h⟩
 | e ::es,i,r,h=>by
  simp only [jk] at h
  split at h <;> first | (cases h;done) | skip
  rename_i he
  have hq:∀ b,dO ks x.cells.toList e.key.cells.toList=some b→(Op.equal t x e.key).run P w= .ok b w:=fun b hb=>by
   have:=oQ (P:=P) (w:=w) 10000 t ks _ _ b hks hb
   rw [← hx.eq,← he.eq] at this
   exact this
  split at h
  ·rename_i hb
   simp at h;subst h
   exact ⟨by simp [Instr.findAsking,hq _ hb],fun j hj=>by simp at hj;omega⟩
  ·rename_i hb
   obtain ⟨a1,a2⟩:=qc hks hx w es (i+1) r h
   refine ⟨?_,fun j hj=>by have:=a2 j hj;omega⟩
   simp only [Instr.findAsking,Sem.run_bind,hq _ hb,Result.andThen_ok,Bool.false_eq_true,if_false,a1]
   cases r with
   | none=>rfl
   | some j=>
    have:=a2 j rfl
    simp only [Option.map_some,show j - i=(j - (i+1))+1 by omega,List.getElem?_cons_succ]
  ·cases h
theorem mZ {d:TypeDesc}{a b:Value}{r:Bool}(h:Instr.sameNow d a b=some r)(hd:(∃ fs,d= .struct fs)∨∃ n e,d= .array n e):False:=by
 rcases hd with ⟨fs,rfl⟩ | ⟨n,e,rfl⟩ <;> simp [Instr.sameNow] at h
theorem sB {t:TypeId}{d:TypeDesc}{k:Bool}(hd:(k=true∧∃ q,d= .int q)∨(k=false∧d= .bool)){x:Value}(hx1:x.cells.toList=[x])(GX:∀ {v:Value},l7 P t [k] v→v.cells.toList=[v]):∀ (es:List MapEntry) (i:Nat) (r:Option Nat),jk P t [k] x es i=some r→
  Instr.findNow d x es i=some (r.map fun j=>(j,((es[j - i]?).map (·.val)).getD undef))∧∀ j,r=some j→i≤j
 | [],i,r,h=>by
  simp only [jk,Option.some.injEq] at h
  subst h
  exact ⟨by simp [Instr.findNow],fun j h=>by cases h⟩
 | e ::es,i,r,h=>by
  simp only [jk] at h
  split at h <;> first | (cases h;done) | skip
  rename_i hke
  have hq:∀ b,dO [k] x.cells.toList e.key.cells.toList=some b→Instr.sameNow d x e.key=some b:=fun b hb=>by
   rw [hx1,GX hke] at hb
   have hb:=mT hb
   generalize e.key=y at hb
   rcases hd with ⟨rfl,q,rfl⟩ | ⟨rfl,rfl⟩ <;> cases x <;> cases y <;> simp [CA] at hb
   ·simp [Instr.sameNow,hb]
   ·simp [Instr.sameNow,hb]
  split at h
  ·rename_i hb
   simp at h;subst h
   exact ⟨by simp [Instr.findNow,hq _ hb],fun j hj=>by simp at hj;omega⟩
  ·rename_i hb
   obtain ⟨a1,a2⟩:=sB hd hx1 GX es (i+1) r h
   refine ⟨?_,fun j hj=>by have:=a2 j hj;omega⟩
   simp only [Instr.findNow,hq _ hb,a1]
   cases r with
   | none=>rfl
   | some j=>
    have:=a2 j rfl
    simp only [Option.map_some,show j - i=(j - (i+1))+1 by omega,List.getElem?_cons_succ]
  ·cases h
theorem fZ {t:TypeId}{ks:List Bool}(hks:bu P 10000 t=some ks){x:Value}(hx:l7 P t ks x)(w:World){es:List MapEntry}{r:Option Nat}(h:jk P t ks x es 0=some r):
  (Instr.findKey t x es).run P w= .ok (r.map fun j=>(j,((es[j]?).map (·.val)).getD undef)) w:=by
 obtain ⟨a1,_⟩:=qc hks hx w es 0 r h
 have agg:(∃ d,P.underlying t=some d∧((∃ fs,d= .struct fs)∨∃ n e,d= .array n e))→(Instr.findKey t x es).run P w= .ok (r.map fun j=>(j,((es[j]?).map (·.val)).getD undef)) w:=by
  rintro ⟨d,hd,hk⟩
  simp only [Instr.findKey,Sem.run_bind,run_underlying hd,Result.andThen_ok]
  cases es with
  | nil=>
   simp only [jk,Option.some.injEq] at h
   subst h
   simp [Instr.findNow]
  | cons e es=>
   have:Instr.findNow d x (e::es) 0=none:=by
    simp only [Instr.findNow]
    split
    ·rename_i hs;exact (mZ hs hk).elim
    ·rename_i hs;exact (mZ hs hk).elim
    ·rfl
   rw [this]
   simpa using a1
 have one:∀ (k:Bool) (d:TypeDesc),ks=[k]→P.underlying t=some d→dh P t=some none→((k=true∧∃ q,d= .int q)∨(k=false∧d= .bool))→(Instr.findKey t x es).run P w= .ok (r.map fun j=>(j,((es[j]?).map (·.val)).getD undef)) w:=by
  intro k d hk hd hty hkd
  subst hk
  have GX:∀ {v:Value},l7 P t [k] v→v.cells.toList=[v]:=fun {v} hv=>by
   have e:=hv.eq
   simp only [valOf,hty] at e
   have hl:=hv.len
   match hc:v.cells.toList,hl with
   | [y],_=>rw [hc] at e;simp at e;rw [e]
  obtain ⟨b1,_⟩:=sB hkd (GX hx) GX es 0 r h
  simp only [Instr.findKey,Sem.run_bind,run_underlying hd,Result.andThen_ok,b1]
  simp
 obtain ⟨d,hks⟩:∃ d,bu P (d+1) t=some ks:=⟨9999,hks⟩
 simp only [bu] at hks
 split at hks
 ·rename_i i h1 h2
  simp at hks;obtain ⟨_,rfl⟩:=hks
  exact one false _ rfl h1 (by simp [dh,h1,h2]) (.inr ⟨rfl,rfl⟩)
 ·rename_i k i h1 h2
  simp at hks;obtain ⟨_,rfl⟩:=hks
  exact one true _ rfl h1 (by simp [dh,h1,h2]) (.inl ⟨rfl,_,rfl⟩)
 ·rename_i fs i h1 h2
  exact agg ⟨_,h1,.inl ⟨_,rfl⟩⟩
 ·rename_i n el i h1 h2
  exact agg ⟨_,h1,.inr ⟨_,_,rfl⟩⟩
 ·cases hks
end
section
variable {P:Program} {o:Oper} {E:Nat→Option SV} {H:Nat→Option Ob} {k:Nat} {own:Bool} {e:jH}
theorem sC {t:TypeId}{z:SV}(h:su P t=some z):∃ v,(∀ w:World,(zeroValue t).run P w= .ok v w)∧∀ {p:Nat→Prop} {μ:Nat→Nm} {M:Mem},Rp p μ M z v:=by
 unfold su at h
 split at h
 ·rename_i i hi
  split at h
  ·rename_i z' hz
   exact ⟨z',fun w=>mS hi hz,fun {_ _ _}=>Ab h⟩
  ·cases h
 ·cases h
theorem fD.length {p:Nat→Prop}{μ:Nat→Nm}{M:Mem}:∀ {es:List (Nat×SV×SV)} {cZ:List MapEntry},fD p μ M es cZ→cZ.length=es.length
 | [],cZ,hr=>by simp only [fD] at hr;subst hr;rfl
 | (b,k,v)::es,cZ,hr=>by
  obtain ⟨en,ens',rfl,h1,h2,h3,h4⟩:=hr
  simp [fD.length h4]
theorem fD.append {p:Nat→Prop}{μ:Nat→Nm}{M:Mem}{b:Nat}{k v:SV}{en:MapEntry}(h1:en.born=b)(h2:Rp p μ M k en.key)(h3:Rp p μ M v en.val):∀ {es:List (Nat×SV×SV)} {cZ:List MapEntry},fD p μ M es cZ→fD p μ M (es++[(b,k,v)]) (cZ++[en])
 | [],cZ,hr=>by simp only [fD] at hr;subst hr;exact ⟨en,[],rfl,h1,h2,h3,rfl⟩
 | (b',k',v')::es,cZ,hr=>by
  obtain ⟨en',ens',rfl,g1,g2,g3,g4⟩:=hr
  exact ⟨en',_,rfl,g1,g2,g3,fD.append h1 h2 h3 g4⟩
theorem fD.modify {p:Nat→Prop}{μ:Nat→Nm}{M:Mem}{v:SV}{u:Value}(hv:Rp p μ M v u):∀ {es:List (Nat×SV×SV)} {cZ:List MapEntry} (i:Nat),fD p μ M es cZ→fD p μ M (es.modify i fun e=>(e.1,e.2.1,v)) (cZ.modify i fun e=>{ e with val:=u})
 | [],cZ,i,hr=>by simp only [fD] at hr;subst hr;simp [fD]
 | (b',k',v')::es,cZ,0,hr=>by
  obtain ⟨en',ens',rfl,g1,g2,g3,g4⟩:=hr
  exact ⟨_,_,rfl,g1,g2,hv,g4⟩
 | (b',k',v')::es,cZ,i+1,hr=>by
  obtain ⟨en',ens',rfl,g1,g2,g3,g4⟩:=hr
  exact ⟨en',_,rfl,g1,g2,g3,fD.modify hv i g4⟩
theorem fD.erase {p:Nat→Prop}{μ:Nat→Nm}{M:Mem}:∀ {es:List (Nat×SV×SV)} {cZ:List MapEntry} (i:Nat),fD p μ M es cZ→fD p μ M (es.eraseIdx i) (cZ.eraseIdx i)
 | [],cZ,i,hr=>by simp only [fD] at hr;subst hr;simp [fD]
 | (b',k',v')::es,cZ,0,hr=>by
  obtain ⟨en',ens',rfl,g1,g2,g3,g4⟩:=hr
  exact g4
 | (b',k',v')::es,cZ,i+1,hr=>by
  obtain ⟨en',ens',rfl,g1,g2,g3,g4⟩:=hr
  exact ⟨en',_,rfl,g1,g2,g3,fD.erase i g4⟩
theorem fD.find {p:Nat→Prop}{μ:Nat→Nm}{M:Mem}{st:Nat}:∀ {es:List (Nat×SV×SV)} {cZ:List MapEntry} {e:Nat×SV×SV},fD p μ M es cZ→es.find? (fun e=>e.1 == st)=some e→∃ en,cZ.find? (fun x=>x.born == st)=some en∧Rp p μ M e.2.1 en.key∧Rp p μ M e.2.2 en.val
 | [],cZ,e,hr,h=>by simp at h
 | (b',k',v')::es,cZ,e,hr,h=>by
  obtain ⟨en',ens',rfl,g1,g2,g3,g4⟩:=hr
  simp only [List.find?_cons] at h ⊢
  rw [g1]
  cases hb:b' == st
  ·simp only [hb] at h ⊢
   exact fD.find g4 h
  ·simp only [hb,Option.some.injEq] at h ⊢
   subst h
   exact ⟨_,rfl,g2,g3⟩
theorem Rp.qd {p:Nat→Prop}{μ:Nat→Nm}{M:Mem}{n:Nat}{v:Value}(h:Rp p μ M (.mp n) v)(hl:(μ n).live=true):v= .map (some (μ n).blk):=by simpa [cG,hl] using h.rep
theorem Rp.m_ {p:Nat→Prop}{μ:Nat→Nm}{M:Mem}{n:Nat}{v:Value}(h:Rp p μ M (.mp n) v)(hl:(μ n).live=false):v= .map none:=by simpa [cG,hl] using h.rep
theorem Rp.EH {p:Nat→Prop}{μ:Nat→Nm}{M:Mem}{n:Nat}{v:Value}(h:Rp p μ M (.it n) v):v= .pointer (some ⟨(μ n).blk,0,none⟩):=by simpa [cG] using h.rep
theorem Rp.pS {p:Nat→Prop}{μ:Nat→Nm}{M:Mem}{v:Value}(h:Rp p μ M (.d .ir) v):v= .map none:=by simpa [bT] using Rp.cu.1 h
theorem kf {p:Nat→Prop}{μ:Nat→Nm}{M:Mem}{v:SV}{u:Value}{b:Bool}(ok:Bool)(h:Rp p μ M v u):Rp p μ M (bE ok v b) (if ok then .tuple #[u,.bool b] else u):=by
 cases ok
 ·exact h
 ·exact Rp.dN.2 ⟨_,rfl,aQ.aI.2 ⟨_,_,rfl,h,aQ.aI.2 ⟨_,_,rfl,Rp.bI.2 rfl,aQ.aX.2 rfl⟩⟩⟩
theorem Fk {t kt et:TypeId}{m i:Operand}{ok:Bool}{m' i':X}{ks:List Bool}{z:SV}(ho:o.op= .lookup t m i ok)(ht:P.underlying t=some (.map kt et))(hm:cX m=some m')(hi:cX i=some i')
  (hks:bu P 10000 kt=some ks) (hz:su P et=some z) (he:bW E H k own (.look ks (kN P kt) z m' i' ok)=some e):Sound P o E H k e:=by
 obtain ⟨z',hz1,hz2⟩:=sC hz
 simp only [bW] at he
 split at he <;> first | (cases he;done) | skip
 ·rename_i key h1 h2
  split at he <;> first | (cases he;done) | skip
  rename_i rR
  injection he with he
  subst he
  refine ⟨OT.pure fun p μ M a w hk hS=>⟨if ok then .tuple #[z',.bool false] else z',?_,kf ok hz2⟩,aU⟩
  have e1:=(hk.get (by simp [ho,Op.operands]) hm h1).pS
  obtain ⟨kv,_⟩:=fF hks rR (hk.get (by simp [ho,Op.operands]) hi h2)
  have hf:=fZ hks kv w (es:=[]) (r:=none) (by simp [jk])
  simp [execOp,ho,Instr.lookup,run_underlying ht,e1,kv.check hks,hf,hz1]
 ·rename_i n key h1 h2
  split at he <;> first | (cases he;done) | skip
  ·rename_i es c hH
   split at he <;> first | (cases he;done) | skip
   rename_i rR
   split at he <;> first | (cases he;done) | skip
   rename_i r hf
   injection he with he
   subst he
   refine ⟨OT.pure fun p μ M a w hk hS=> ?_,sub_one hH⟩
   obtain ⟨_,⟨h0,cZ,hb,hre⟩,_⟩:=hS.one
   have e1:=(hk.get (by simp [ho,Op.operands]) hm h1).qd h0
   obtain ⟨kv,kc⟩:=fF hks rR (hk.get (by simp [ho,Op.operands]) hi h2)
   obtain ⟨hv,hj⟩:=mY hks kc hre hf
   have hfk:=fZ hks kv w hv
   cases r with
   | none=>
    refine ⟨if ok then .tuple #[z',.bool false] else z',?_,kf ok hz2⟩
    simp [execOp,ho,Instr.lookup,run_underlying ht,e1,MapKept.run_getObj_map hb,kv.check hks,hfk,hz1]
   | some j=>
    obtain ⟨_,q,en,hq,hen,_,_,_,hval⟩:=hj j rfl
    simp only [Nat.sub_zero] at hq hen
    simp only [Option.map_some,hen,Option.getD_some] at hfk
    refine ⟨if ok then .tuple #[en.val,.bool true] else en.val,?_,kf ok (by simpa [bX,hq] using hval)⟩
    simp [execOp,ho,Instr.lookup,run_underlying ht,e1,MapKept.run_getObj_map hb,kv.check hks,hfk]
  ·rename_i hH
   split at he <;> first | (cases he;done) | skip
   rename_i rR
   injection he with he
   subst he
   refine ⟨OT.pure fun p μ M a w hk hS=>⟨if ok then .tuple #[z',.bool false] else z',?_,kf ok hz2⟩,sub_one hH⟩
   have e1:=(hk.get (by simp [ho,Op.operands]) hm h1).m_ hS.one.2.1
   obtain ⟨kv,_⟩:=fF hks rR (hk.get (by simp [ho,Op.operands]) hi h2)
   have hf:=fZ hks kv w (es:=[]) (r:=none) (by simp [jk])
   simp [execOp,ho,Instr.lookup,run_underlying ht,e1,kv.check hks,hf,hz1]
theorem Fl {c:Call}{t kt et:TypeId}{x:Operand}{y:X}(ho:o.op= .call c)(bU:c.callee= .builtin .len)(ha:c.args.toList=[x])(jK:c.argTypes.toList=[t])(ht:P.underlying t=some (.map kt et))
  (hx:cX x=some y) (he:bW E H k own (.yu y)=some e):Sound P o E H k e:=by
 have ha':c.args= #[x]:=by cases hh:c.args;simp [hh] at ha;simp [ha]
 have hat':c.argTypes= #[t]:=by cases hh:c.argTypes;simp [hh] at jK;simp [jK]
 have hin:x∈o.op.operands:=by simp [ho,Op.operands,Call.operands,bU,ha']
 simp only [bW] at he
 split at he <;> first | (cases he;done) | skip
 ·rename_i h1
  injection he with he
  subst he
  refine ⟨OT.pure fun p μ M a w hk hS=>⟨.int .i64 0,?_,Rp.aS.2 rfl⟩,aU⟩
  have e1:=(hk.get hin hx h1).pS
  simp [execOp,ho,resolve,bU,ha',hat',invoke,builtin,e1,Builtin.len_,run_underlying ht,goInt]
 ·rename_i n h1
  split at he <;> first | (cases he;done) | skip
  ·rename_i es c' hH
   injection he with he
   subst he
   refine ⟨OT.pure fun p μ M a w hk hS=> ?_,sub_one hH⟩
   obtain ⟨_,⟨h0,cZ,hb,hre⟩,_⟩:=hS.one
   have e1:=(hk.get hin hx h1).qd h0
   refine ⟨.int .i64 es.length,?_,Rp.aS.2 rfl⟩
   have:=hre.length
   simp at this
   simp [execOp,ho,resolve,bU,ha',hat',invoke,builtin,e1,Builtin.len_,run_underlying ht,goInt,MapKept.run_getObj_map hb,this]
  ·rename_i hH
   injection he with he
   subst he
   refine ⟨OT.pure fun p μ M a w hk hS=>⟨.int .i64 0,?_,Rp.aS.2 rfl⟩,sub_one hH⟩
   have e1:=(hk.get hin hx h1).m_ hS.one.2.1
   simp [execOp,ho,resolve,bU,ha',hat',invoke,builtin,e1,Builtin.len_,run_underlying ht,goInt]
theorem iK {w:World}{b:Nat}{x:Obj}(o:Obj)(hb:w.heap[b]? =some x):({ w with heap:=w.heap.setIfInBounds b o}:World).heap[b]? =some o∧∀ c,c≠b→({ w with heap:=w.heap.setIfInBounds b o}:World).heap[c]? =w.heap[c]? :=by
 have hlt:=(Array.getElem?_eq_some_iff.1 hb).1
 refine ⟨by simp [Array.getElem?_setIfInBounds,hlt],fun c hc=> ?_⟩
 simp only [Array.getElem?_setIfInBounds]
 rw [if_neg (fun h:b=c=>hc h.symm)]
theorem Ak {t kt et:TypeId}{m i v:Operand}{m' i' v':X}{ks:List Bool}(ho:o.op= .mapUpdate t m i v∨o.op= .insert t m i v)(ht:P.underlying t=some (.map kt et))(hm:cX m=some m')(hi:cX i=some i')(hv:cX v=some v')
  (hks:bu P 10000 kt=some ks) (he:bW E H k own (.ur ks (kN P kt) m' i' v')=some e):Sound P o E H k e:=by
 have hin:m∈o.op.operands∧i∈o.op.operands∧v∈o.op.operands:=by rcases ho with ho | ho <;> simp [ho,Op.operands]
 simp only [bW] at he
 split at he <;> first | (cases he;done) | skip
 rename_i n key s h1 h2 h3
 split at he <;> first | (cases he;done) | skip
 rename_i es c hH
 split at he <;> first | (cases he;done) | skip
 rename_i rR
 split at he <;> first | (cases he;done) | skip
 rename_i r hf
 injection he with he
 subst he
 refine ⟨OT.write fun p μ M a w hk hp bw=> ?_,sub_one hH⟩
 obtain ⟨h0,cZ,hb,hre⟩:=bw
 have e1:=(hk.get hin.1 hm h1).qd h0
 have r2:=hk.get hin.2.1 hi h2
 have r3:=hk.get hin.2.2 hv h3
 obtain ⟨kv,kc⟩:=fF hks rR r2
 obtain ⟨hfv,hj⟩:=mY hks kc hre hf
 have hfk:=fZ hks kv w hfv
 cases r with
 | none=>
  obtain ⟨g1,g2⟩:=iK (.map (cZ.push { key:=a.eval i,val:=a.eval v,born:=c}) (c+1)) hb
  refine ⟨undef,_,.inr ⟨?_,rfl⟩,Rp.any,⟨h0,cZ.push { key:=a.eval i,val:=a.eval v,born:=c},g1,?_⟩,fun b hb=>g2 b (hb h0),by simp,rfl,⟨rfl,Nat.le_refl _⟩,rfl⟩
  ·rcases ho with ho | ho <;> simp [execOp,ho,Instr.mapUpdate,run_underlying ht,e1,MapKept.run_getObj_map hb,kv.check hks,hfk,MapKept.run_setObj_map _ hb]
  ·simp only [Array.toList_push]
   exact fD.append (en:={ key:=a.eval i,val:=a.eval v,born:=c}) rfl r2 r3 hre
 | some j=>
  obtain ⟨_,q,en,hq,hen,hkv,hcs,hkr,hval⟩:=hj j rfl
  simp only [Nat.sub_zero] at hq hen
  have hsame:=kv.same hkv hcs
  simp only [Option.map_some,hen,Option.getD_some] at hfk
  have hen':cZ[j]? =some en:=by simpa using hen
  obtain ⟨g1,g2⟩:=iK (.map (cZ.modify j fun e=>{ e with key:=a.eval i,val:=a.eval v}) c) hb
  refine ⟨undef,_,.inr ⟨?_,rfl⟩,Rp.any,⟨h0,cZ.modify j fun e=>{ e with key:=a.eval i,val:=a.eval v},g1,?_⟩,fun b hb=>g2 b (hb h0),by simp,rfl,⟨rfl,Nat.le_refl _⟩,rfl⟩
  ·have hst:(Instr.keyThatStays en.key (a.eval i)).run P w= .ok (a.eval i) w:=by rw [← hsame];exact kv.stays w
   rcases ho with ho | ho <;> simp [execOp,ho,Instr.mapUpdate,run_underlying ht,e1,MapKept.run_getObj_map hb,kv.check hks,hfk,hen',hst,MapKept.run_setObj_map _ hb]
  ·have:(cZ.modify j fun e=>{ e with key:=a.eval i,val:=a.eval v}).toList=cZ.toList.modify j fun e=>{ e with val:=a.eval v}:=by
    rw [Array.toList_modify]
    apply List.ext_getElem?
    intro m
    simp only [List.getElem?_modify]
    by_cases hmj:j=m
    ·subst hmj
     simp [hen',hsame]
    ·simp [hmj]
   rw [this]
   exact fD.modify r3 j hre
theorem Fm {c :Call}{t kt et t':TypeId}{m i:Operand}{m' i':X}{ks:List Bool}(ho:o.op= .call c)(bU:c.callee= .builtin .delete)(ha:c.args.toList=[m,i])(jK:c.argTypes.toList=[t,t'])(ht:P.underlying t=some (.map kt et))(hm:cX m=some m')(hi:cX i=some i')
  (hks:bu P 10000 kt=some ks) (he:bW E H k own (.z_ ks (kN P kt) m' i')=some e):Sound P o E H k e:=by
 have ha':c.args= #[m,i]:=by cases hh:c.args;simp [hh] at ha;simp [ha]
 have hat':c.argTypes= #[t,t']:=by cases hh:c.argTypes;simp [hh] at jK;simp [jK]
 have hin1:m∈o.op.operands:=by simp [ho,Op.operands,Call.operands,bU,ha']
 have hin2:i∈o.op.operands:=by simp [ho,Op.operands,Call.operands,bU,ha']
 simp only [bW] at he
 split at he <;> first | (cases he;done) | skip
 ·rename_i key h1 h2
  split at he <;> first | (cases he;done) | skip
  rename_i rR
  injection he with he
  subst he
  refine ⟨OT.pure fun p μ M a w hk hS=>⟨.tuple #[],?_,Rp.any⟩,aU⟩
  have e1:=(hk.get hin1 hm h1).pS
  obtain ⟨kv,_⟩:=fF hks rR (hk.get hin2 hi h2)
  simp [execOp,ho,resolve,bU,ha',hat',invoke,builtin,Builtin.delete_,run_underlying ht,e1,kv.check hks]
 ·rename_i n key h1 h2
  split at he <;> first | (cases he;done) | skip
  ·rename_i es cl hH
   split at he <;> first | (cases he;done) | skip
   rename_i rR
   split at he <;> first | (cases he;done) | skip
   rename_i r hf
   injection he with he
   subst he
   refine ⟨OT.write fun p μ M a w hk hp bw=> ?_,sub_one hH⟩
   obtain ⟨h0,cZ,hb,hre⟩:=bw
   have e1:=(hk.get hin1 hm h1).qd h0
   obtain ⟨kv,kc⟩:=fF hks rR (hk.get hin2 hi h2)
   obtain ⟨hfv,hj⟩:=mY hks kc hre hf
   have hfk:=fZ hks kv w hfv
   cases r with
   | none=>
    obtain ⟨g1,g2⟩:=iK (.map cZ cl) hb
    refine ⟨.tuple #[],_,.inl ?_,Rp.any,⟨h0,cZ,g1,hre⟩,fun b hb=>g2 b (hb h0),by simp,rfl,⟨rfl,Nat.le_refl _⟩,rfl⟩
    simp [execOp,ho,resolve,bU,ha',hat',invoke,builtin,Builtin.delete_,run_underlying ht,e1,MapKept.run_getObj_map hb,kv.check hks,hfk,MapKept.run_setObj_map _ hb]
   | some j=>
    obtain ⟨g1,g2⟩:=iK (.map (cZ.eraseIdxIfInBounds j) cl) hb
    refine ⟨.tuple #[],_,.inl ?_,Rp.any,⟨h0,cZ.eraseIdxIfInBounds j,g1,?_⟩,fun b hb=>g2 b (hb h0),by simp,rfl,⟨rfl,Nat.le_refl _⟩,rfl⟩
    ·simp [execOp,ho,resolve,bU,ha',hat',invoke,builtin,Builtin.delete_,run_underlying ht,e1,MapKept.run_getObj_map hb,kv.check hks,hfk,MapKept.run_setObj_map _ hb]
    ·have:(cZ.eraseIdxIfInBounds j).toList=cZ.toList.eraseIdx j:=by
      unfold Array.eraseIdxIfInBounds
      split
      ·simp
      ·rw [List.eraseIdx_of_length_le]
       simp;omega
     rw [this]
     exact fD.erase j hre
  ·rename_i hH
   split at he <;> first | (cases he;done) | skip
   rename_i rR
   injection he with he
   subst he
   refine ⟨OT.pure fun p μ M a w hk hS=>⟨.tuple #[],?_,Rp.any⟩,sub_one hH⟩
   have e1:=(hk.get hin1 hm h1).m_ hS.one.2.1
   obtain ⟨kv,_⟩:=fF hks rR (hk.get hin2 hi h2)
   simp [execOp,ho,resolve,bU,ha',hat',invoke,builtin,Builtin.delete_,run_underlying ht,e1,kv.check hks]
theorem OT.Al {n:Nat}{GY ob:Ob}{v:SV}(h:∀ (p:Nat→Prop) (μ:Nat→Nm) (M:Mem) (a:Act) (w:World),fL E o.op.operands p μ M a→p n→cR p μ M w (μ n) GY→mR M w→
    ∃ u ro cap,(execOp a.eval o).run P w= .ok (.value u) (w.alloc ro)∧
      ∀ (p':Nat→Prop) (bh:Nat→Nm),(∀ n,p n→p' n)→(∀ n,p n→bh n=μ n)→p' k→bh k=⟨w.heap.size,cap,true⟩→cR p' bh M (w.alloc ro) ⟨w.heap.size,cap,true⟩ ob∧Rp p' bh M v u):
    OT P o E [(n,GY)] (fun n=>k≤n∧n<k+1) v [(n,GY),(k,ob)]:=by
  intro rd p μ M a w K Q hnew hkn hS hK
  obtain ⟨hp,hob0,hM0⟩:=hS.one
  obtain ⟨u,ro,cap,hr,hu⟩:=h p μ M a w hkn hp hob0 hS.mem
  have hk: ¬ p k:=hnew k ⟨Nat.le_refl _,by omega⟩
  have hnk:n≠k:=fun e=>hk (e ▸ hp)
  have hlt:=fun l=>hob0.lt l
  obtain ⟨h1,h2⟩:=hu (fun n=>p n∨(k≤n∧n<k+1)) (xw μ k ⟨w.heap.size,cap,true⟩) (fun n h=> .inl h) (uu hk) (.inr ⟨Nat.le_refl _,by omega⟩) (bY _ _ _)
  have hlk:∀ m,lk [(n,GY),(k,ob)] m=if m=n then some GY else if m=k then some ob else none:=by
    intro m
    rw [af,cq]
  refine fM hr (hK u (xw μ k ⟨w.heap.size,cap,true⟩) M (w.alloc ro) h2 ⟨jI ro hS.mem,fun m iJ hm=> ?_,fun m m' hm hm' lm lm' e=> ?_⟩ ⟨fun n hn=> ?_,Mem.le_refl M,fun b hb _=>⟨gT w ro hb,fun _=>rfl⟩,by simp,fun m hm=> ?_,rfl,⟨rfl,Nat.le_refl _⟩,rfl⟩)
  · rw [hlk] at hm
    split at hm
    · rename_i e
      subst e
      simp at hm;subst hm
      rw [eO _ _ _ hnk]
      exact ⟨.inl hp,hob0.more (fun _ h=> .inl h) (uu hk) (Mem.le_refl M) (fun l=>gT w ro (hlt l)),hM0⟩
    · split at hm
      · rename_i e
        subst e
        simp at hm;subst hm
        rw [bY]
        exact ⟨.inr ⟨Nat.le_refl _,by omega⟩,h1,fun _=>qa hS.mem (Nat.le_refl _)⟩
      · cases hm
  · rw [hlk] at hm hm'
    by_cases a1:m=n <;> by_cases a2:m'=n
    · omega
    · by_cases a3:m'=k
      · subst a1;subst a3
        rw [eO _ _ _ hnk] at e lm
        rw [bY] at e
        have:=hlt lm
        simp at e;omega
      · simp [a2,a3] at hm'
    · by_cases a3:m=k
      · subst a2;subst a3
        rw [eO _ _ _ hnk] at e lm'
        rw [bY] at e
        have:=hlt lm'
        simp at e;omega
      · simp [a1,a3] at hm
    · by_cases a3:m=k <;> by_cases a4:m'=k
      · omega
      · simp [a2,a4] at hm'
      · simp [a1,a3] at hm
      · simp [a1,a3] at hm
  · exact eO _ _ _ (by omega)
  · rw [hlk] at hm
    by_cases a1:m=n
    · subst a1
      exact .inr ⟨fun h=>hk (by
          have:m=k:=by omega
          exact this ▸ hp),by simp [cq]⟩
    · by_cases a2:m=k
      · subst a2
        exact .inl ⟨⟨Nat.le_refl _,by omega⟩,fun _=> .inl (by rw [bY];exact Nat.le_refl _)⟩
      · simp [a1,a2] at hm
theorem Rp.Am {p:Nat→Prop}{μ:Nat→Nm}{M:Mem}{n:Nat}(hp:p n):Rp p μ M (.it n) (.pointer (some ⟨(μ n).blk,0,none⟩)):=fun bh h=>by
 simp [cG,h n hp]
theorem An {t kt et:TypeId}{m:Operand}{m':X}(ho:o.op= .range t m)(ht:P.underlying t=some (.map kt et))(hm:cX m=some m')(he:bW E H k own (.p_ m')=some e):Sound P o E H k e:=by
 simp only [bW] at he
 split at he <;> first | (cases he;done) | skip
 ·rename_i h1
  injection he with he
  subst he
  refine ⟨OT.make fun p μ M a w hk hM=> ?_,aU⟩
  have e1:=(hk.get (by simp [ho,Op.operands]) hm h1).pS
  refine ⟨.pointer (some ⟨w.heap.size,0,none⟩),.mapIter none 0 #[] 0,0,?_,fun p' bh hp iu hpk hk'=>⟨⟨rfl,(fun n h=>by cases h),ff w (.mapIter none 0 #[] 0)⟩,?_⟩⟩
  ·simp [execOp,ho,Instr.range,run_underlying ht,e1,run_newObj]
  ·have:=Rp.Am (μ:=bh) (M:=M) hpk
   rwa [hk'] at this
 ·rename_i n h1
  split at he <;> first | (cases he;done) | skip
  ·rename_i es c hH
   injection he with he
   subst he
   refine ⟨OT.Al fun p μ M a w hk hpn bw hM=> ?_,sub_one hH⟩
   obtain ⟨h0,cZ,hb,hre⟩:=bw
   have e1:=(hk.get (by simp [ho,Op.operands]) hm h1).qd h0
   refine ⟨.pointer (some ⟨w.heap.size,0,none⟩),.mapIter (some (μ n).blk) c #[] c,0,?_,fun p' bh hp iu hpk hk'=>⟨⟨rfl,(fun n' h=>by cases h;exact hp _ hpn),?_⟩,?_⟩⟩
   ·simp [execOp,ho,Instr.range,run_underlying ht,e1,MapKept.run_getObj_map hb,run_newObj]
   ·have:=ff w (.mapIter (some (μ n).blk) c #[] c)
    simpa [iu n hpn] using this
   ·have:=Rp.Am (μ:=bh) (M:=M) hpk
    rwa [hk'] at this
  ·rename_i hH
   injection he with he
   subst he
   refine ⟨OT.Al fun p μ M a w hk hpn bw hM=> ?_,sub_one hH⟩
   have e1:=(hk.get (by simp [ho,Op.operands]) hm h1).m_ bw
   refine ⟨.pointer (some ⟨w.heap.size,0,none⟩),.mapIter none 0 #[] 0,0,?_,fun p' bh hp iu hpk hk'=>⟨⟨rfl,(fun n h=>by cases h),ff w (.mapIter none 0 #[] 0)⟩,?_⟩⟩
   ·simp [execOp,ho,Instr.range,run_underlying ht,e1,run_newObj]
   ·have:=Rp.Am (μ:=bh) (M:=M) hpk
    rwa [hk'] at this
theorem Ao {x:Operand}{x':X}(ho:o.op= .entry x)(hx:cX x=some x')(he:bW E H k own (.tw x')=some e)(bw:e.ob):Sound P o E H k e:=by
 simp only [bW] at he
 split at he <;> first | (cases he;done) | skip
 rename_i n h1
 split at he <;> first | (cases he;done) | skip
 rename_i m since seen st hH
 split at he <;> first | (cases he;done) | skip
 rename_i es c hH2
 split at he <;> first | (cases he;done) | skip
 rename_i stamp hst
 split at he <;> first | (cases he;done) | skip
 rename_i en hen
 injection he with he
 subst he
 obtain ⟨rfl,hnm⟩:=bw
 refine ⟨OT.pure fun p μ M a w hk hS=> ?_,?_⟩
 ·obtain ⟨_,hb,_⟩:=hS.obs n (.iter (some m) since seen c) (by simp [af])
  obtain ⟨_,hb2,_⟩:=hS.obs m (.map es c) (by rw [af,if_neg (fun h=>hnm h.symm),cq,if_pos rfl])
  obtain ⟨_,_,hb⟩:=hb
  obtain ⟨_,cZ,hb2,hre⟩:=hb2
  have e1:=(hk.get (by simp [ho,Op.operands]) hx h1).EH
  obtain ⟨en',hf,g1,g2⟩:=hre.find hen
  have hf':cZ.find? (fun x=>x.born == stamp)=some en':=by rw [← Array.find?_toList];exact hf
  have hbk:seen.toArray.back? =some stamp:=by simpa using hst
  refine ⟨.tuple #[en'.key,en'.val],?_,Rp.dN.2 ⟨_,rfl,aQ.aI.2 ⟨_,_,rfl,g1,aQ.aI.2 ⟨_,_,rfl,g2,aQ.aX.2 rfl⟩⟩⟩⟩
  simp only [Option.map_some] at hb
  have hg:(getObj (μ n).blk).run P w= .ok (.mapIter (some (μ m).blk) since seen.toArray c) w:=by simp [getObj,Sem.run,hb]
  simp [execOp,ho,Instr.entry,e1,hg,hbk,MapKept.run_getObj_map hb2,hf']
 ·intro q ob hq
  rw [af,cq] at hq
  split at hq
  ·rename_i e;subst e;simp at hq;subst hq;exact hH
  ·split at hq
   ·rename_i e;subst e;simp at hq;subst hq;exact hH2
   ·cases hq
end
end
section
section
variable {P:Program} {o:Oper} {E:Nat→Option SV} {H:Nat→Option Ob} {k:Nat} {own:Bool} {e:jH}
theorem fD.get {p:Nat→Prop}{μ:Nat→Nm}{M:Mem}:∀ {es:List (Nat×SV×SV)} {cZ:List MapEntry} (i:Nat),fD p μ M es cZ→
  (es[i]? =none∧cZ[i]? =none)∨∃ e en,es[i]? =some e∧cZ[i]? =some en∧en.born=e.1∧Rp p μ M e.2.1 en.key∧Rp p μ M e.2.2 en.val
 | [],cZ,i,h=>by
  have h:cZ=[]:=h
  subst h;exact .inl ⟨by simp,by simp⟩
 | (b,k,v)::r,cZ,i,h=>by
  obtain ⟨en,ens',rfl,h1,h2,h3,h4⟩:=h
  cases i with
  | zero=>exact .inr ⟨_,en,rfl,rfl,h1,h2,h3⟩
  | succ i=>simpa using fD.get i h4
theorem fD.findIdx {p:Nat→Prop}{μ:Nat→Nm}{M:Mem}{b:Int}:∀ {es:List (Nat×SV×SV)} {cZ:List MapEntry},fD p μ M es cZ→cZ.findIdx? (fun e=>(e.born:Int) == b)=es.findIdx? (fun e=>(e.1:Int) == b)
 | [],cZ,h=>by
  have h:cZ=[]:=h
  subst h;rfl
 | (t,k,v)::r,cZ,h=>by
  obtain ⟨en,ens',rfl,h1,_,_,h4⟩:=h
  simp only [List.findIdx?_cons,h1,fD.findIdx h4]
theorem CQ {t kt et:TypeId}{m i:Operand}{m' i':X}{ks:List Bool}{z:SV}(ho:o.op= .mapEntry t m i)(ht:P.underlying t=some (.map kt et))(hm:cX m=some m')(hi:cX i=some i')
  (hks:bu P 10000 kt=some ks) (hz:su P et=some z) (he:bW E H k own (.xm ks (kN P kt) z m' i')=some e):Sound P o E H k e:=by
 have hin:m∈o.op.operands∧i∈o.op.operands:=by simp [ho,Op.operands]
 simp only [bW] at he
 split at he <;> first | (cases he;done) | skip
 rename_i n key h1 h2
 split at he <;> first | (cases he;done) | skip
 rename_i es c hH
 split at he <;> first | (cases he;done) | skip
 rename_i rR
 split at he <;> first | (cases he;done) | skip
 rename_i r hf
 injection he with he
 subst he
 refine ⟨OT.write fun p μ M a w hk hp bw=> ?_,sub_one hH⟩
 obtain ⟨h0,cZ,hb,hre⟩:=bw
 have e1:=(hk.get hin.1 hm h1).qd h0
 have r2:=hk.get hin.2 hi h2
 obtain ⟨kv,kc⟩:=fF hks rR r2
 obtain ⟨hfv,hj⟩:=mY hks kc hre hf
 have hfk:=fZ hks kv w hfv
 obtain ⟨zv,hzv,hzr⟩:=sC hz
 cases r with
 | none=>
  obtain ⟨g1,g2⟩:=iK (.map (cZ.push { key:=a.eval i,val:=zv,born:=c}) (c+1)) hb
  refine ⟨.tuple #[zv,.int .i64 c],_,.inl ?_,Rp.dN.2 ⟨_,rfl,aQ.aI.2 ⟨zv,_,rfl,hzr,aQ.aI.2 ⟨_,[],rfl,Rp.aS.2 rfl,aQ.aX.2 rfl⟩⟩⟩,⟨h0,cZ.push { key:=a.eval i,val:=zv,born:=c},g1,?_⟩,fun b hb=>g2 b (hb h0),by simp,rfl,⟨rfl,Nat.le_refl _⟩,rfl⟩
  ·simp [execOp,ho,Instr.mapEntry,run_underlying ht,e1,MapKept.run_getObj_map hb,kv.check hks,hfk,hzv,MapKept.run_setObj_map _ hb,goInt]
  ·simp only [Array.toList_push]
   exact fD.append (en:={ key:=a.eval i,val:=zv,born:=c}) rfl r2 hzr hre
 | some j=>
  obtain ⟨_,q,en,hq,hen,hkv,hcs,hkr,hval⟩:=hj j rfl
  simp only [Nat.sub_zero] at hq hen
  have hsame:=kv.same hkv hcs
  simp only [Option.map_some,hen,Option.getD_some] at hfk
  have hen':cZ[j]? =some en:=by simpa using hen
  have hmod:cZ.modify j (fun e=>{ e with key:=a.eval i})=cZ:=by
   apply Array.ext_getElem?
   intro m
   rw [Array.getElem?_modify]
   by_cases hmj:j=m
   ·subst hmj
    simp [hen',hsame]
   ·simp [hmj]
  obtain ⟨g1,g2⟩:=iK (.map cZ c) hb
  have hborn:en.born=q.1:=by
   rcases fD.get j hre with ⟨x1,x2⟩ | ⟨e',en',x1,x2,x3,_⟩
   ·rw [hq] at x1;cases x1
   ·rw [hq] at x1;rw [hen] at x2
    injection x1 with x1;injection x2 with x2
    rw [x1,x2];exact x3
  refine ⟨.tuple #[en.val,.int .i64 en.born],_,.inl ?_,?_,⟨h0,cZ,g1,hre⟩,fun b hb=>g2 b (hb h0),by simp,rfl,⟨rfl,Nat.le_refl _⟩,rfl⟩
  ·have hst:(Instr.keyThatStays en.key (a.eval i)).run P w= .ok (a.eval i) w:=by rw [← hsame];exact kv.stays w
   simp [execOp,ho,Instr.mapEntry,run_underlying ht,e1,MapKept.run_getObj_map hb,kv.check hks,hfk,hen',hst,MapKept.run_setObj_map _ hb,goInt,hmod]
  ·refine Rp.dN.2 ⟨_,rfl,aQ.aI.2 ⟨en.val,_,rfl,?_,aQ.aI.2 ⟨_,[],rfl,Rp.aS.2 ?_,aQ.aX.2 rfl⟩⟩⟩
   ·simp only [bX,hq];exact hval
   ·simp only [xy,hq,hborn]
theorem CS {t:TypeId}{m s x:Operand}{m' s' x':X}(ho:o.op= .entryStore t m s x)(hm:cX m=some m')(hs:cX s=some s')(hx:cX x=some x')(he:bW E H k own (.xo m' s' x')=some e):Sound P o E H k e:=by
 have hin:m∈o.op.operands∧s∈o.op.operands∧x∈o.op.operands:=by simp [ho,Op.operands]
 simp only [bW] at he
 split at he <;> first | (cases he;done) | skip
 rename_i n kb b v h1 h2 h3
 split at he <;> first | (cases he;done) | skip
 rename_i es c hH
 split at he <;> first | (cases he;done) | skip
 rename_i j hj
 injection he with he
 subst he
 refine ⟨OT.write fun p μ M a w hk hp bw=> ?_,sub_one hH⟩
 obtain ⟨h0,cZ,hb,hre⟩:=bw
 have e1:=(hk.get hin.1 hm h1).qd h0
 have e2:=Rp.aS.1 (hk.get hin.2.1 hs h2)
 have r3:=hk.get hin.2.2 hx h3
 have hfi:cZ.findIdx? (fun e=>(e.born:Int) == b)=some j:=by
  have h2:∀ (q:Array MapEntry) (f:MapEntry→Bool),q.findIdx? f=q.toList.findIdx? f:=fun q f=>by cases q;simp
  rw [h2,fD.findIdx hre];exact hj
 obtain ⟨g1,g2⟩:=iK (.map (cZ.modify j fun e=>{ e with val:=a.eval x}) c) hb
 refine ⟨undef,_,.inr ⟨?_,rfl⟩,Rp.any,⟨h0,cZ.modify j fun e=>{ e with val:=a.eval x},g1,?_⟩,fun b hb=>g2 b (hb h0),by simp,rfl,⟨rfl,Nat.le_refl _⟩,rfl⟩
 ·simp [execOp,ho,Instr.entryStore,e1,e2,MapKept.run_getObj_map hb,hfi,MapKept.run_setObj_map _ hb,asInt,asIntOf]
 ·rw [Array.toList_modify]
  exact fD.modify r3 j hre
theorem GZ {c:Call}{t el:TypeId}{x:Operand}{x':X}{ti:TypeInfo}{z:List SV}(ho:o.op= .call c)(bU:c.callee= .builtin .clear)(ha:c.args.toList=[x])(jK:c.argTypes.toList=[t])(ht:P.underlying t=some (.slice el))
  (hi:P.info? el=some ti) (hz:eS P el=some z) (hsz:z.length=ti.size∧0<ti.size) (hx:cX x=some x') (he:bW E H k own (.HG ti.size z x')=some e) (bw:e.ob):Sound P o E H k e:=by
 have ha':c.args= #[x]:=by cases hh:c.args;simp [hh] at ha;simp [ha]
 have hat':c.argTypes= #[t]:=by cases hh:c.argTypes;simp [hh] at jK;simp [jK]
 have hin:x∈o.op.operands:=by simp [ho,Op.operands,Call.operands,bU,ha']
 simp only [bW] at he
 split at he <;> first | (cases he;done) | skip
 rename_i n off len h1
 split at he <;> first | (cases he;done) | skip
 rename_i el' z' l cs hH
 injection he with he
 subst he
 obtain ⟨b1,b2⟩:=bw
 refine ⟨OT.write fun p μ M a w hk hp bw=> ?_,sub_one hH⟩
 have hpos:0<len*ti.size:=Nat.mul_pos b1 hsz.2
 rcases bw with ⟨_,_,rfl⟩ | bw
 ·simp at b2;omega
 obtain ⟨h0,vs,hb,nR,pR,hl3,hl4,hr⟩:=bw
 obtain ⟨A,cp,e1,e2,e3⟩:=(by simpa only [cG] using (hk.get hin hx h1).rep:∃ A c,a.eval x= .slice (some A) len c∧len≤c∧(len≠0→A=⟨(μ n).blk,off,none⟩))
 have e3:=e3 (by omega)
 subst e3
 obtain ⟨v,hv,Gw,hzone⟩:=fh hz (p:=p) (μ:=μ) (M:=M)
 have hvs:v.cells.size=ti.size:=by have:=Gw.length;simp at this;omega
 have hm:=qb Gw len (len*ti.size) (by rw [hsz.1])
 have hle:l*z'≤vs.size:=by rw [hl4];exact Nat.mul_le_mul_right z' pR
 have hzl:((Array.range (len*ti.size)).map (v.cells[· % v.cells.size]!)).toList=(Builtin.zeroCells v.cells len).toList:=by
  unfold Builtin.zeroCells;rw [hvs]
 have hlen:(Builtin.zeroCells v.cells len).toList.length=len*ti.size:=by rw [← hzl];simp
 rw [hzl] at hm
 have hone:∀ u∈(Builtin.zeroCells v.cells len).toList,u.oneCell'=true:=by
  refine aQ.Aj ?_ hm
  rw [List.all_eq_true] at hzone ⊢
  intro y hy
  rw [List.mem_flatten] at hy
  obtain ⟨q,hq,hy⟩:=hy
  rw [List.eq_of_mem_replicate hq] at hy
  exact hzone y hy
 obtain ⟨w',hr',q1,q2,q3,q4,q5,q6⟩:=gm (P:=P) (Builtin.zeroCells v.cells len).toList vs w off 0 hb (by rw [hlen];omega) hone
 have hlr:((List.replicate len z).flatten).length=len*ti.size:=by rw [hm.length.symm,hlen]
 refine ⟨.tuple #[],w',.inl ?_,Rp.any,.inr ⟨h0,_,q1,?_,pR,hl3,?_,?_⟩,fun b hb=>q2 b (hb h0),q3,q4,q5,q6⟩
 ·obtain ⟨len',rfl⟩:∃ m,len=m+1:=⟨len - 1,by omega⟩
  simp [execOp,ho,resolve,bU,ha',hat',invoke,builtin,Builtin.clear_,run_underlying ht,e1,hv,hr']
 ·rw [tA (by omega)]
  simp only [List.length_append,List.length_take,List.length_drop,hlr]
  omega
 ·simp only [l6,List.size_toArray,List.length_append,List.length_take,List.length_drop,Array.length_toList,Nat.add_zero] at hlen ⊢
  omega
 ·have:=aQ.bV (o:=off) hr hm (by omega)
  rw [← sx _ _ _ _ (by omega) (by simpa using hle)] at this
  simpa using this
theorem OT.Fo {k n m:Nat}{ob iJ om:Ob}{v:SV}(hnm:n≠m)(h:∀ (p:Nat→Prop) (μ:Nat→Nm) (M:Mem) (a:Act) (w:World),fL E o.op.operands p μ M a→p n→p m→cR p μ M w (μ n) ob→cR p μ M w (μ m) om→
  ∃ u w',((execOp a.eval o).run P w= .ok (.value u) w'∨((execOp a.eval o).run P w= .ok .skip w'∧u=undef))∧Rp p μ M v u∧cR p μ M w' (μ n) iJ∧
   (∀ b,((μ n).live=true→b≠(μ n).blk)→w'.heap[b]? =w.heap[b]?)∧w'.heap.size=w.heap.size∧w'.os=w.os∧Tape w w'∧w'.output=w.output):
  OT P o E [(n,ob),(m,om)] (fun q=>k≤q∧q<k+0) v [(n,iJ),(m,om)]:=by
 intro rd p μ M a w K Q hnew hkn hS hK
 have hlk:∀ (o1:Ob) q,lk [(n,o1),(m,om)] q=if q=n then some o1 else if q=m then some om else none:=fun o1 q=>by rw [af,cq]
 obtain ⟨hp,bw,hmn⟩:=hS.obs n ob (by rw [hlk,if_pos rfl])
 obtain ⟨hpm,hom,hmm⟩:=hS.obs m om (by rw [hlk,if_neg (Ne.symm hnm),if_pos rfl])
 have hne:(μ n).live=true→(μ m).live=true→(μ n).blk≠(μ m).blk:=fun l1 l2 e=>hnm (hS.inj n m (by rw [hlk,if_pos rfl];simp) (by rw [hlk,if_neg (Ne.symm hnm),if_pos rfl];simp) l1 l2 e)
 obtain ⟨u,w',hr,hu,hob',hother,hsz,h1,h2,h3⟩:=h p μ M a w hkn hp hpm bw hom
 have hpk:∀ m,p m→(fun m=>p m∨(k≤m∧m<k+0)) m:=fun m hm=> .inl hm
 have key:K (a.put o.dst u) w':=by
  refine hK u μ M w' (hu.more hpk (fun _ _=>rfl) (Mem.le_refl M)) ⟨⟨fun b i x hm=> ?_,hS.mem.jG⟩,fun q ob'' hm=> ?_,fun q q' hm hm' lm lm' e=> ?_⟩
   ⟨fun _ _=>rfl,Mem.le_refl M,fun b hb hf=>⟨hother b fun l e=>hf n (by rw [hlk,if_pos rfl];simp) l e.symm,fun _=>rfl⟩,by omega,fun q hm=> ?_,h1,h2,h3⟩
  ·have hb:(μ n).live=true→b≠(μ n).blk:=fun l e=>by rw [e,hmn l] at hm;cases hm
   rw [← hS.mem b i x hm]
   unfold World.cell?
   rw [hother b hb]
  ·rw [hlk] at hm
   split at hm
   ·rename_i e
    subst e
    simp at hm
    subst hm
    exact ⟨.inl hp,hob'.more hpk (fun _ _=>rfl) (Mem.le_refl M) fun _=>rfl,hmn⟩
   ·split at hm
    ·rename_i e
     subst e
     simp at hm
     subst hm
     exact ⟨.inl hpm,hom.more hpk (fun _ _=>rfl) (Mem.le_refl M) fun l=>hother _ fun l' e=>hne l' l e.symm,hmm⟩
    ·cases hm
  ·refine hS.inj q q' ?_ ?_ lm lm' e
   ·rw [hlk] at hm ⊢
    split at hm
    ·rename_i e;rw [if_pos e];simp
    ·rename_i e;rw [if_neg e];exact hm
   ·rw [hlk] at hm' ⊢
    split at hm'
    ·rename_i e;rw [if_pos e];simp
    ·rename_i e;rw [if_neg e];exact hm'
  ·refine .inr ⟨by omega,?_⟩
   rw [hlk] at hm ⊢
   split at hm
   ·rename_i e;rw [if_pos e];simp
   ·rename_i e;rw [if_neg e];exact hm
 rcases hr with hr | ⟨hr,rfl⟩
 ·exact fM hr key
 ·exact xu hr key
theorem Fp {c:Call}{t el t':TypeId}{x y:Operand}{x' y':X}{ti:TypeInfo}(ho:o.op= .call c)(bU:c.callee= .builtin .copy)(ha:c.args.toList=[x,y])(jK:c.argTypes.toList=[t,t'])(ht:P.underlying t=some (.slice el))
  (hi:P.info? el=some ti) (hx:cX x=some x') (hy:cX y=some y') (he:bW E H k own (.copy el ti.size x' y')=some e) (bw:e.ob):Sound P o E H k e:=by
 have ha':c.args= #[x,y]:=by cases hh:c.args;simp [hh] at ha;simp [ha]
 have hat':c.argTypes= #[t,t']:=by cases hh:c.argTypes;simp [hh] at jK;simp [jK]
 have hin:x∈o.op.operands∧y∈o.op.operands:=by simp [ho,Op.operands,Call.operands,bU,ha']
 simp only [bW] at he
 split at he <;> first | (cases he;done) | skip
 rename_i n off len m off' len' h1 h2
 split at he <;> first | (cases he;done) | skip
 rename_i tb cs tb' cs' hH hH'
 split at he <;> first | (cases he;done) | skip
 rename_i hone
 injection he with he
 subst he
 obtain ⟨b0,b1,b2,b3,b4⟩:=bw
 refine ⟨OT.Fo b0 fun p μ M a w hk hp hpm bw hom=> ?_,fun q ob hq=> ?_⟩
 ·obtain ⟨h0,vs,hb,hr⟩:=bw
  obtain ⟨h0',vs',hb',hr'⟩:=hom
  obtain ⟨A,cp,e1,e2,e3⟩:=(by simpa only [cG] using (hk.get hin.1 hx h1).rep:∃ A c,a.eval x= .slice (some A) len c∧len≤c∧(len≠0→A=⟨(μ n).blk,off,none⟩))
  have e3:=e3 (by omega)
  subst e3
  obtain ⟨A,cp',f1,f2,f3⟩:=(by simpa only [cG] using (hk.get hin.2 hy h2).rep:∃ A c,a.eval y= .slice (some A) len' c∧len'≤c∧(len'≠0→A=⟨(μ m).blk,off',none⟩))
  have f3:=f3 (by omega)
  subst f3
  subst b4
  let us:List Value:=(vs'.toList.drop off').take (len*ti.size)
  have hru:aQ p μ M ((cs'.drop off').take (len*ti.size)) us:=aQ.take _ (aQ.drop _ hr')
  have hul:us.length=len*ti.size:=by rw [hru.length];simp;omega
  have hone':∀ u∈us,u.oneCell'=true:=aQ.Aj (by
   rw [List.all_eq_true] at hone ⊢
   intro z hz
   exact hone z (List.mem_of_mem_drop (List.mem_of_mem_take hz))) hru
  have hvl:vs.size=cs.length:=by have:=hr.length;simpa using this
  have hf:=run_firstCells_some (P:=P) w ti.size len ⟨(μ m).blk,off',none⟩ len cp' us hul (fun j u hj=>by
   rw [dy,cell_of hb']
   simp only [us,List.getElem?_take,List.getElem?_drop] at hj
   split at hj
   ·simpa using hj
   ·cases hj)
  obtain ⟨w',hr'',q1,q2,q3,q4,q5,q6⟩:=gm (P:=P) us vs w off 0 hb (by rw [hul];omega) hone'
  refine ⟨.int .i64 (len:Nat),w',.inl ?_,Rp.aS.2 rfl,⟨h0,_,q1,?_⟩,fun b hb=>q2 b (hb h0),q3,q4,q5,q6⟩
  ·simp [execOp,ho,resolve,bU,ha',hat',invoke,builtin,Builtin.copy_,run_underlying ht,e1,f1,Builtin.lenOf,sizeOf,typeInfo,hi,hf,hr'',goInt]
  ·have:=aQ.bV (o:=off) hr hru (by simp;omega)
   simpa using this
 ·rw [af,cq] at hq
  split at hq
  ·rename_i e;subst e;rw [← hq];exact hH
  ·split at hq
   ·rename_i e;subst e;rw [← hq];exact hH'
   ·cases hq
end
end
section
section
variable {P:Program} {o:Oper} {E:Nat→Option SV} {H:Nat→Option Ob} {k:Nat} {own:Bool} {e:jH}
theorem yy {so:SO}(hc:cO P o.op=some so)(he:bW E H k own so=some e)(bw:e.ob):Sound P o E H k e:=by
 cases hop:o.op <;> rw [hop] at hc <;> simp only [cO] at hc <;> try (cases hc;done)
 case move x=>
  obtain ⟨y,hy,rfl⟩:=Option.map_eq_some_iff.1 hc
  exact GI (.inl hop) hy he
 case assign x=>
  obtain ⟨y,hy,rfl⟩:=Option.map_eq_some_iff.1 hc
  exact GI (.inr hop) hy he
 case pick c x y=>
  split at hc <;> first | (cases hc;done) | skip
  rename_i h1 h2 h3
  injection hc with hc;subst hc
  exact E5 hop h1 h2 h3 he
 case alloc t=>
  obtain ⟨z,hz,rfl⟩:=Option.map_eq_some_iff.1 hc
  exact CG hop hz he
 case box t x=>
  obtain ⟨y,hy,rfl⟩:=Option.map_eq_some_iff.1 hc
  exact GJ hop hy he
 case build t parts=>
  split at hc <;> first | (cases hc;done) | skip
  ·rename_i fs z ht hz
   split at hc <;> first | (cases hc;done) | skip
   rename_i Fe
   obtain ⟨qs,hq,rfl⟩:=Option.map_eq_some_iff.1 hc
   exact Fc hop ht hz Fe hq he bw
  ·rename_i n el z ht hz
   split at hc <;> first | (cases hc;done) | skip
   rename_i j hj
   obtain ⟨qs,hq,rfl⟩:=Option.map_eq_some_iff.1 hc
   exact Ff hop ht hz hj hq he bw
 case buildSlice t len parts=>
  split at hc <;> first | (cases hc;done) | skip
  rename_i el ht
  split at hc <;> first | (cases hc;done) | skip
  rename_i j z hj hz
  split at hc <;> first | (cases hc;done) | skip
  rename_i hsz
  obtain ⟨qs,hq,rfl⟩:=Option.map_eq_some_iff.1 hc
  exact GS hop ht hj hz hsz hq he bw
 case load t x=>
  split at hc <;> first | (cases hc;done) | skip
  rename_i y sz h1 h2
  injection hc with hc;subst hc
  exact E6 hop h1 h2 he bw
 case store t x v=>
  split at hc <;> first | (cases hc;done) | skip
  rename_i h1 h2 h3
  injection hc with hc;subst hc
  exact CM hop h3 h1 h2 he bw
 case nilCheck x=>
  obtain ⟨y,hy,rfl⟩:=Option.map_eq_some_iff.1 hc
  exact E7 hop hy he
 case binOp op t x y t'=>
  split at hc
  ·rename_i hq
   split at hc
   ·split at hc <;> first | (cases hc;done) | skip
    rename_i h1 h2
    injection hc with hc;subst hc
    exact EE hop h1 h2 he bw
   ·rename_i ht
    split at hc <;> first | (cases hc;done) | skip
    rename_i h1 h2
    injection hc with hc;subst hc
    exact GR hop hq ht h1 h2 he
   ·rename_i fs ht
    split at hc <;> first | (cases hc;done) | skip
    rename_i h1 h2 h3
    split at hc <;> first | (cases hc;done) | skip
    rename_i hg
    injection hc with hc;subst hc
    exact EG hop hq (.inl ⟨_,ht⟩) h3 (by simpa using hg) h1 h2 he
   ·rename_i n el ht
    split at hc <;> first | (cases hc;done) | skip
    rename_i h1 h2 h3
    split at hc <;> first | (cases hc;done) | skip
    rename_i hg
    injection hc with hc;subst hc
    exact EG hop hq (.inr ⟨_,_,ht⟩) h3 (by simpa using hg) h1 h2 he
   ·split at hc <;> first | (cases hc;done) | skip
    rename_i h1 h2
    injection hc with hc;subst hc
    exact CL hop hq h1 h2 he bw
  ·split at hc <;> first | (cases hc;done) | skip
   rename_i h1 h2
   injection hc with hc;subst hc
   exact EE hop h1 h2 he bw
 case unOp op t x=>
  cases op <;> simp only at hc <;> try (cases hc;done)
  ·obtain ⟨y,hy,rfl⟩:=Option.map_eq_some_iff.1 hc
   exact GL hop hy he
  ·obtain ⟨y,hy,rfl⟩:=Option.map_eq_some_iff.1 hc
   exact GK hop hy he
 case convert s d x=>
  split at hc <;> first | (cases hc;done) | skip
  rename_i h1 h2 h3
  injection hc with hc;subst hc
  exact E8 hop h1 h2 h3 he
 case makeFunc f a c=>
  split at hc <;> first | (cases hc;done) | skip
  rename_i h1 h2
  injection hc with hc;subst hc
  exact GO hop h1 h2 he
 case makeMap t r=>
  cases r <;> simp only at hc <;> try (cases hc;done)
  injection hc with hc;subst hc
  exact GP hop he
 case makeSlice t l c=>
  split at hc <;> first | (cases hc;done) | skip
  rename_i el l' c' ht hl hc'
  split at hc <;> first | (cases hc;done) | skip
  rename_i i z hi hz
  split at hc <;> first | (cases hc;done) | skip
  rename_i hsz
  injection hc with hc;subst hc
  exact GU hop ht hi hz hsz hl hc' he bw
 case slice t x lo hi mx=>
  cases mx with
  | some m=>
   cases lo <;> cases hi <;> simp only at hc <;> try (cases hc;done)
   rename_i h
   split at hc <;> first | (cases hc;done) | skip
   rename_i el x' h' m' ht hx hh hm
   split at hc <;> first | (cases hc;done) | skip
   rename_i j hj
   injection hc with hc;subst hc
   exact Fg hop ht hj hx hh hm he bw
  | none=>
  simp only at hc
  split at hc <;> first | (cases hc;done) | skip
  ·rename_i el x' lo' hi' ht hx hl hh
   split at hc <;> first | (cases hc;done) | skip
   rename_i j hj
   injection hc with hc;subst hc
   exact GV hop ht hj hx hl hh he bw
  ·rename_i nn el x' lo' hi' ht hx hl hh
   split at hc <;> first | (cases hc;done) | skip
   rename_i j hj
   injection hc with hc;subst hc
   exact Fi hop ht hj hx hl hh he bw
 case fieldAddr s x f=>
  split at hc <;> first | (cases hc;done) | skip
  rename_i fs x' hs hx
  split at hc <;> first | (cases hc;done) | skip
  rename_i fl hf
  split at hc <;> first | (cases hc;done) | skip
  rename_i i hi
  split at hc <;> first | (cases hc;done) | skip
  rename_i HT
  injection hc with hc;subst hc
  exact GQ hop hs hf hi HT hx he
 case field t x f=>
  split at hc <;> first | (cases hc;done) | skip
  rename_i fs x' hs hx
  split at hc <;> first | (cases hc;done) | skip
  rename_i fl hf
  split at hc <;> first | (cases hc;done) | skip
  rename_i sz hz
  injection hc with hc;subst hc
  exact CI hop hs hf hz hx he bw
 case indexAddr t x i=>
  split at hc <;> first | (cases hc;done) | skip
  ·rename_i n el x' i' ht hx hi
   split at hc <;> first | (cases hc;done) | skip
   rename_i j hj
   injection hc with hc;subst hc
   exact Fa hop ht hj hx hi he bw
  ·rename_i el x' i' ht hx hi
   split at hc <;> first | (cases hc;done) | skip
   rename_i j hj
   injection hc with hc;subst hc
   exact Fb hop ht hj hx hi he bw
 case index t x i=>
  split at hc <;> first | (cases hc;done) | skip
  ·rename_i n el x' i' ht hx hi
   split at hc <;> first | (cases hc;done) | skip
   rename_i j sz hj hz
   split at hc <;> first | (cases hc;done) | skip
   rename_i EF
   injection hc with hc;subst hc
   exact CJ hop ht hj hz (by cases sz <;> simp_all [Ad]) hx hi he bw
  ·rename_i x' i' ht hx hi
   injection hc with hc;subst hc
   exact E_ hop ht hx hi he bw
 case extract x i=>
  obtain ⟨y,hy,rfl⟩:=Option.map_eq_some_iff.1 hc
  exact GM hop hy he
 case lookup t m i ok=>
  split at hc <;> first | (cases hc;done) | skip
  rename_i kt et m' i' ht hm hi
  split at hc <;> first | (cases hc;done) | skip
  rename_i ks z hks hz
  injection hc with hc;subst hc
  exact Fk hop ht hm hi hks hz he
 case mapUpdate t m i v=>
  split at hc <;> first | (cases hc;done) | skip
  rename_i kt et m' i' v' ht hm hi hv
  split at hc <;> first | (cases hc;done) | skip
  rename_i ks hks
  injection hc with hc;subst hc
  exact Ak (.inl hop) ht hm hi hv hks he
 case insert t m i v=>
  split at hc <;> first | (cases hc;done) | skip
  rename_i kt et m' i' v' ht hm hi hv
  split at hc <;> first | (cases hc;done) | skip
  rename_i ks hks
  injection hc with hc;subst hc
  exact Ak (.inr hop) ht hm hi hv hks he
 case mapEntry t m i=>
  split at hc <;> first | (cases hc;done) | skip
  rename_i kt et m' i' ht hm hi
  split at hc <;> first | (cases hc;done) | skip
  rename_i ks z hks hz
  injection hc with hc;subst hc
  exact CQ hop ht hm hi hks hz he
 case entryStore t m s x=>
  split at hc <;> first | (cases hc;done) | skip
  rename_i m' s' x' hm hs hx
  injection hc with hc;subst hc
  exact CS hop hm hs hx he
 case range t m=>
  split at hc <;> first | (cases hc;done) | skip
  rename_i kt et m' ht hm
  injection hc with hc;subst hc
  exact An hop ht hm he
 case next it s=>
  split at hc
  ·cases hc
  ·obtain ⟨y,hy,rfl⟩:=Option.map_eq_some_iff.1 hc
   simp [bW] at he
 case entry it=>
  obtain ⟨y,hy,rfl⟩:=Option.map_eq_some_iff.1 hc
  exact Ao hop hy he bw
 case call c=>
  split at hc <;> first | (cases hc;done) | skip
  ·rename_i x t bU ha jK
   split at hc <;> first | (cases hc;done) | skip
   ·rename_i el x' ht hx
    injection hc with hc;subst hc
    exact GN hop bU ha jK ht hx he
   ·rename_i kt et x' ht hx
    injection hc with hc;subst hc
    exact Fl hop bU ha jK ht hx he
   ·rename_i x' ht hx
    injection hc with hc;subst hc
    exact E9 hop bU ha jK ht hx he
  ·rename_i x t bU ha jK
   split at hc <;> first | (cases hc;done) | skip
   rename_i el x' ht hx
   split at hc <;> first | (cases hc;done) | skip
   rename_i i z hi hz
   split at hc <;> first | (cases hc;done) | skip
   rename_i hsz
   injection hc with hc;subst hc
   exact GZ hop bU ha jK ht hi hz hsz hx he bw
  ·rename_i x y t t' bU ha jK
   split at hc <;> first | (cases hc;done) | skip
   rename_i el x' y' ht hx hy
   split at hc <;> first | (cases hc;done) | skip
   rename_i i hi
   injection hc with hc;subst hc
   exact Fp hop bU ha jK ht hi hx hy he bw
  ·rename_i m i t t' bU ha jK
   split at hc <;> first | (cases hc;done) | skip
   rename_i kt et m' i' ht hm hi
   split at hc <;> first | (cases hc;done) | skip
   rename_i ks hks
   injection hc with hc;subst hc
   exact Fm hop bU ha jK ht hm hi hks he
  ·rename_i x y t t' bU ha jK
   split at hc <;> first | (cases hc;done) | skip
   rename_i htt
   subst htt
   split at hc <;> first | (cases hc;done) | skip
   rename_i el x' y' ht hx hy
   split at hc <;> first | (cases hc;done) | skip
   rename_i i z hi hz
   split at hc <;> first | (cases hc;done) | skip
   rename_i hzl
   injection hc with hc;subst hc
   exact GW hop bU ha jK ht hi hz hzl hx hy he bw
  ·split at hc <;> first | (cases hc;done) | skip
   injection hc with hc;subst hc
   simp [bW] at he
  ·rename_i x y bU ha
   split at hc <;> first | (cases hc;done) | skip
   rename_i hx hy
   injection hc with hc;subst hc
   exact HQ hop bU ha hx hy he
  ·rename_i x y bU ha
   split at hc <;> first | (cases hc;done) | skip
   rename_i hx hy
   injection hc with hc;subst hc
   exact HS hop bU ha hx hy he
def bF:SO→Bool
 | .alloc .. | .box .. | .store .. | .nV .. | .app .. | .ED | .HF .. | .ur .. | .z_ .. | .p_ .. | .mg .. | .copy .. | .xm .. | .xo .. | .HG .. | .call .. =>false
 | _=>true
end
end
end Go.Sl
