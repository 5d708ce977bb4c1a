/-
 Trees of credentials: the document's credentials.
-/
import Derived.Test.YtefjaphfnkbbkaaUK
import Derived.Test.YtefjaphfnkbbkaaUE
import Derived.Test.YtefjaphfnkbbkaaUM
import Derived.Test.YtefjaphfnkbbkaaUL
set_option linter.unusedSectionVars false
set_option linter.unusedVariables false
set_option linter.unusedSimpArgs false
namespace Go.Proofs.Ytefjaphfnkbbkaa
open Go.Sl Go.Proofs
section
def dz (o:aq)(c:Cr):Bool:=((!g_ o.bn c.bn || ((o.to:Int) == 0)) || decide ((o.depth:Int)≥c.depth)) || decide ((o.cap:Int)>c.cap)
def lK (l:List aq)(g:Cr×Bool)(o:aq):Bool:=(!g.2 || !decide (g.1.dU=o.dU)) || !((cZ l o.aQ).getD aq.zero).before o
def gT (l:List aq)(g:Cr×Bool)(o:aq):Cr×Nat:=
 if o.kind≠1 then (Cr.zero,2) else (g.1,if lK l g o then 272 else if g.1.hold≠o.who then 273 else if hasB g.1.bn 1=false then 274 else if dz o g.1 then 275 else 0)
def dA (l:List aq):Nat→Dt→Cr×Bool
 | 0,_=>(Cr.zero,false)
 | m +1,d=>match cZ l d with
  | none=>(Cr.zero,false)
  | some o=>if o.kind=0 then (⟨d,d,⟨0,0⟩,o.who,7,8,1099511627776,0⟩,decide (o.dU=d)) else
   if (gT l (dA l m o.aQ) o).2≠0 then (Cr.zero,false) else (⟨d,o.dU,o.aQ,o.to,o.bn,o.depth,o.cap,IntKind.i64.wrap ((gT l (dA l m o.aQ) o).1.level+1)⟩,true)
theorem y2 {l:List aq}(hl:∀ x,x∈l→x.bn<256)(m:Nat)(d:Dt):(dA l m d).1.bn<256:=by
 cases m with
 | zero=>show (0:Nat)<256;omega
 | succ m=>
  simp only [dA]
  split
  ·show (0:Nat)<256;omega
  ·rename_i o ho
   split
   ·show (7:Nat)<256;omega
   ·split
    ·show (0:Nat)<256;omega
    ·exact hl o (List.mem_of_find?_eq_some ho)
section
attribute [local irreducible] SW RW bp SC af aa dA
variable {l:List aq} (hlen:l.length<4611686018427387904) (hl:∀ x,x∈l→x.bn<256)
include hlen hl
set_option maxHeartbeats 4000000 in
theorem ET (m : Nat)(hm:m<1000)(o:aq)(ho:o.bn<256)(hg:∀ d k,bp Try.prog ref16_get.f [ops l,.agg d.cells,i64 m] [] k 0 (.cg [.agg (dA l m d).1.cells,bl (dA l m d).2]) []):
    Go.Sl.Pure Try.prog ref16_why.f [ops l,.agg o.cells,i64 ((m+1:Nat):Int)] (.cg [.agg (gT l (dA l m o.aQ) o).1.cells,i64 (gT l (dA l m o.aQ) o).2]):=by
  refine ref16_why.enter (by first | rfl | simp [SV.ok,SV.aI]) (by first | rfl | simp [Hp.ok,Ob.ok,SV.ok,SV.aI,aS.aj]) (by simp) ?_
  dsimp only [ref16_why.s,Co.M,Co.G,Co.J,Co.H,Co.N,Co.F,Co.C,Co.Z,Co.B,Co.b8,Co.aA,Co.bz,Co.i6,Co.z8,Co.dm]
  have hgr:=y2 hl m o.aQ
  have hgc:=hg o.aQ
  obtain ⟨g,hgd⟩:∃ g,dA l m o.aQ=g:=⟨_,rfl⟩
  rw [hgd] at hgr hgc ⊢
  have em:IntKind.i64.wrap (((m+1:Nat):Int) - 1)=(m:Int):=by rw [wrap_i64 _ (by omega)];omega
  have k1:(((o.kind:Nat):Int) != 1)=decide (o.kind≠1):=by rw [Bool.eq_iff_iff];simp only [bne_iff_ne,decide_eq_true_eq];omega
  obtain ⟨mk,hmk⟩:∃ mk,(cZ l o.aQ).getD aq.zero=mk:=⟨_,rfl⟩
  have hfd:∀ k,bp Try.prog ref10_Find.f [ops l,.agg o.aQ.cells] [] k 0 (.cg [.agg mk.cells,bl (cZ l o.aQ).isSome]) []:=fun k=>by rw [← hmk];exact rj l hlen o.aQ k
  have hw:gT l g o=if o.kind≠1 then (Cr.zero,2) else (g.1,if (!g.2 || !decide (g.1.dU=o.dU)) || !mk.before o then 272 else if g.1.hold≠o.who then 273 else if hasB g.1.bn 1=false then 274 else if dz o g.1 then 275 else 0):=by
    unfold gT lK;rw [hmk]
  have kh:(((g.1.hold:Nat):Int) != ((o.who:Nat):Int))=decide (g.1.hold≠o.who):=by rw [Bool.eq_iff_iff];simp only [bne_iff_ne,decide_eq_true_eq];omega
  rw [hw]
  rcases (Bool.eq_false_or_eq_true (decide (o.kind≠1))).symm with h1 | h1
  case inr=>
    rw [if_pos (by simpa using h1)]
    (repeat (first | refine SW.seq ?_ | refine SW.block ?_ | refine SW.g0 [0,1,2,4,6,7,8,9,10,14,46,52,57,83] mixed (And.intro (k1) (h1)) ?_ | refine SW.skip ?_ | refine SW.exit ?_ | refine SW.ret ?_ | refine SW.au rfl ?_ | refine SW.ak rfl ?_))
    exact End.mk [] (h4:=⟨rfl,rfl⟩)
  rw [if_neg (by simpa using h1)]
  obtain ⟨c,is⟩:=g
  dsimp only at*
  cases is with
  | false=>
    (repeat (first | refine SW.seq ?_ | refine SW.block ?_ | (have fx:=(And.intro (k1) (And.intro (h1) (And.intro (em) (kh))));refine SW.ai [0,1,2,4,6,7,8,9,10,14,46,52,57,83] mixed ?_;(repeat (first | refine RW.ro fx (h:= ?_) | refine RW.skip (h:= ?_) | refine RW.op fx (h:= ?_) | refine RW.aF fx (h:= ?_) | refine RW.ah (h:= ?_) | (refine RW.ax (h:= ?_);(first | refine af.mk fx (hc:=hgc _) (h:= ?_) | refine af.mk fx (hc:=hfd _) (h:= ?_) | refine af.mk fx (hc:=d_ _ _ _) (h:= ?_) | refine af.mk fx (hc:=fu _ 1 hgr ⟨by omega,by omega⟩ _) (h:= ?_) | refine af.mk fx (hc:=fh _ _ ho hgr _) (h:= ?_)))));refine RW.nil ⟨by kernel_rfl,aa.mk (h:= ?_)⟩) | refine SW.skip ?_ | refine SW.exit ?_ | refine SW.ret ?_ | refine SW.au rfl ?_ | refine SW.ak rfl ?_))
    exact End.mk [] (h4:=⟨by simp only [Bool.not_false,Bool.not_false,Bool.not_true,Bool.true_or,Bool.false_or,Bool.or_true,Bool.or_false,if_true,if_false,Bool.false_eq_true,reduceIte];rfl,rfl⟩)
  | true=>
    rcases (Bool.eq_false_or_eq_true (decide (c.dU=o.dU))).symm with h2 | h2
    · skip
      (repeat (first | refine SW.seq ?_ | refine SW.block ?_ | (have fx:=(And.intro (k1) (And.intro (h1) (And.intro (em) (And.intro (kh) (h2)))));refine SW.ai [0,1,2,4,6,7,8,9,10,14,46,52,57,83] mixed ?_;(repeat (first | refine RW.ro fx (h:= ?_) | refine RW.skip (h:= ?_) | refine RW.op fx (h:= ?_) | refine RW.aF fx (h:= ?_) | refine RW.ah (h:= ?_) | (refine RW.ax (h:= ?_);(first | refine af.mk fx (hc:=hgc _) (h:= ?_) | refine af.mk fx (hc:=hfd _) (h:= ?_) | refine af.mk fx (hc:=d_ _ _ _) (h:= ?_) | refine af.mk fx (hc:=fu _ 1 hgr ⟨by omega,by omega⟩ _) (h:= ?_) | refine af.mk fx (hc:=fh _ _ ho hgr _) (h:= ?_)))));refine RW.nil ⟨by kernel_rfl,aa.mk (h:= ?_)⟩) | refine SW.skip ?_ | refine SW.exit ?_ | refine SW.ret ?_ | refine SW.au rfl ?_ | refine SW.ak rfl ?_))
      exact End.mk [] (h4:=⟨by simp only [h2,Bool.not_false,Bool.not_true,Bool.true_or,Bool.false_or,Bool.or_true,Bool.or_false,if_true,if_false,Bool.false_eq_true,reduceIte];rfl,rfl⟩)
    · skip
      rcases (Bool.eq_false_or_eq_true (mk.before o)).symm with h3 | h3
      · skip
        (repeat (first | refine SW.seq ?_ | refine SW.block ?_ | (have fx:=(And.intro (k1) (And.intro (h1) (And.intro (em) (And.intro (kh) (And.intro (h2) (h3))))));refine SW.ai [0,1,2,4,6,7,8,9,10,14,46,52,57,83] mixed ?_;(repeat (first | refine RW.ro fx (h:= ?_) | refine RW.skip (h:= ?_) | refine RW.op fx (h:= ?_) | refine RW.aF fx (h:= ?_) | refine RW.ah (h:= ?_) | (refine RW.ax (h:= ?_);(first | refine af.mk fx (hc:=hgc _) (h:= ?_) | refine af.mk fx (hc:=hfd _) (h:= ?_) | refine af.mk fx (hc:=d_ _ _ _) (h:= ?_) | refine af.mk fx (hc:=fu _ 1 hgr ⟨by omega,by omega⟩ _) (h:= ?_) | refine af.mk fx (hc:=fh _ _ ho hgr _) (h:= ?_)))));refine RW.nil ⟨by kernel_rfl,aa.mk (h:= ?_)⟩) | refine SW.skip ?_ | refine SW.exit ?_ | refine SW.ret ?_ | refine SW.au rfl ?_ | refine SW.ak rfl ?_))
        exact End.mk [] (h4:=⟨by simp only [h2,h3,Bool.not_false,Bool.not_true,Bool.true_or,Bool.false_or,Bool.or_true,Bool.or_false,if_true,if_false,Bool.false_eq_true,reduceIte];rfl,rfl⟩)
      · skip
        rcases (Bool.eq_false_or_eq_true (decide (c.hold≠o.who))).symm with h4 | h4
        rotate_left
        · skip
          (repeat (first | refine SW.seq ?_ | refine SW.block ?_ | (have fx:=(And.intro (k1) (And.intro (h1) (And.intro (em) (And.intro (kh) (And.intro (h2) (And.intro (h3) (h4)))))));refine SW.ai [0,1,2,4,6,7,8,9,10,14,46,52,57,83] mixed ?_;(repeat (first | refine RW.ro fx (h:= ?_) | refine RW.skip (h:= ?_) | refine RW.op fx (h:= ?_) | refine RW.aF fx (h:= ?_) | refine RW.ah (h:= ?_) | (refine RW.ax (h:= ?_);(first | refine af.mk fx (hc:=hgc _) (h:= ?_) | refine af.mk fx (hc:=hfd _) (h:= ?_) | refine af.mk fx (hc:=d_ _ _ _) (h:= ?_) | refine af.mk fx (hc:=fu _ 1 hgr ⟨by omega,by omega⟩ _) (h:= ?_) | refine af.mk fx (hc:=fh _ _ ho hgr _) (h:= ?_)))));refine RW.nil ⟨by kernel_rfl,aa.mk (h:= ?_)⟩) | refine SW.skip ?_ | refine SW.exit ?_ | refine SW.ret ?_ | refine SW.au rfl ?_ | refine SW.ak rfl ?_))
          exact End.mk [] (h4:=⟨by simp only [h2,h3,ne_eq,not_false_eq_true,show ¬ c.hold=o.who by simpa using h4,Bool.not_false,Bool.not_true,Bool.true_or,Bool.false_or,Bool.or_true,Bool.or_false,if_true,if_false,Bool.false_eq_true,reduceIte];rfl,rfl⟩)
        · skip
          rcases (Bool.eq_false_or_eq_true (hasB c.bn 1)).symm with h5 | h5
          · skip
            (repeat (first | refine SW.seq ?_ | refine SW.block ?_ | (have fx:=(And.intro (k1) (And.intro (h1) (And.intro (em) (And.intro (kh) (And.intro (h2) (And.intro (h3) (And.intro (h4) (h5))))))));refine SW.ai [0,1,2,4,6,7,8,9,10,14,46,52,57,83] mixed ?_;(repeat (first | refine RW.ro fx (h:= ?_) | refine RW.skip (h:= ?_) | refine RW.op fx (h:= ?_) | refine RW.aF fx (h:= ?_) | refine RW.ah (h:= ?_) | (refine RW.ax (h:= ?_);(first | refine af.mk fx (hc:=hgc _) (h:= ?_) | refine af.mk fx (hc:=hfd _) (h:= ?_) | refine af.mk fx (hc:=d_ _ _ _) (h:= ?_) | refine af.mk fx (hc:=fu _ 1 hgr ⟨by omega,by omega⟩ _) (h:= ?_) | refine af.mk fx (hc:=fh _ _ ho hgr _) (h:= ?_)))));refine RW.nil ⟨by kernel_rfl,aa.mk (h:= ?_)⟩) | refine SW.skip ?_ | refine SW.exit ?_ | refine SW.ret ?_ | refine SW.au rfl ?_ | refine SW.ak rfl ?_))
            exact End.mk [] (h4:=⟨by simp only [h2,h3,show ¬ c.hold≠o.who by simpa using h4,h5,Bool.not_false,Bool.not_true,Bool.true_or,Bool.false_or,Bool.or_true,Bool.or_false,if_true,if_false,Bool.false_eq_true,reduceIte];rfl,rfl⟩)
          · skip
            rcases (Bool.eq_false_or_eq_true (g_ o.bn c.bn)).symm with h6 | h6
            · skip
              have hn:dz o c=true:=by unfold dz;rw [h6];rfl
              (repeat (first | refine SW.seq ?_ | refine SW.block ?_ | (have fx:=(And.intro (k1) (And.intro (h1) (And.intro (em) (And.intro (kh) (And.intro (h2) (And.intro (h3) (And.intro (h4) (And.intro (h5) (h6)))))))));refine SW.ai [0,1,2,4,6,7,8,9,10,14,46,52,57,83] mixed ?_;(repeat (first | refine RW.ro fx (h:= ?_) | refine RW.skip (h:= ?_) | refine RW.op fx (h:= ?_) | refine RW.aF fx (h:= ?_) | refine RW.ah (h:= ?_) | (refine RW.ax (h:= ?_);(first | refine af.mk fx (hc:=hgc _) (h:= ?_) | refine af.mk fx (hc:=hfd _) (h:= ?_) | refine af.mk fx (hc:=d_ _ _ _) (h:= ?_) | refine af.mk fx (hc:=fu _ 1 hgr ⟨by omega,by omega⟩ _) (h:= ?_) | refine af.mk fx (hc:=fh _ _ ho hgr _) (h:= ?_)))));refine RW.nil ⟨by kernel_rfl,aa.mk (h:= ?_)⟩) | refine SW.skip ?_ | refine SW.exit ?_ | refine SW.ret ?_ | refine SW.au rfl ?_ | refine SW.ak rfl ?_))
              exact End.mk [] (h4:=⟨by simp only [h2,h3,show ¬ c.hold≠o.who by simpa using h4,h5,hn,Bool.not_false,Bool.not_true,Bool.true_or,Bool.false_or,Bool.or_true,Bool.or_false,if_true,if_false,Bool.false_eq_true,reduceIte];rfl,rfl⟩)
            · skip
              rcases (Bool.eq_false_or_eq_true (((o.to:Int) == 0))).symm with h7 | h7
              rotate_left
              · skip
                have hn:dz o c=true:=by unfold dz;rw [h6,h7];simp
                (repeat (first | refine SW.seq ?_ | refine SW.block ?_ | (have fx:=(And.intro (k1) (And.intro (h1) (And.intro (em) (And.intro (kh) (And.intro (h2) (And.intro (h3) (And.intro (h4) (And.intro (h5) (And.intro (h6) (h7))))))))));refine SW.ai [0,1,2,4,6,7,8,9,10,14,46,52,57,83] mixed ?_;(repeat (first | refine RW.ro fx (h:= ?_) | refine RW.skip (h:= ?_) | refine RW.op fx (h:= ?_) | refine RW.aF fx (h:= ?_) | refine RW.ah (h:= ?_) | (refine RW.ax (h:= ?_);(first | refine af.mk fx (hc:=hgc _) (h:= ?_) | refine af.mk fx (hc:=hfd _) (h:= ?_) | refine af.mk fx (hc:=d_ _ _ _) (h:= ?_) | refine af.mk fx (hc:=fu _ 1 hgr ⟨by omega,by omega⟩ _) (h:= ?_) | refine af.mk fx (hc:=fh _ _ ho hgr _) (h:= ?_)))));refine RW.nil ⟨by kernel_rfl,aa.mk (h:= ?_)⟩) | refine SW.skip ?_ | refine SW.exit ?_ | refine SW.ret ?_ | refine SW.au rfl ?_ | refine SW.ak rfl ?_))
                exact End.mk [] (h4:=⟨by simp only [h2,h3,show ¬ c.hold≠o.who by simpa using h4,h5,hn,Bool.not_false,Bool.not_true,Bool.true_or,Bool.false_or,Bool.or_true,Bool.or_false,if_true,if_false,Bool.false_eq_true,reduceIte];rfl,rfl⟩)
              · skip
                rcases (Bool.eq_false_or_eq_true (decide ((o.depth:Int)≥c.depth))).symm with h8 | h8
                rotate_left
                · skip
                  have hn:dz o c=true:=by unfold dz;rw [h6,h7,h8];simp
                  (repeat (first | refine SW.seq ?_ | refine SW.block ?_ | (have fx:=(And.intro (k1) (And.intro (h1) (And.intro (em) (And.intro (kh) (And.intro (h2) (And.intro (h3) (And.intro (h4) (And.intro (h5) (And.intro (h6) (And.intro (h7) (h8)))))))))));refine SW.ai [0,1,2,4,6,7,8,9,10,14,46,52,57,83] mixed ?_;(repeat (first | refine RW.ro fx (h:= ?_) | refine RW.skip (h:= ?_) | refine RW.op fx (h:= ?_) | refine RW.aF fx (h:= ?_) | refine RW.ah (h:= ?_) | (refine RW.ax (h:= ?_);(first | refine af.mk fx (hc:=hgc _) (h:= ?_) | refine af.mk fx (hc:=hfd _) (h:= ?_) | refine af.mk fx (hc:=d_ _ _ _) (h:= ?_) | refine af.mk fx (hc:=fu _ 1 hgr ⟨by omega,by omega⟩ _) (h:= ?_) | refine af.mk fx (hc:=fh _ _ ho hgr _) (h:= ?_)))));refine RW.nil ⟨by kernel_rfl,aa.mk (h:= ?_)⟩) | refine SW.skip ?_ | refine SW.exit ?_ | refine SW.ret ?_ | refine SW.au rfl ?_ | refine SW.ak rfl ?_))
                  exact End.mk [] (h4:=⟨by simp only [h2,h3,show ¬ c.hold≠o.who by simpa using h4,h5,hn,Bool.not_false,Bool.not_true,Bool.true_or,Bool.false_or,Bool.or_true,Bool.or_false,if_true,if_false,Bool.false_eq_true,reduceIte];rfl,rfl⟩)
                · skip
                  rcases (Bool.eq_false_or_eq_true (decide ((o.cap:Int)>c.cap))).symm with h9 | h9
                  rotate_left
                  · skip
                    have hn:dz o c=true:=by unfold dz;rw [h6,h7,h8,h9];simp
                    (repeat (first | refine SW.seq ?_ | refine SW.block ?_ | (have fx:=(And.intro (k1) (And.intro (h1) (And.intro (em) (And.intro (kh) (And.intro (h2) (And.intro (h3) (And.intro (h4) (And.intro (h5) (And.intro (h6) (And.intro (h7) (And.intro (h8) (h9))))))))))));refine SW.ai [0,1,2,4,6,7,8,9,10,14,46,52,57,83] mixed ?_;(repeat (first | refine RW.ro fx (h:= ?_) | refine RW.skip (h:= ?_) | refine RW.op fx (h:= ?_) | refine RW.aF fx (h:= ?_) | refine RW.ah (h:= ?_) | (refine RW.ax (h:= ?_);(first | refine af.mk fx (hc:=hgc _) (h:= ?_) | refine af.mk fx (hc:=hfd _) (h:= ?_) | refine af.mk fx (hc:=d_ _ _ _) (h:= ?_) | refine af.mk fx (hc:=fu _ 1 hgr ⟨by omega,by omega⟩ _) (h:= ?_) | refine af.mk fx (hc:=fh _ _ ho hgr _) (h:= ?_)))));refine RW.nil ⟨by kernel_rfl,aa.mk (h:= ?_)⟩) | refine SW.skip ?_ | refine SW.exit ?_ | refine SW.ret ?_ | refine SW.au rfl ?_ | refine SW.ak rfl ?_))
                    exact End.mk [] (h4:=⟨by simp only [h2,h3,show ¬ c.hold≠o.who by simpa using h4,h5,hn,Bool.not_false,Bool.not_true,Bool.true_or,Bool.false_or,Bool.or_true,Bool.or_false,if_true,if_false,Bool.false_eq_true,reduceIte];rfl,rfl⟩)
                  · skip
                    have hn:dz o c=false:=by unfold dz;rw [h6,h7,h8,h9];rfl
                    (repeat (first | refine SW.seq ?_ | refine SW.block ?_ | (have fx:=(And.intro (k1) (And.intro (h1) (And.intro (em) (And.intro (kh) (And.intro (h2) (And.intro (h3) (And.intro (h4) (And.intro (h5) (And.intro (h6) (And.intro (h7) (And.intro (h8) (h9))))))))))));refine SW.ai [0,1,2,4,6,7,8,9,10,14,46,52,57,83] mixed ?_;(repeat (first | refine RW.ro fx (h:= ?_) | refine RW.skip (h:= ?_) | refine RW.op fx (h:= ?_) | refine RW.aF fx (h:= ?_) | refine RW.ah (h:= ?_) | (refine RW.ax (h:= ?_);(first | refine af.mk fx (hc:=hgc _) (h:= ?_) | refine af.mk fx (hc:=hfd _) (h:= ?_) | refine af.mk fx (hc:=d_ _ _ _) (h:= ?_) | refine af.mk fx (hc:=fu _ 1 hgr ⟨by omega,by omega⟩ _) (h:= ?_) | refine af.mk fx (hc:=fh _ _ ho hgr _) (h:= ?_)))));refine RW.nil ⟨by kernel_rfl,aa.mk (h:= ?_)⟩) | refine SW.skip ?_ | refine SW.exit ?_ | refine SW.ret ?_ | refine SW.au rfl ?_ | refine SW.ak rfl ?_))
                    exact End.mk [] (h4:=⟨by simp only [h2,h3,show ¬ c.hold≠o.who by simpa using h4,h5,hn,Bool.not_false,Bool.not_true,Bool.true_or,Bool.false_or,Bool.or_true,Bool.or_false,if_true,if_false,Bool.false_eq_true,reduceIte];rfl,rfl⟩)
end
end
section
section
attribute [local irreducible] SW RW bp SC af aa dA gT
variable {l:List aq} (hlen:l.length<4611686018427387904) (hl:∀ x,x∈l→x.bn<256)
include hlen hl
set_option maxHeartbeats 4000000 in
theorem CZ (d:Dt):Go.Sl.Pure Try.prog ref16_get.f [ops l,.agg d.cells,i64 ((0:Nat):Int)] (.cg [.agg (dA l 0 d).1.cells,bl (dA l 0 d).2]):=by
 refine ref16_get.enter (by first | rfl | simp [SV.ok,SV.aI]) (by first | rfl | simp [Hp.ok,Ob.ok,SV.ok,SV.aI,aS.aj]) (by simp) ?_
 dsimp only [ref16_get.s,Co.M,Co.G,Co.J,Co.H,Co.N,Co.F,Co.C,Co.Z,Co.B,Co.b8,Co.aA,Co.bz,Co.i6,Co.z8,Co.dm]
 have e:dA l 0 d=(Cr.zero,false):=by unfold dA;rfl
 rw [e]
 rcases hh:(cZ l d).isSome with _ | _
 ·(repeat (first | refine SW.seq ?_ | refine SW.block ?_ | (refine SW.ai [0,1,2,4,6,7,8,9,10,11,23,27,45] mixed ?_;(repeat (first | refine RW.ro (hh) (h:= ?_) | refine RW.skip (h:= ?_) | refine RW.op (hh) (h:= ?_) | refine RW.aF (hh) (h:= ?_) | refine RW.ah (h:= ?_) | (refine RW.ax (h:= ?_);(first | refine af.mk (hh) (hc:=rj l hlen _ _) (h:= ?_)))));refine RW.nil ⟨by kernel_rfl,aa.mk (h:= ?_)⟩) | refine SW.skip ?_ | refine SW.exit ?_ | refine SW.ret ?_ | refine SW.au rfl ?_ | refine SW.ak rfl ?_))
  exact End.mk [] (h4:=⟨rfl,rfl⟩)
 ·(repeat (first | refine SW.seq ?_ | refine SW.block ?_ | (refine SW.ai [0,1,2,4,6,7,8,9,10,11,23,27,45] mixed ?_;(repeat (first | refine RW.ro (hh) (h:= ?_) | refine RW.skip (h:= ?_) | refine RW.op (hh) (h:= ?_) | refine RW.aF (hh) (h:= ?_) | refine RW.ah (h:= ?_) | (refine RW.ax (h:= ?_);(first | refine af.mk (hh) (hc:=rj l hlen _ _) (h:= ?_)))));refine RW.nil ⟨by kernel_rfl,aa.mk (h:= ?_)⟩) | refine SW.skip ?_ | refine SW.exit ?_ | refine SW.ret ?_ | refine SW.au rfl ?_ | refine SW.ak rfl ?_))
  exact End.mk [] (h4:=⟨rfl,rfl⟩)
set_option maxHeartbeats 4000000 in
theorem C0 (m:Nat)(hm:m<1000)(d:Dt)(hw:∀ o k,o∈l→bp Try.prog ref16_why.f [ops l,.agg o.cells,i64 ((m+1:Nat):Int)] [] k 0 (.cg [.agg (gT l (dA l m o.aQ) o).1.cells,i64 (gT l (dA l m o.aQ) o).2]) []):
  Go.Sl.Pure Try.prog ref16_get.f [ops l,.agg d.cells,i64 ((m+1:Nat):Int)] (.cg [.agg (dA l (m+1) d).1.cells,bl (dA l (m+1) d).2]):=by
 refine ref16_get.enter (by first | rfl | simp [SV.ok,SV.aI]) (by first | rfl | simp [Hp.ok,Ob.ok,SV.ok,SV.aI,aS.aj]) (by simp) ?_
 dsimp only [ref16_get.s,Co.M,Co.G,Co.J,Co.H,Co.N,Co.F,Co.C,Co.Z,Co.B,Co.b8,Co.aA,Co.bz,Co.i6,Co.z8,Co.dm]
 have k1:(((m+1:Nat):Int) == 0)=false:=by rw [Bool.eq_false_iff];intro h;have:=beq_iff_eq.mp h;omega
 have hgr:dA l (m+1) d=(match cZ l d with
  | none=>(Cr.zero,false)
  | some o=>if o.kind=0 then (⟨d,d,⟨0,0⟩,o.who,7,8,1099511627776,0⟩,decide (o.dU=d)) else
   if (gT l (dA l m o.aQ) o).2≠0 then (Cr.zero,false) else (⟨d,o.dU,o.aQ,o.to,o.bn,o.depth,o.cap,IntKind.i64.wrap ((gT l (dA l m o.aQ) o).1.level+1)⟩,true)):=by
  first | (rw [dA];done) | (rw [dA];cases cZ l d <;> rfl)
 rw [hgr]
 have hf:=rj l hlen d
 rcases hh:cZ l d with _ | o
 ·rw [hh] at hf
  simp only [Option.getD_none,Option.isSome_none] at hf
  (repeat (first | refine SW.seq ?_ | refine SW.block ?_ | refine SW.g1 [0,1,2,4,6,7,8,9,10,11,23,27,45] mixed (k1) hf ?_ | refine SW.skip ?_ | refine SW.exit ?_ | refine SW.ret ?_ | refine SW.au rfl ?_ | refine SW.ak rfl ?_))
  exact End.mk [] (h4:=⟨rfl,rfl⟩)
 ·rw [hh] at hf
  simp only [Option.getD_some,Option.isSome_some] at hf
  have ho:o∈l:=List.mem_of_find?_eq_some hh
  have hw':=fun k=>hw o k ho
  dsimp only
  have k0:(((o.kind:Nat):Int) == 0)=decide (o.kind=0):=by rw [Bool.eq_iff_iff];simp only [beq_iff_eq,decide_eq_true_eq];omega
  rcases (Bool.eq_false_or_eq_true (decide (o.kind=0))).symm with h1 | h1
  rotate_left
  ·rw [if_pos (by simpa using h1)]
   (repeat (first | refine SW.seq ?_ | refine SW.block ?_ | refine SW.g2 [0,1,2,4,6,7,8,9,10,11,23,27,45] mixed (And.intro (k1) (And.intro (k0) (And.intro (h1) (kD)))) hf hw' ?_ | refine SW.skip ?_ | refine SW.exit ?_ | refine SW.ret ?_ | refine SW.au rfl ?_ | refine SW.ak rfl ?_))
   exact End.mk [] (h4:=⟨rfl,rfl⟩)
  ·rw [if_neg (by simpa using h1)]
   obtain ⟨r,hr⟩:∃ r,gT l (dA l m o.aQ) o=r:=⟨_,rfl⟩
   rw [hr] at hw' ⊢
   have k2:(((r.2:Nat):Int) != 0)=decide (r.2≠0):=by rw [Bool.eq_iff_iff];simp only [bne_iff_ne,decide_eq_true_eq];omega
   rcases (Bool.eq_false_or_eq_true (decide (r.2≠0))).symm with h2 | h2
   rotate_left
   ·rw [if_pos (by simpa using h2)]
    (repeat (first | refine SW.seq ?_ | refine SW.block ?_ | refine SW.g2 [0,1,2,4,6,7,8,9,10,11,23,27,45] mixed (And.intro (k1) (And.intro (k0) (And.intro (h1) (And.intro (k2) (And.intro (h2) (oe)))))) hf hw' ?_ | refine SW.skip ?_ | refine SW.exit ?_ | refine SW.ret ?_ | refine SW.au rfl ?_ | refine SW.ak rfl ?_))
    exact End.mk [] (h4:=⟨rfl,rfl⟩)
   ·rw [if_neg (by simpa using h2)]
    (repeat (first | refine SW.seq ?_ | refine SW.block ?_ | refine SW.g2 [0,1,2,4,6,7,8,9,10,11,23,27,45] mixed (And.intro (k1) (And.intro (k0) (And.intro (h1) (And.intro (k2) (And.intro (h2) (oe)))))) hf hw' ?_ | refine SW.skip ?_ | refine SW.exit ?_ | refine SW.ret ?_ | refine SW.au rfl ?_ | refine SW.ak rfl ?_))
    exact End.mk [] (h4:=⟨rfl,rfl⟩)
theorem EU (m:Nat)(hm:m<1000):∀ d,Go.Sl.Pure Try.prog ref16_get.f [ops l,.agg d.cells,i64 (m:Int)] (.cg [.agg (dA l m d).1.cells,bl (dA l m d).2]):=by
 induction m with
 | zero=>intro d;exact CZ hlen hl d
 | succ m ih=>
  intro d
  exact C0 hlen hl m (by omega) d fun o k ho=>(ET hlen hl m (by omega) o (hl o ho) fun d k=>(ih (by omega) d).sc rfl k).sc rfl k
theorem EV (m:Nat)(hm:m<1000)(d:Dt)(k:Nat):bp Try.prog ref16_get.f [ops l,.agg d.cells,i64 (m:Int)] [] k 0 (.cg [.agg (dA l m d).1.cells,bl (dA l m d).2]) []:=(EU hlen hl m hm d).sc rfl k
theorem EW (d:Dt):Go.Sl.Pure Try.prog ref16_Get.f [ops l,.agg d.cells] (.cg [.agg (dA l 10 d).1.cells,bl (dA l 10 d).2]):=by
 have hg:=fun k=>EV hlen hl 10 (by omega) d k
 refine ref16_Get.enter (by first | rfl | simp [SV.ok,SV.aI]) (by first | rfl | simp [Hp.ok,Ob.ok,SV.ok,SV.aI,aS.aj]) (by simp) ?_
 dsimp only [ref16_Get.s,Co.M,Co.G,Co.J,Co.H,Co.N,Co.F,Co.C,Co.Z,Co.B,Co.b8,Co.aA,Co.bz,Co.i6,Co.z8,Co.dm]
 (repeat (first | refine SW.seq ?_ | refine SW.block ?_ | refine SW.g1 [0,1,3,4,5] mixed U hg ?_ | refine SW.skip ?_ | refine SW.exit ?_ | refine SW.ret ?_ | refine SW.au rfl ?_ | refine SW.ak rfl ?_))
 exact End.mk [] (h4:=⟨rfl,rfl⟩)
end
section
variable {l:List aq} (hlen:l.length<4611686018427387904) (hl:∀ x,x∈l→x.bn<256)
include hlen hl
theorem zX (d:Dt)(k:Nat):bp Try.prog ref16_Get.f [ops l,.agg d.cells] [] k 0 (.cg [.agg (dA l 10 d).1.cells,bl (dA l 10 d).2]) []:=(EW hlen hl d).sc rfl k
end
end
section
attribute [local irreducible] SW RW bp SC af aa
inductive lZ (a:MM Dt Cr):Option Cr→List Cr→Prop where
 | none:lZ a none []
 | root (c:Cr): ¬ 0<c.level→lZ a (some c) [c]
 | more (c:Cr) (L:List Cr):0<c.level→lZ a (MM.get a c.par) L→lZ a (some c) (c::L)
def TF (T:Tr)(F:Hp):Hp:=T.hp++F
structure FK (T:Tr)(b q:Nat)(F:Hp):Prop where
 b:lk F b=none
 q:lk F q=none
 x:lk F T.bx=none
 a:lk F T.ma=none
 m:lk F T.mm=none
theorem TF.I7 {T:Tr}{F:Hp}{n:Nat}{ob:Ob}(h:lk T.hp n=some ob):lk (TF T F) n=some ob:=by
 show List.lookup n (T.hp++F)=some ob
 rw [List.lookup_append,show List.lookup n T.hp=some ob from h];rfl
theorem TF.I8 {T:Tr}{F:Hp}{n:Nat}(h:lk T.hp n=none):lk (TF T F) n=lk F n:=by
 show List.lookup n (T.hp++F)=_
 rw [List.lookup_append,show List.lookup n T.hp=none from h];rfl
theorem TF.ok {T:Tr}{F:Hp}{k:Nat}(h1:T.lt k)(h2:F.ok (fun n=>decide (n<k))=true):(TF T F).ok (fun n=>decide (n<k))=true:=by
 have h1:=Tr.CL h1
 unfold Hp.ok at*
 rw [TF,List.all_append,h1,h2];rfl
structure Ig {σ:Type}(Fh:σ→Hp)(Step:σ→Cr→σ→Prop)(go:σ→Bool)(T:Tr)(bV b q k:Nat)(L:List Cr)(s0 s:σ)(xs:List Cr)(oc:Option Cr)(rest:List Cr)(cn kk:Nat):Prop where
 p1:mw Step s0 xs s
 p2:go s=true
 p3:xs++rest=L
 p4:lZ T.at_ oc rest
 p5:k≤cn∧cn<kk
 p6:kk≤k+1+xs.length*(1+bV)
 p7:(Fh s).ok (fun n=>decide (n<kk))=true
 p8:FK T b q (Fh s)
 p9:lk (Fh s) cn=none
set_option maxHeartbeats 2000000 in
theorem GX {σ :Type}{Fh:σ→Hp}{Step:σ→Cr→σ→Prop}{go:σ→Bool}{bV y b q k:Nat}{T:Tr}{L:List Cr}{d:Dt}(hT:T.sep)(hL:lZ T.at_ (MM.get T.at_ d) L)(s0:σ)(hy:zL Try.prog y (fun x:Cr=> .agg x.cells) bV Fh Step go s0 L.length)(h0:(Fh s0).ok (fun n=>decide (n<k))=true)
  (hb:b<k) (hq:q<k) (Jj:b≠q) (Bv:T.lt k) (Ih:lk T.hp b=none) (Ii:lk T.hp q=none) (hoff:FK T b q (Fh s0)) (D5:go s0=true):
  SB Try.prog tree_Tree_up_1.f [.yl y,.ptr b 0,.ptr q 0] ((b,.box 41 [.ptr T.bx 0])::(q,.box 29 d.cells)::TF T (Fh s0)) k (1+L.length*(1+bV))
   fun r F=>r= .cg []∧∃ (xs:List Cr) (s':σ),mw Step s0 xs s'∧xs <+: L∧(go s'=true→xs=L)∧FK T b q (Fh s')∧F=(b,.box 41 [.ptr T.bx 0])::(q,.box 29 d.cells)::TF T (Fh s'):=by
 have hyk:y<k:=by
  obtain ⟨ob,ho⟩:=Option.ne_none_iff_exists'.1 (hy.Cd s0)
  simpa using (Hp.fJ h0 ho).1
 have hokT:∀ (s:σ) (kx:Nat),k≤kx→(Fh s).ok (fun n=>decide (n<kx))=true→Hp.ok (fun n=>decide (n<kx)) ((b,.box 41 [.ptr T.bx 0])::(q,.box 29 d.cells)::TF T (Fh s))=true:=fun s kx hkx h=>by
  have h1:=TF.ok (T:=T) ⟨Nat.lt_of_lt_of_le Bv.b hkx,Nat.lt_of_lt_of_le Bv.a hkx,Nat.lt_of_lt_of_le Bv.m hkx⟩ h
  have:=Bv.b
  unfold Hp.ok at*
  simp only [List.all_cons,Ob.ok,SV.aI,SV.ok,Dt.aj,Bool.and_true,Bool.and_eq_true,decide_eq_true_eq]
  exact ⟨⟨by omega,by omega⟩,by omega,h1⟩
 refine tree_Tree_up_1.enter (by simp [SV.ok,SV.aI];omega) (hokT s0 k (Nat.le_refl _) h0) (by simp) ?_
 dsimp only [tree_Tree_up_1.s,Co.M,Co.G,Co.J,Co.H,Co.N,Co.F,Co.C,Co.Z,Co.B,Co.b8,Co.aA,Co.bz,Co.i6,Co.z8,Co.dm]
 have f1:=bX Jj
 have tb:T.bx≠b:=fun e=>by rw [← e,Tr.FI] at Ih;cases Ih
 have tq:T.bx≠q:=fun e=>by rw [← e,Tr.FI] at Ii;cases Ii
 have ta:T.ma≠b:=fun e=>by rw [← e,Tr.Ho hT] at Ih;cases Ih
 have taq:T.ma≠q:=fun e=>by rw [← e,Tr.Ho hT] at Ii;cases Ii
 have f2:=bX tb
 have f3:=bX tq
 have f4:=bX ta
 have f5:=bX taq
 have u1:∀ F,List.lookup T.bx (TF T F)=some (.box 71 [.mp T.ma,.mp T.mm]):=fun F=>TF.I7 T.FI
 have u2:∀ F,List.lookup T.ma (TF T F)=some T.oa:=fun F=>TF.I7 (Tr.Ho hT)
 have g0:List.lookup k (TF T (Fh s0))=none:=Hp.out (TF.ok Bv h0) (Nat.le_refl _)
 have g1:=bX (show k≠b by omega)
 have g2:=bX (show k≠q by omega)
 have:=Bv.b;have:=Bv.a;have:=Bv.m
 have g3:=bX (show k≠T.bx by omega)
 have g4:=bX (show k≠T.ma by omega)
 refine SW.seq ?_
 refine SW.gK [0,1,2,4,5,25,36] mixed (And.intro (f1) (And.intro (f2) (And.intro (f3) (And.intro (f4) (And.intro (f5) (And.intro (u1) (And.intro (u2) (And.intro (g0) (And.intro (g1) (g2)))))))))) (And.intro f1 (And.intro f2 (And.intro f3 (And.intro f4 (And.intro f5 (And.intro g1 (And.intro g2 (And.intro g3 g4)))))))) True.intro ?_
 refine SW.block ?_
 have hnd:∀ (s:σ) (xs:List Cr) (cn kk:Nat) (cs:List SV),k≤cn→cn<kk→(Fh s).ok (fun n=>decide (n<kk))=true→lk (Fh s) cn=none→FK T b q (Fh s)→∀ x,x∈((cn,Ob.box 78 cs)::(b,.box 41 [.ptr T.bx 0])::(q,.box 29 d.cells)::TF T (Fh s))→lk ((cn,Ob.box 78 cs)::(b,.box 41 [.ptr T.bx 0])::(q,.box 29 d.cells)::TF T (Fh s)) x.1=some x.2:=by
  intro s xs cn kk cs h1 h2 h3 h4 h5 x hx
  have:=Bv.b;have:=Bv.a;have:=Bv.m
  have c1:=bX (show cn≠b by omega)
  have c2:=bX (show cn≠q by omega)
  have c3:=bX (show b≠q from Jj)
  simp only [List.mem_cons] at hx
  rcases hx with rfl | rfl | rfl | hx
  ·simp [ag]
  ·simp [ag,c1]
  ·simp [ag,c2,c3]
  ·rcases List.mem_append.1 hx with hx | hx
   ·have hl:=bK (Tr.nd hT) x hx
    have c4:x.1≠b:=fun e=>by rw [e,Ih] at hl;cases hl
    have c5:x.1≠q:=fun e=>by rw [e,Ii] at hl;cases hl
    have c6:x.1≠cn:=fun e=>by
     have:=(Hp.fJ (Tr.CL Bv) hl).1
     simp at this;omega
    rw [ag,if_neg c6,ag,if_neg c4,ag,if_neg c5]
    exact TF.I7 hl
   ·have hl:=hy.nd s x hx
    have c4:x.1≠b:=fun e=>by rw [e,h5.b] at hl;cases hl
    have c5:x.1≠q:=fun e=>by rw [e,h5.q] at hl;cases hl
    have c6:x.1≠cn:=fun e=>by rw [e,h4] at hl;cases hl
    have c7:lk T.hp x.1=none:=by
     have e1:x.1≠T.bx:=fun e=>by rw [e,h5.x] at hl;cases hl
     have e2:x.1≠T.ma:=fun e=>by rw [e,h5.a] at hl;cases hl
     have e3:x.1≠T.mm:=fun e=>by rw [e,h5.m] at hl;cases hl
     rw [Tr.hp,ag,if_neg e1,ag,if_neg e2,ag,if_neg e3];rfl
    rw [ag,if_neg c6,ag,if_neg c4,ag,if_neg c5,TF.I8 c7]
    exact hl
 have g5:lk (Fh s0) k=none:=Hp.out h0 (Nat.le_refl _)
 have hokC:∀ (s:σ) (cn kk:Nat) (c:Cr),k≤cn→cn<kk→(Fh s).ok (fun n=>decide (n<kk))=true→Hp.ok (fun n=>decide (n<kk)) ((cn,Ob.box 78 c.cells)::(b,.box 41 [.ptr T.bx 0])::(q,.box 29 d.cells)::TF T (Fh s))=true:=fun s cn kk c h1 h2 h3=>by
  have h4:=hokT s kk (by omega) h3
  unfold Hp.ok at*
  rw [List.all_cons,h4]
  simp only [Ob.ok,Cr.aj,Bool.and_true,decide_eq_true_eq]
  exact h2
 refine SW.loop (α:={i:σ×List Cr×Option Cr×List Cr×Nat×Nat // Ig Fh Step go T bV b q k L s0 i.1 i.2.1 i.2.2.1 i.2.2.2.1 i.2.2.2.2.1 i.2.2.2.2.2})
  (fun i=>⟨[(5,bl i.1.2.2.1.isSome),(4,.ptr i.1.2.2.2.2.1 0),(0,.yl y),(1,.ptr b 0),(2,.ptr q 0)],(i.1.2.2.2.2.1,.box 78 (i.1.2.2.1.getD Cr.zero).cells)::(b,.box 41 [.ptr T.bx 0])::(q,.box 29 d.cells)::TF T (Fh i.1.1),i.1.2.2.2.2.2⟩)
  (fun i=>i.1.2.2.2.1.length) ⟨(s0,[],MM.get T.at_ d,L,k,k+1),⟨.nil,D5,rfl,hL,⟨Nat.le_refl _,Nat.lt_succ_self _⟩,by simp,Hp.dK (by simp) h0,hoff,?_⟩⟩ id ?_ ?_
 ·exact g5
 ·refine bg.same (by simp) (by simp [dL,jX,List.lookup,SV.aV,SV.ok,MM.has];omega) ?_ (hnd s0 [] k (k+1) _ (Nat.le_refl _) (Nat.lt_succ_self _) (Hp.dK (by simp) h0) g5 hoff)
  exact hokC s0 k (k+1) _ (Nat.le_refl _) (Nat.lt_succ_self _) (Hp.dK (by simp) h0)
 ·rintro ⟨⟨s,xs,oc,rest,cn,kk⟩,hi⟩
  have hi:Ig Fh Step go T bV b q k L s0 s xs oc rest cn kk:=hi
  obtain ⟨p1,p2,p3,p4,p5,p6,p7,p8,p9⟩:=hi
  dsimp only at*
  have hlen:xs.length+rest.length=L.length:=by rw [← p3,List.length_append]
  have hpos:∀ n:Nat,n≤L.length→n*(1+bV)≤L.length*(1+bV):=fun n h=>Nat.mul_le_mul_right _ h
  have c1:=bX (show cn≠b by omega)
  have c2:=bX (show cn≠q by omega)
  have c3:=bX (show cn≠T.bx by omega)
  have c4:=bX (show cn≠T.ma by omega)
  have hout:=hnd s xs cn kk
  have w1:=hpos xs.length (by omega)
  have hcn:lk ((b,Ob.box 41 [.ptr T.bx 0])::(q,.box 29 d.cells)::TF T (Fh s)) cn=none:=by
   rw [ag,if_neg (by omega),ag,if_neg (by omega),TF.I8 (by
    rw [Tr.hp,ag,if_neg (by omega),ag,if_neg (by omega),ag,if_neg (by omega)];rfl)]
   exact p9
  have hend:∀ (s':σ) (xs':List Cr) (env:List (Nat×SV)) (Fi Hr:Nat) (cs:List SV) (Q:Exit→St→Prop),k≤Hr→Hr<Fi→Fi≤k+(1+L.length*(1+bV))→(Fh s').ok (fun n=>decide (n<Fi))=true→lk (Fh s') Hr=none→FK T b q (Fh s')→
    (Q (.exit 0) ⟨[],(b,Ob.box 41 [.ptr T.bx 0])::(q,.box 29 d.cells)::TF T (Fh s'),k+(1+L.length*(1+bV))⟩)→Go.Sl.SW Try.prog 37 k (.exit 0) ⟨env,(Hr,Ob.box 78 cs)::(b,.box 41 [.ptr T.bx 0])::(q,.box 29 d.cells)::TF T (Fh s'),Fi⟩ Q:=by
   intro s' xs' env Fi Hr cs Q h1 h2 h3 h4 h5 h6 h7
   refine SW.weak id (st1:=⟨[],(b,Ob.box 41 [.ptr T.bx 0])::(q,.box 29 d.cells)::TF T (Fh s'),k+(1+L.length*(1+bV))⟩) (bg.same (Nat.le_add_right _ _) trivial (hokT s' _ (Nat.le_add_right _ _) (Hp.dK h3 h4)) fun x hx=> ?_) (SW.exit h7)
   exact hnd s' [] Hr Fi cs h1 h2 h4 h5 h6 x (List.mem_cons_of_mem _ hx)
  have hfin:∀ (s':σ) (xs':List Cr),mw Step s0 xs' s'→xs' <+: L→(go s'=true→xs'=L)→FK T b q (Fh s')→(Fh s').ok (fun n=>decide (n<k+(1+L.length*(1+bV))))=true→
    Go.Sl.Fin k (1+L.length*(1+bV)) [] (fun r F=>r= .cg []∧∃ (xs:List Cr) (s':σ),mw Step s0 xs s'∧xs <+: L∧(go s'=true→xs=L)∧FK T b q (Fh s')∧F=(b,.box 41 [.ptr T.bx 0])::(q,.box 29 d.cells)::TF T (Fh s')) ⟨[],(b,Ob.box 41 [.ptr T.bx 0])::(q,.box 29 d.cells)::TF T (Fh s'),k+(1+L.length*(1+bV))⟩:=by
   intro s' xs' h1 h2 h3 h4 h5
   exact End.mk ((b,Ob.box 41 [.ptr T.bx 0])::(q,.box 29 d.cells)::TF T (Fh s')) (h3:=fun _ _ h=>h) (h4:=⟨rfl,xs',s',h1,h2,h3,h4,rfl⟩) (h6:=hokT s' _ (Nat.le_add_right _ _) h5) (h7:=Nat.le_refl _)
  have hc:(oc=none∧rest=[])∨∃ c R,oc=some c∧rest=c::R∧(0<c.level→lZ T.at_ (MM.get T.at_ c.par) R)∧(¬ 0<c.level→R=[]):=by
   cases p4 with
   | none=>exact .inl ⟨rfl,rfl⟩
   | root c hc=>exact .inr ⟨c,[],rfl,rfl,fun h=>absurd h hc,fun _=>rfl⟩
   | more c R hc hR=>exact .inr ⟨c,R,rfl,rfl,fun _=>hR,fun h=>absurd hc h⟩
  rcases hc with ⟨rfl,rfl⟩ | ⟨c,R,rfl,rfl,hm,hr⟩
  ·refine SW.seq (SW.seq ?_)
   refine SW.gK [0,1,2,4,5,25,36] mixed U (And.intro f1 (And.intro f2 (And.intro f3 (And.intro f4 (And.intro f5 (And.intro g1 (And.intro g2 (And.intro g3 g4)))))))) True.intro ?_
   refine SW.ak rfl (hend s xs _ kk cn _ _ p5.1 p5.2 (by omega) p7 p9 p8 ?_)
   dsimp only
   rw [if_pos rfl]
   exact hfin s xs p1 (by rw [← p3,List.append_nil];exact List.prefix_rfl) (fun _=>by rw [← p3,List.append_nil]) p8 (Hp.dK (by omega) p7)
  ·simp only [List.length_cons] at hlen
   have w2:=hpos (xs.length+1) (by omega)
   rw [Nat.add_mul,Nat.one_mul] at w2
   refine SW.seq (SW.seq (SW.IC ?_))
   (repeat (first | refine dX.op U (h:= ?_) | refine dX.aF U (h:= ?_) | refine dX.skip (h:= ?_)))
   have hsub:HSub (Fh s) ((cn,Ob.box 78 c.cells)::(b,.box 41 [.ptr T.bx 0])::(q,.box 29 d.cells)::TF T (Fh s)):=fun n ob hn=>by
    have h1:n≠cn:=fun e=>by rw [e,p9] at hn;cases hn
    have h2:n≠b:=fun e=>by rw [e,p8.b] at hn;cases hn
    have h3:n≠q:=fun e=>by rw [e,p8.q] at hn;cases hn
    have h4:n≠T.bx:=fun e=>by rw [e,p8.x] at hn;cases hn
    have h5:n≠T.ma:=fun e=>by rw [e,p8.a] at hn;cases hn
    have h6:n≠T.mm:=fun e=>by rw [e,p8.m] at hn;cases hn
    rw [ag,if_neg h1,ag,if_neg h2,ag,if_neg h3,TF.I8 (by rw [Tr.hp,ag,if_neg h4,ag,if_neg h5,ag,if_neg h6];rfl)]
    exact hn
   refine dX.yH (by simp only [List.lookup,Nat.reduceBEq] <;> rfl) (by simp only [ev,List.lookup,Nat.reduceBEq] <;> rfl) (by simp only [ev,qu,List.lookup,Nat.reduceBEq] <;> rfl) (hy.Cd s) (hy.call s xs c kk p1 (by omega) p7 p2) hsub ?_
   rintro v F' ⟨s',hstep,rfl,rfl,hok',hnm⟩
   rw [iV]
   have hno:∀ n,n<kk→lk (Fh s) n=none→lk (Fh s') n=none:=fun n h1 h2=>Classical.byContradiction fun hn=>(hnm n hn).elim (fun h=>h h2) (fun h=>by omega)
   have q8:FK T b q (Fh s'):=⟨hno _ (by omega) p8.b,hno _ (by omega) p8.q,hno _ (by omega) p8.x,hno _ (by omega) p8.a,hno _ (by omega) p8.m⟩
   have q9:=hno cn (by omega) p9
   have q1:=mw.snoc p1 hstep
   have hlk:=jc (ro:=false) hsub (F':=Fh s') (fun h=>by cases h)
   have hin:∀ z,z∈((cn,Ob.box 78 c.cells)::(b,.box 41 [.ptr T.bx 0])::(q,.box 29 d.cells)::TF T (Fh s'))→lk (cH false ((cn,Ob.box 78 c.cells)::(b,.box 41 [.ptr T.bx 0])::(q,.box 29 d.cells)::TF T (Fh s)) (Fh s) (Fh s')) z.1=some z.2:=by
    intro z hz
    rw [hlk]
    simp only [List.mem_cons] at hz
    rcases hz with rfl | rfl | rfl | hz
    ·rw [c9 p9 q9];simp [ag]
    ·rw [c9 p8.b q8.b];exact hnd s xs cn kk c.cells p5.1 p5.2 p7 p9 p8 (b,Ob.box 41 [.ptr T.bx 0]) (by simp)
    ·rw [c9 p8.q q8.q];exact hnd s xs cn kk c.cells p5.1 p5.2 p7 p9 p8 (q,Ob.box 29 d.cells) (by simp)
    ·rcases List.mem_append.1 hz with hz | hz
     ·have hx:z.1=T.bx∨z.1=T.ma∨z.1=T.mm:=by
       simp only [Tr.hp,List.mem_cons,List.not_mem_nil,or_false] at hz
       rcases hz with rfl | rfl | rfl <;> simp
      have e1:lk (Fh s) z.1=none:=by rcases hx with e | e | e <;> rw [e] <;> first | exact p8.x | exact p8.a | exact p8.m
      have e2:lk (Fh s') z.1=none:=by rcases hx with e | e | e <;> rw [e] <;> first | exact q8.x | exact q8.a | exact q8.m
      rw [c9 e1 e2]
      exact hnd s xs cn kk c.cells p5.1 p5.2 p7 p9 p8 _ (by simp only [List.mem_cons];exact .inr (.inr (.inr (List.mem_append_left _ hz))))
     ·have:=hy.nd s' z hz
      rw [fk (.inr (by rw [this];simp)),this]
   refine SW.Js (st1:=⟨[(19,bl (go s')),(16,bl true),(5,bl true),(4,.ptr cn 0),(0,.yl y),(1,.ptr b 0),(2,.ptr q 0)],(cn,Ob.box 78 c.cells)::(b,.box 41 [.ptr T.bx 0])::(q,.box 29 d.cells)::TF T (Fh s'),kk+bV⟩) (bg.same (by show k≤kk+bV;omega) (by simp [dL,jX,oU,List.lookup,SV.aV,SV.ok];omega) (hokC s' cn (kk+bV) c p5.1 (by omega) hok') hin) ?_
   rcases hg:go s' with _ | _
   ·(repeat (first | refine dX.op U (h:= ?_) | refine dX.aF U (h:= ?_) | refine dX.skip (h:= ?_)))
    refine dX.nil ?_
    refine SW.ak rfl (hend s' (xs++[c]) _ (kk+bV) cn _ _ p5.1 (by omega) (by omega) hok' q9 q8 ?_)
    dsimp only
    rw [if_pos rfl]
    exact hfin s' (xs++[c]) q1 (by rw [← p3];exact ⟨R,by simp⟩) (fun h=>by rw [hg] at h;cases h) q8 (Hp.dK (by omega) hok')
   ·rcases hlv:decide (c.level>0) with _ | _
    ·(repeat (first | refine dX.op (hlv) (h:= ?_) | refine dX.aF (hlv) (h:= ?_) | refine dX.skip (h:= ?_)))
     refine dX.nil ?_
     refine SW.ak rfl (hend s' (xs++[c]) _ (kk+bV) cn _ _ p5.1 (by omega) (by omega) hok' q9 q8 ?_)
     dsimp only
     rw [if_pos rfl]
     have hR:=hr (by simpa using hlv)
     exact hfin s' (xs++[c]) q1 (by rw [← p3,hR];exact List.prefix_rfl) (fun _=>by rw [← p3,hR]) q8 (Hp.dK (by omega) hok')
    ·(repeat (first | refine dX.op (hlv) (h:= ?_) | refine dX.aF (hlv) (h:= ?_) | refine dX.skip (h:= ?_)))
     refine dX.nil ?_
     refine SW.au rfl (SW.skip ?_)
     have z1:=bX (show kk+bV≠cn by omega)
     have z2:=bX (show kk+bV≠b by omega)
     have z3:=bX (show kk+bV≠q by omega)
     have z4:List.lookup (kk+bV) (TF T (Fh s'))=none:=Hp.out (TF.ok (T:=T) ⟨by omega,by omega,by omega⟩ hok') (Nat.le_refl _)
     refine SW.seq (SW.block ?_)
     refine SW.gK [0,1,2,4,5,25,36] mixed (And.intro (c1) (And.intro (c2) (And.intro (c3) (And.intro (c4) (And.intro (f1) (And.intro (f2) (And.intro (f3) (And.intro (f4) (And.intro (f5) (And.intro (u1) (u2))))))))))) (And.intro c1 (And.intro c2 (And.intro c3 (And.intro c4 (And.intro f1 (And.intro f2 (And.intro f3 (And.intro f4 f5)))))))) True.intro ?_
     refine SW.seq ?_
     refine SW.gK [0,1,2,4,5,25,36] mixed U (And.intro c1 (And.intro c2 (And.intro c3 (And.intro c4 (And.intro f1 (And.intro f2 (And.intro f3 (And.intro f4 f5)))))))) True.intro ?_
     refine SW.gK [0,1,2,4,5,25,36] mixed (And.intro (z1) (And.intro (z2) (And.intro (z3) (And.intro (z4) (f1))))) (And.intro c1 (And.intro c2 (And.intro c3 (And.intro c4 (And.intro f1 (And.intro f2 (And.intro f3 (And.intro f4 f5)))))))) True.intro ?_
     refine ⟨⟨(s',xs++[c],MM.get T.at_ c.par,R,kk+bV,kk+bV+1),q1,hg,by rw [← p3];simp,hm (by simpa using hlv),⟨by show k≤kk+bV;omega,Nat.lt_succ_self _⟩,by
      show kk+bV+1≤k+1+(xs++[c]).length*(1+bV)
      rw [List.length_append,List.length_singleton,Nat.add_mul,Nat.one_mul];omega,Hp.dK (by simp) hok',q8,Hp.out hok' (Nat.le_refl _)⟩,id,Nat.lt_succ_self _,bg.same (by show k≤kk+bV+1;omega) (by simp [dL,List.lookup,SV.aV,SV.ok,MM.has];omega) (hokC s' (kk+bV) (kk+bV+1) _ (by omega) (Nat.lt_succ_self _) (Hp.dK (by simp) hok')) (fun x hx=> ?_)⟩
     have hx:x∈((kk+bV,Ob.box 78 ((MM.get T.at_ c.par).getD Cr.zero).cells)::(b,.box 41 [.ptr T.bx 0])::(q,.box 29 d.cells)::TF T (Fh s')):=hx
     rcases List.mem_cons.1 hx with rfl | hx
     ·exact dy
     ·have h1:=hnd s' [] cn (kk+bV) ((MM.get T.at_ c.par).getD Cr.zero).cells p5.1 (by omega) hok' q9 q8 x (List.mem_cons_of_mem _ hx)
      have h2:=(Hp.fJ (hokC s' cn (kk+bV) ((MM.get T.at_ c.par).getD Cr.zero) p5.1 (by omega) hok') h1).1
      rw [ag,if_neg (by simp at h2;omega)]
      exact h1
end
section
attribute [local irreducible] SW RW bp SC af aa
structure C5 (y bx:Nat) where
 l:List Dt
 rn:Nat
 h1:rn≠y
 h2:rn≠bx
def gH (y bx N:Nat)(ts ps:List Nat)(ca cb:Code)(s:C5 y bx):Hp:=
 [(y,.ox N ts [.ptr bx 0] ps ca cb .ready none),(bx,.box 49 [.gs s.rn s.l.length]),(s.rn,.arr 29 2 s.l.length ((s.l.flatMap Dt.ds).map .d))]
set_option maxHeartbeats 1000000 in
theorem AZ {y bx B:Nat}(FH:y≠bx)(s0:C5 y bx)(hB:s0.l.length+B<4611686018427){ca cb:Code}
    (hca:cK Try.prog 29 ca=some (.eN [⟨some 9,.alloc 78 [.d (.int .u8 0),.d (.int .u32 0),.d (.int .u8 0),.d (.int .u32 0),.d (.int .u8 0),.d (.int .u32 0),.d (.int .u32 0),.d (.int .u8 0),.d (.int .u8 0),.d (.int .u64 0),.d (.int .i64 0)],none⟩,⟨none,.store 11 (.t 9) (.t 22),none⟩] (lR 2) false))
    (hcb:cK Try.prog 29 cb=some (.block 1 (.eN [⟨some 23,.load none (.t 8),none⟩,⟨some 24,.aK 0 (.t 9),none⟩,⟨some 25,.load (some 2) (.t 24),none⟩,⟨some 26,.jL 29 2 1 [.d (.int .u8 0),.d (.int .u32 0)] [(0,2,.t 25)],none⟩,⟨some 27,.app 29 2 8 (.t 23) (.t 26),none⟩,⟨none,.store 1 (.t 8) (.t 27),none⟩] (lR 6) false))):
    zL Try.prog y (fun x:Cr=> .agg x.cells) 2 (gH y bx 29 [8] [22] ca cb) (fun s x s'=>s'.l=s.l++[x.dot]) (fun _=>true) s0 B:=by
  refine ⟨fun s=>by simp [gH,ag],fun s x hx=> ?_,fun s xs x k hon hlt hok _=> ?_⟩
  · have f1:=bX FH
    have f2:=bX s.h1
    have f3:=bX s.h2
    simp only [gH,List.mem_cons,List.not_mem_nil,or_false] at hx
    rcases hx with rfl | rfl | rfl <;> simp [gH,ag,f1,f2,f3]
  · have hlen:s.l.length=s0.l.length+xs.length:=by
      clear hlt hok
      induction hon with
      | nil=>rfl
      | snoc _ h ih=>rw [h];simp [ih];omega
    obtain ⟨l,rn,h1,h2⟩:=s
    simp only at hlen
    simp only [gH,Hp.ok,List.all_cons,List.all_nil,Ob.ok,SV.aI,SV.ok,SV.bt,Bool.and_true,Bool.and_eq_true,decide_eq_true_eq] at hok
    obtain ⟨⟨k1,_⟩,⟨k2,_⟩,k3⟩:=hok
    have f1:=bX FH
    have f2:=bX h1
    have f3:=bX h2
    have g1:=bX (show k≠y by omega)
    have g2:=bX (show k≠bx by omega)
    have g3:=bX (show k≠rn by omega)
    have g4:=bX (show k+1≠k by omega)
    have g5:=bX (show k+1≠y by omega)
    have g6:=bX (show k+1≠bx by omega)
    have g7:=bX (show k+1≠rn by omega)
    refine DN.here (fun n=>n == y || n == bx || n == rn) (DN.vq (cs:=[.ptr bx 0]) (H:=[(bx,.box 49 [.gs rn l.length]),(rn,.arr 29 2 l.length ((l.flatMap Dt.ds).map .d))]) hca hcb rfl rfl rfl (by simp) k1 (by simp [ag,bA,f1,f2]) (by simp [SV.aI,SV.ok]) (by simp [Hp.ok,Ob.ok,SV.aI,SV.ok,SV.bt];omega) (by simp [SV.aI,SV.ok];omega) ?_) ?_ (by simp [SV.aI,SV.ok]) (by simp [gH,Hp.ok,Ob.ok,SV.aI,SV.ok,SV.bt]) ?_
    · skip
      show Go.Sl.SW _ _ _ _ ⟨[(22,.agg x.cells),(8,.ptr bx 0)],_,_⟩ _
      refine SW.g0 [8,9,22] mixed (And.intro (f1) (And.intro (f2) (And.intro (f3) (And.intro (g1) (And.intro (g2) (g3)))))) ?_
      refine ⟨rfl,SW.block ?_⟩
      refine SW.g0 [8,9,22] mixed (And.intro (f1) (And.intro (f2) (And.intro (f3) (And.intro (g1) (And.intro (g2) (And.intro (g3) (And.intro (g4) (And.intro (g5) (And.intro (g6) (g7)))))))))) ?_
      have e2:((l++[x.dot]).flatMap Dt.ds).map SV.d=(List.flatMap Dt.ds l).map SV.d++x.dot.ds.map SV.d:=by simp
      refine ⟨none,true,[(bx,.box 49 [.gs (k+1) (l++[x.dot]).length]),(k+1,.arr 29 2 (l++[x.dot]).length (((l++[x.dot]).flatMap Dt.ds).map .d))],⟨rfl,rfl⟩,?_,?_,by simp,⟨⟨l++[x.dot],k+1,by omega,by omega⟩,rfl,rfl,rfl,?_,?_⟩⟩
      · refine HSub.cons ?_ (HSub.cons ?_ (HSub.nil _))
        · simp [ag,f1,f2,f3,g1,g2,g3,g4,g5,g6,g7,bE]
        · rw [e2];simp [ag]
      · simp [Hp.ok,Ob.ok,SV.aI,SV.ok,SV.bt,-List.flatMap_append,-List.map_append];omega
      · simp [gH,Hp.ok,Ob.ok,SV.aI,SV.ok,SV.bt,-List.flatMap_append,-List.map_append];omega
      · intro n hn
        by_cases hy':n=y
        · exact .inl (by simp [gH,ag,hy'])
        · by_cases hbx:n=bx
          · exact .inl (by simp [gH,ag,hbx,f1])
          · refine .inr ?_
            have:n=k+1:=Classical.byContradiction fun hne=>hn (by simp [gH,ag,bA,hy',hbx,hne])
            omega
    · intro n hn
      simp only [Bool.or_eq_true,beq_iff_eq] at hn
      rcases hn with (rfl | rfl) | rfl <;> simp [gH,ag,f1,f2,f3]
    · rintro r F' ⟨s',hs',rfl,rfl,hok',hnm⟩ _ _
      obtain ⟨l',rn',h1',h2'⟩:=s'
      refine ⟨rfl,?_⟩
      simp [gH,Hp.ok,Ob.ok,SV.aI,SV.ok,SV.bt]
      have hh:=hnm rn' (by simp [gH,ag,h1',h2'])
      rcases hh with hh | ⟨hh1,hh2⟩
      · have:rn'=rn:=by
          refine Classical.byContradiction fun hne=>hh ?_
          simp [gH,ag,bA,h1',h2',hne]
        simp [this]
      · simp [hh1];omega
end
section
attribute [local irreducible] SW RW bp SC af aa
theorem Ij (a:MM Dt Cr)(ca:Nat)(m:MM Dt aq)(cm:Nat)(d:Dt):SB Try.prog tree_Tree_up.f [.ptr 0 0,.agg d.cells] (fB a ca m cm) 3 2 (fun r F'=>r= .fn (.func tree_Tree_up_1.f) [] [.ptr 3 0,.ptr 4 0]∧F'=(4,.box 29 d.cells)::(3,.box 41 [.ptr 0 0])::fB a ca m cm):=by
 refine tree_Tree_up.enter (by simp [SV.aI,SV.ok]) (cN a ca m cm (Nat.le_refl 3)) (by simp) ?_
 dsimp only [tree_Tree_up.s,Co.M,Co.G,Co.J,Co.H,Co.N,Co.F,Co.C,Co.Z,Co.B,Co.b8,Co.aA,Co.bz,Co.i6,Co.z8,Co.dm]
 (repeat (first | refine SW.seq ?_ | refine SW.block ?_ | refine SW.g0 [0,1,2,3,4] mixed U ?_ | refine SW.skip ?_ | refine SW.exit ?_ | refine SW.ret ?_ | refine SW.au rfl ?_ | refine SW.ak rfl ?_))
 refine End.mk ((4,.box 29 d.cells)::(3,.box 41 [.ptr 0 0])::fB a ca m cm) (h3:=fun _ _ h=>h) (h4:=⟨rfl,rfl⟩) (h6:= ?_)
 exact bU (by simp) (by simp [Ob.ok,SV.bt,Dt.cells,SV.aI,SV.ok]) (bU (by simp) (by simp [Ob.ok,SV.aI,SV.ok]) (cN a ca m cm (by omega)))
theorem Ik (a:MM Dt Cr)(ca:Nat)(m:MM Dt aq)(cm:Nat)(d:Dt)(k:Nat)(hk:3≤k):bp Try.prog tree_Tree_up.f [.ptr 0 0,.agg d.cells] (fB a ca m cm) k 2 (.fn (.func tree_Tree_up_1.f) [] [.ptr k 0,.ptr (k+1) 0]) ((k+1,.box 29 d.cells)::(k,.box 41 [.ptr 0 0])::fB a ca m cm):=by
 have h:=SB.ej [0,1,2] (Ij a ca m cm d) (by decide) (qg _ _ _ _) k
 have e:Hp.aV (iq [0,1,2] k) (fB a ca m cm)=fB a ca m cm:=lJ ⟨0,1,2,a,ca,m,cm⟩ k
 have e3:iq [0,1,2] k 3=k:=by simp [iq]
 have e4:iq [0,1,2] k 4=k+1:=by simp [iq];omega
 have e0:iq [0,1,2] k 0=0:=rfl
 have e5:∀ x y:Nat×Ob,Hp.aV (iq [0,1,2] k) (x::y::fB a ca m cm)=(iq [0,1,2] k x.1,x.2.aV (iq [0,1,2] k))::(iq [0,1,2] k y.1,y.2.aV (iq [0,1,2] k))::Hp.aV (iq [0,1,2] k) (fB a ca m cm):=fun _ _=>rfl
 rw [e5,e] at h
 simp only [SV.bh,SV.aV,Ob.aV,Dt.aD,e0,e3,e4,List.length_cons,List.length_nil] at h
 exact h
theorem A1 {y bx:Nat}{s0 s:C5 y bx}{xs:List Cr}(h:mw (fun (s:C5 y bx) (x:Cr) s'=>s'.l=s.l++[x.dot]) s0 xs s):s.l=s0.l++xs.map (·.dot):=by
 induction h with
 | nil=>simp
 | snoc _ h ih=>rw [h,ih];simp
def hU (a:MM Dt Cr)(d:Dt)(L:List Cr):SV:=if MM.has a d then .cg [.d (.sl L.length ((L.map (·.dot)).flatMap Dt.ds)),.d (.int .i64 0)] else .cg [.d .ay,.d (.int .i64 7)]
set_option maxHeartbeats 4000000 in
theorem C6 (a:MM Dt Cr)(ca:Nat)(m:MM Dt aq)(cm:Nat)(d:Dt)(L:List Cr)(hL:lZ a (MM.get a d) L)(hlen:L.length<1000000):
  SB Try.prog tree_Tree_Chain.f [.ptr 0 0,.agg d.cells] (fB a ca m cm) 3 (6+L.length*(1+2)) (fun r F'=>r=hU a d L∧F'=fB a ca m cm):=by
 refine tree_Tree_Chain.enter (by simp [SV.aI,SV.ok]) (cN a ca m cm (Nat.le_refl 3)) (by simp) ?_
 dsimp only [tree_Tree_Chain.s,Co.M,Co.G,Co.J,Co.H,Co.N,Co.F,Co.C,Co.Z,Co.B,Co.b8,Co.aA,Co.bz,Co.i6,Co.z8,Co.dm]
 have hget:∀ k,bp Try.prog tree_Tree_Get.f [.ptr 0 0,.agg d.cells] (fB a ca m cm) k 3 (.cg [.agg ((MM.get a d).getD Cr.zero).cells,i64 (if MM.has a d then 0 else 7)]) (fB a ca m cm):=fun k=>get_at (lI a ca m cm) d k
 have hup:bp Try.prog tree_Tree_up.f [.ptr 0 0,.agg d.cells] (fB a ca m cm) 9 2 (.fn (.func tree_Tree_up_1.f) [] [.ptr 9 0,.ptr 10 0]) ((10,.box 29 d.cells)::(9,.box 41 [.ptr 0 0])::fB a ca m cm):=Ik a ca m cm d 9 (by omega)
 unfold hU
 rcases hh:MM.has a d with _ | _
 ·rw [hh] at hget
  simp only [Bool.false_eq_true,if_false] at hget ⊢
  refine SW.seq ?_
  refine SW.g2 [0,1,3,4,5,7,8,9,17,21,22] mixed (hh) hget hup ?_
  refine SW.seq (SW.seq ?_)
  refine SW.g2 [0,1,3,4,5,7,8,9,17,21,22] mixed (hh) hget hup ?_
  refine SW.seq ?_
  refine SW.g2 [0,1,3,4,5,7,8,9,17,21,22] mixed (hh) hget hup ?_
  refine SW.au rfl (SW.seq ?_)
  refine SW.g2 [0,1,3,4,5,7,8,9,17,21,22] mixed (hh) hget hup ?_
  refine SW.weak id (st1:=⟨[(4,.d .ay),(5,.d (.int .i64 7))],fB a ca m cm,3+(6+L.length*(1+2))⟩) (bg.same (by show 3≤3+_;omega) (by simp [dL,List.lookup,SV.aV,SV.ok]) (cN a ca m cm (by show 3≤3+(6+L.length*(1+2));omega)) (fun x hx=> ?_)) (SW.ret ?_)
  ·simp only [List.mem_cons,List.not_mem_nil,or_false] at hx
   rcases hx with rfl | rfl | rfl <;> rfl
  ·exact End.mk (fB a ca m cm) (h3:=fun _ _ h=>h) (h4:=⟨rfl,rfl⟩) (h6:=cN a ca m cm (by omega)) (h7:=Nat.le_refl _)
 ·rw [hh] at hget
  simp only [if_true] at hget ⊢
  (repeat (first | refine SW.seq ?_ | refine SW.block ?_ | refine SW.g2 [0,1,3,4,5,7,8,9,17,21,22] mixed (hh) hget hup ?_ | refine SW.skip ?_ | refine SW.exit ?_ | refine SW.ret ?_ | refine SW.au rfl ?_ | refine SW.ak rfl ?_))
  refine SW.vv 8 49 29 2 (by rfl) ?_
  let s0:C5 7 3:=⟨[],6,by decide,by decide⟩
  refine SW.weak (fun n=>if n=3 then 8 else if n=4 then 9 else if n=5 then 10 else if n=6 then 11 else n) (st1:=⟨[(21,.fn (.func tree_Tree_up_1.f) [] [.ptr 4 0,.ptr 5 0]),(8,.ptr 3 0)],(3,.box 49 [.gs 6 0])::(6,.arr 29 2 0 [])::(4,.box 41 [.ptr 0 0])::(5,.box 29 d.cells)::fB a ca m cm,7⟩) ⟨by show (3:Nat)≤7;decide,fun n hn=> ?_,?_,?_,?_⟩ ?_
  ·show (if n=3 then 8 else if n=4 then 9 else if n=5 then 10 else if n=6 then 11 else n)=n
   rw [if_neg (by omega),if_neg (by omega),if_neg (by omega),if_neg (by omega)]
  ·simp [dL,List.lookup,SV.aV,SV.ok,SV.bh,SV.aI]
  ·simp [u_,ag,Ob.aV,SV.bh,SV.aV,SV.fI,SV.bt,Ob.ok,SV.aI,SV.ok,Dt.aD,Dt.aj,jA,oS,jy,oR]
  ·intro x hx y hy e
   simp only [List.map_cons,List.map_nil,List.mem_cons,List.not_mem_nil,or_false] at hx hy
   rcases hx with rfl | rfl | rfl | rfl | rfl | rfl | rfl <;> rcases hy with rfl | rfl | rfl | rfl | rfl | rfl | rfl <;> simp at e <;> rfl
  refine SW.tL (nk:=1+L.length*(1+2)) [8] [.ptr 3 0] rfl ⟨rfl,trivial⟩ fun ca' cb' hca hcb=> ?_
  have hy:=AZ (y:=7) (bx:=3) (B:=L.length) (by decide) s0 (by simp [s0];omega) hca hcb
  have hsb:=GX (y:=7) (b:=4) (q:=5) (k:=8) (T:=ir a ca m cm) (d:=d) (lI a ca m cm) hL s0 hy (by simp [gH,s0,Hp.ok,Ob.ok,SV.aI,SV.ok]) (by decide) (by decide) (by decide) (sX a ca m cm (by decide)) (by rfl) (by rfl) ⟨by rfl,by rfl,by rfl,by rfl,by rfl⟩ rfl
  have hsubF:HSub ((4,Ob.box 41 [.ptr 0 0])::(5,.box 29 d.cells)::TF (ir a ca m cm) (gH 7 3 29 [8] [22] ca' cb' s0)) ((7,.ox 29 [8] [.ptr 3 0] [22] ca' cb' .ready none)::(3,.box 49 [.gs 6 0])::(6,.arr 29 2 0 [])::(4,.box 41 [.ptr 0 0])::(5,.box 29 d.cells)::fB a ca m cm):=by
   intro n ob hn
   match n with
   | 0 | 1 | 2 | 3 | 4 | 5 | 6 | 7=>simpa [TF,Tr.hp,gH,s0,ag] using hn
   | n+8=>simp [TF,Tr.hp,gH,s0,ag,bA] at hn
  have hsc:=(hsb.here (fun n=>decide (n<8)) (fun n hn=> ?_) (by simp [SV.aI,SV.ok]) ?_ ?_).frame hsubF
  ·refine hsc.mono ?_
   rintro r F' ⟨F1,⟨rfl,xs,s',hon,hpre,hall,hoff,rfl⟩,rfl⟩
   have hl:=A1 hon
   have hxs:xs=L:=hall rfl
   obtain ⟨l,rn,hr1,hr2⟩:=s'
   have hl:l=L.map (·.dot):=by rw [← hxs];simpa [s0] using hl
   obtain ⟨o1,o2,o3,o4,o5⟩:=hoff
   have hn4:rn≠4:=fun e=>by simp [gH,e,ag] at o1
   have hn5:rn≠5:=fun e=>by simp [gH,e,ag] at o2
   have hn0:rn≠0:=fun e=>by simp [gH,e,ag] at o3
   have hn1:rn≠1:=fun e=>by simp [gH,e,ag] at o4
   have hn2:rn≠2:=fun e=>by simp [gH,e,ag] at o5
   have hll:l.length=L.length:=by rw [hl,List.length_map]
   have hlk:=jc (ro:=false) (F':=(4,Ob.box 41 [.ptr 0 0])::(5,.box 29 d.cells)::TF (ir a ca m cm) (gH 7 3 29 [8] [22] ca' cb' ⟨l,rn,hr1,hr2⟩)) hsubF (fun h=>by cases h)
   generalize cH false _ _ _=G at hlk
   have hG:∀ n ob,lk ((4,Ob.box 41 [.ptr 0 0])::(5,.box 29 d.cells)::TF (ir a ca m cm) (gH 7 3 29 [8] [22] ca' cb' ⟨l,rn,hr1,hr2⟩)) n=some ob→lk G n=some ob:=fun n ob h=>by
    rw [hlk,fk (.inr (by rw [h];simp)),h]
   refine ⟨none,hG 7 _ (by simp [TF,Tr.hp,gH,ag,mq]),?_⟩
   refine SW.weak (fun n=>if n=6 then rn else n) (st1:=⟨[(8,.ptr 3 0)],(3,.box 49 [.gs 6 L.length])::(6,.arr 29 2 L.length ((l.flatMap Dt.ds).map .d))::fB a ca m cm,7+1+(1+L.length*(1+2))⟩) ?_ ?_
   ·have q3:=hG 3 (.box 49 [.gs rn l.length]) (by simp [TF,Tr.hp,gH,ag])
    have q6:=hG rn (.arr 29 2 l.length ((l.flatMap Dt.ds).map .d)) (by simp [TF,Tr.hp,gH,ag,hn0,hn1,hn2,hn4,hn5,hr1,hr2])
    have q0:=hG 0 (.box 71 [.mp 1,.mp 2]) (by simp [TF,Tr.hp,ag])
    have q1:=hG 1 (.map (aH Dt.cells cv a) ca) (by simp [TF,Tr.hp,ag])
    have q2:=hG 2 (.map (aH Dt.cells ov m) cm) (by simp [TF,Tr.hp,ag])
    rw [hll] at q3 q6
    refine ⟨by show 3≤7+1+(1+L.length*(1+2));omega,fun n hn=>if_neg (by omega),?_,?_,?_⟩
    ·simp [dL,List.lookup,SV.aV,SV.ok];omega
    ·simp [u_,eM,Ob.aV,SV.bh,SV.aV,SV.fI,SV.bt,Ob.ok,SV.aI,SV.ok,q3,q6,q2,q0,q1,hr1,jA,oS,jy,oR];omega
    ·intro x hx y hy e
     simp only [List.map_cons,List.map_nil,List.mem_cons,List.not_mem_nil,or_false] at hx hy
     rcases hx with rfl | rfl | rfl | rfl | rfl <;> rcases hy with rfl | rfl | rfl | rfl | rfl <;> simp at e <;> first | rfl | omega
   ·refine SW.seq ?_
    refine SW.g0 [0,1,3,4,5,7,8,9,17,21,22] mixed U ?_
    refine SW.freeze 6 (l.flatMap Dt.ds) rfl rfl (SW.ret ?_)
    rw [← hl]
    exact End.mk (fB a ca m cm) (h4:=⟨by simp [eF,SV.gu],rfl⟩) (h5:=by simp [eF,SV.gu,SV.ok,SV.aI]) (h6:=cN a ca m cm (by omega)) (h7:=by show 3+(6+L.length*(1+2))≤7+1+(1+L.length*(1+2));omega)
  ·match n,hn with
   | 0,_ | 1,_ | 2,_ | 3,_ | 4,_ | 5,_ | 6,_ | 7,_=>simp [TF,Tr.hp,gH,s0,ag]
   | n +8,h=>
     have:n+8<8:=by simpa using h
     omega
  ·refine bU rfl (by simp [Ob.ok,SV.aI,SV.ok]) (bU rfl (by simp [Ob.ok,Dt.aj]) ?_)
   have h1:(ir a ca m cm).hp.ok (fun n=>decide (n<8))=true:=Tr.CL (sX a ca m cm (by decide))
   have h2:(gH 7 3 29 [8] [22] ca' cb' s0).ok (fun n=>decide (n<8))=true:=by simp [gH,s0,Hp.ok,Ob.ok,SV.aI,SV.ok,SV.bt]
   unfold Hp.ok at*
   rw [TF,List.all_append,h1,h2];rfl
  ·rintro r F' _ h1 h2
   refine ⟨SV.mS (fun n hn=> ?_) _ h1,Hp.lF (fun n hn=> ?_) h2⟩ <;> (simp at hn ⊢;omega)
theorem y3 (f:Nat→Nat)(a:MM Dt Cr)(d:Dt)(L:List Cr):(hU a d L).aV f=hU a d L:=by
 unfold hU;split <;> rfl
theorem C7 {T:Tr}(hs:T.sep)(d:Dt)(L:List Cr)(hL:lZ T.at_ (MM.get T.at_ d) L)(hlen:L.length<1000000)(k:Nat):bp Try.prog tree_Tree_Chain.f [.ptr T.bx 0,.agg d.cells] T.hp k (6+L.length*(1+2)) (hU T.at_ d L) T.hp:=by
 have h:=SB.ej [T.bx,T.ma,T.mm] (C6 T.at_ T.ca T.made T.cm d L hL hlen) (Tr.II hs) (qg _ _ _ _) k
 rw [lJ,y3] at h
 simp only [SV.bh,SV.aV,Dt.aD] at h
 exact h
end
end Go.Proofs.Ytefjaphfnkbbkaa
