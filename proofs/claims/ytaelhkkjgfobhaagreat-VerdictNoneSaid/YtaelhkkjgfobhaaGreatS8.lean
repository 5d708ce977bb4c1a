/-
 The code of more functions in the small form, by program (gen.py, more.py).
-/
import Derived.Test.YtaelhkkjgfobhaaGreatRV
set_option linter.unusedVariables false
set_option linter.unusedSimpArgs false
set_option linter.unusedSectionVars false
namespace Go.Proofs.YtaelhkkjgfobhaaGreat
open Go.Sl Go.Sl.Co Go.Proofs
namespace law19_VerdictNone
abbrev f:Nat:=13
def s:bP:=(.seq
(F [J 1 (.box 43 (.t 0)),
 J 2 (.mv (B false))] 2)
(.seq
(F [J 3 (.mv (.k (.d .dZ)))] 1)
(.seq
(F [M 11 3,
 J 12 (.fC [(.d .aL),(.d .gP),aB 0,aB 0,aB 0,aB 0,aB 0,aB 0,aB 0,aB 0] []),
 J 13 (.box 98 (.t 12)),
 J 14 (.mK 90 1 2 [(.d .dZ),(.d .dZ)] [(0,1,(.t 11)),(1,1,(.t 13))]),
 M 4 14] 5)
(.seq
(.seq
(F [J 5 (.mv (Z 0))] 1)
(.block 0
(.loop
(.seq
(.seq
(F [M 15 5,
 J 16 (.bin .lss (.t 15) (Z 2))] 2)
(.cond (.t 16)
.skip
(.exit 0)))
(.seq
(.block 1
(.seq
(F [M 19 4,
 M 20 5,
 J 21 (.dF 1 (.t 19) (.t 20)),
 J 22 (.load none (.t 21)),
 M 6 22] 5)
(.seq
(F [M 24 6,
 J 25 (.load (some 29) (.t 1)),
 J 26 (.call (C 55) [(.t 24),(.t 25)]),
 M 23 26,
 J 27 (.ext 0 (.t 23)),
 J 28 (.ext 1 (.t 23)),
 M 7 27,
 M 8 28] 8)
(.seq
(F [M 30 6,
 J 31 (.aT 0 (.t 1)),
 J 32 (.load (some 2) (.t 31)),
 J 33 (.call (C 56) [(.t 30),(.t 32)]),
 M 29 33,
 J 34 (.ext 0 (.t 29)),
 J 35 (.ext 1 (.t 29)),
 M 9 34,
 M 10 35] 9)
(.seq
(F (M 36 8::
 J 37 (.bin .neq (.t 36) (Z 1))::
 M 38 37::
 G 39 10 38 false::
 H 40 (.bin .neq (.t 39) (Z 1)) 38 false::
 J 41 (.pick (.t 38) (B true) (.t 40))::
 M 42 41::
 G 43 7 42 false::
 H 44 (.len (.t 43)) 42 false::
 H 45 (.bin .neq (.t 44) (Z 0)) 42 false::
 J 46 (.pick (.t 42) (B true) (.t 45))::
 M 47 46::
 G 48 6 47 false::
 H 49 (.call (C 58) [(.t 48)]) 47 false::
 H 50 (.len (.t 49)) 47 false::
 H 51 (.bin .neq (.t 50) (Z 0)) 47 false::
 J 52 (.pick (.t 47) (B true) (.t 51))::
 M 53 52::
 G 54 6 53 false::
 H 55 (.call (C 57) [(.t 54)]) 53 false::
 H 56 (.fC z8 []) 53 false::
 H 57 (.eqv true [true,true,true,true,true,true,true,true] (.t 55) (.t 56)) 53 false::
 J 58 (.pick (.t 53) (B true) (.t 57))::
 M 59 58::
 G 60 6 59 false::
 H 61 (.call (C 59) [(.t 60)]) 59 false::
 H 62 (.iZ true 0 (.t 61)) 59 false::
 J 63 (.pick (.t 59) (B true) (.t 62))::[]) 28)
(.cond (.t 63)
(.seq
(F [J 2 (.mv (B false))] 1)
.ret)
.skip))))))
(F [M 17 5,
 J 18 (.bin .add (.t 17) (Z 1)),
 M 5 18] 3))))))
(.seq
(F [J 64 (.call (C 48) []),
 M 2 64] 2)
.ret)))))
def rv:List RV:=[.tmp 2]
theorem enter:En Tryz.prog 13 65 s rv:=En.mk (c:= Tryz.f13.body.getD .ret) Tryz.func13
end law19_VerdictNone
namespace verdict_Engine_Ops
abbrev f:Nat:=58
def s:bP:=(.seq
(F [J 2 (.mv (.k (.d .aL)))] 1)
(.seq
(.seq
(F [M 5 0,
 J 6 (.call (C 101) [(.t 5)])] 2)
(.cond (.t 6)
(.seq
(F [J 2 (.mv (.k (.d .aL)))] 1)
.ret)
.skip))
(.seq
(F [M 7 0,
 J 8 (.dA (.t 7)),
 J 9 (.aT 0 (.t 8)),
 J 10 (.load none (.t 9)),
 J 11 (.call (C 106) [(.t 10)]),
 M 3 11] 6)
(.seq
(.seq
(F [M 12 3,
 J 13 (.len (.t 12)),
 J 14 (.mv (Z 0))] 3)
(.block 0
(.loop
(.seq
(F [J 15 (.bin .lss (.t 14) (.t 13))] 1)
(.seq
(.cond (.t 15)
.skip
(.exit 0))
(.seq
(.block 1
(.seq
(F [M 16 14,
 M 4 16] 2)
(F [M 17 3,
 M 18 4,
 M 19 3,
 M 20 4,
 J 21 (.dF 29 (.t 19) (.t 20)),
 J 22 (.aT 28 (.t 21)),
 J 23 (.load none (.t 22)),
 J 24 (.call (C 104) [(.t 23)]),
 J 25 (.dF 29 (.t 17) (.t 18)),
 J 26 (.aT 28 (.t 25)),
 N (.store 1 (.t 26) (.t 24))] 11)))
(F [J 27 (.bin .add (.t 14) (Z 1)),
 M 14 27] 2)))))))
(.seq
(F [M 28 3,
 M 2 28] 2)
.ret)))))
def rv:List RV:=[.tmp 2]
theorem enter:En Tryz.prog 58 29 s rv:=En.mk (c:= Tryz.f58.body.getD .ret) Tryz.func58
end verdict_Engine_Ops
namespace verdict_Engine_Copy
abbrev f:Nat:=59
def s:bP:=(.seq
(F [J 2 (.mv (.k (.d .dZ)))] 1)
(.seq
(.seq
(F [M 3 0,
 J 4 (.call (C 101) [(.t 3)])] 2)
(.cond (.t 4)
(.seq
(F [J 2 (.mv (.k (.d .dZ)))] 1)
.ret)
.skip))
(.seq
(.e_ (M 5 0::
 J 6 (.dA (.t 5))::
 J 7 (.aT 0 (.t 6))::
 J 8 (.load none (.t 7))::
 J 9 (.call (C 106) [(.t 8)])::
 M 10 0::
 J 11 (.dA (.t 10))::
 J 12 (.aT 1 (.t 11))::
 J 13 (.load none (.t 12))::
 J 14 (.call (C 107) [(.t 13)])::
 M 15 0::
 J 16 (.dA (.t 15))::
 J 17 (.aT 2 (.t 16))::
 J 18 (.load (some 8) (.t 17))::
 J 19 (.fC [(.d .aL),(.d .gP),aB 0,aB 0,aB 0,aB 0,aB 0,aB 0,aB 0,aB 0] [(0,1,(.t 9)),(1,1,(.t 14)),(2,8,(.t 18))])::
 J 20 (.box 98 (.t 19))::
 M 2 20::[]) (0::
1::
3::
7::
15::
0::
32::
96::
224::
511::
0::
1024::
3072::
7168::
16383::
32767::
65535::[]) true)
.ret)))
def rv:List RV:=[.tmp 2]
theorem enter:En Tryz.prog 59 21 s rv:=En.mk (c:= Tryz.f59.body.getD .ret) Tryz.func59
end verdict_Engine_Copy
end Go.Proofs.YtaelhkkjgfobhaaGreat
