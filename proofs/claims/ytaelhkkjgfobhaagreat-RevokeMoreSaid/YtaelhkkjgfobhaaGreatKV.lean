/-
 The code of the functions in the small form, by program (gen.py); each is checked against the translation by the kernel.
-/
import Derived.Test.YtaelhkkjgfobhaaGreatChecked
import Derived.Test.YtaelhkkjgfobhaaGreatK4
set_option linter.unusedVariables false
set_option linter.unusedSimpArgs false
set_option linter.unusedSectionVars false
namespace Go.Proofs.YtaelhkkjgfobhaaGreat
open Go.Sl Go.Sl.Co Go.Proofs
section
theorem mixed: Tryz.prog.follows .mixedOrders=true:=by kernel_rfl
abbrev GG:Nat:=3
abbrev Hz:Nat:=4
abbrev zK:Nat:=5
abbrev jR:Nat:=22
abbrev Ch:Nat:=35
abbrev vm:Nat:=37
abbrev pQ:Nat:=39
abbrev oD:Nat:=41
abbrev cG:Nat:=43
abbrev gT:Nat:=148
namespace ref10_Great
abbrev f:Nat:=14
def s:bX:=(.seq
(F [J 2 (.mv (B false))] 1)
(.seq
(F [J 3 (.mv (Z 0))] 1)
(.seq
(.seq
(F [J 4 (.mv (Z 0))] 1)
(.block 0
(.loop
(.seq
(.seq
(F [M 5 4,
 M 6 0,
 J 7 (.len (.t 6)),
 J 8 (.bin .lss (.t 5) (.t 7)),
 M 9 8,
 G 10 4 9 true,
 H 11 (.bin .lss (.t 10) (Z 100)) 9 true,
 J 12 (.pick (.t 9) (.t 11) (B false))] 8)
(.cond (.t 12)
.skip
(.exit 0)))
(.seq
(.block 1
(F [M 15 3,
 M 16 0,
 M 17 4,
 J 18 (.ew 29 (.t 16) (.t 17)),
 J 19 (.aV 28 (.t 18)),
 J 20 (.load none (.t 19)),
 J 21 (.len (.t 20)),
 J 22 (.bin .add (.t 15) (.t 21)),
 M 3 22] 9))
(F [M 13 4,
 J 14 (.bin .add (.t 13) (Z 1)),
 M 4 14] 3))))))
(.seq
(F [M 23 0,
 J 24 (.len (.t 23)),
 J 25 (.bin .gtr (.t 24) (Z 80)),
 M 26 25,
 G 27 3 26 false,
 H 28 (.bin .gtr (.t 27) (Z 300)) 26 false,
 J 29 (.pick (.t 26) (B true) (.t 28)),
 M 2 29] 8)
.ret))))
def rv:List RV:=[.tmp 2]
theorem enter:En Tryz.prog 14 30 s rv:=En.mk (c:= Tryz.f14.body.getD .ret) Tryz.func14 rfl (by kernel_rfl) (by kernel_rfl) (by kernel_rfl) (by kernel_rfl)
end ref10_Great
namespace shape_New
abbrev f:Nat:=19
def s:bX:=(.seq
(F [J 2 (.mv (.k (.d .jt)))] 1)
(.seq
(F [M 12 0,
 J 13 (.call (C 69) [(.t 12)]),
 J 14 (.zj),
 J 15 (.zj),
 J 16 (.zj),
 J 17 (.fE [(.d .jt),(.d .jl),(.d .jl),(.d .jl)] [(0,1,(.t 13)),(1,1,(.t 14)),(2,1,(.t 15)),(3,1,(.t 16))]),
 J 18 (.box 117 (.t 17)),
 M 3 18] 8)
(.seq
(.seq
(F [M 19 0,
 J 20 (.len (.t 19)),
 J 21 (.mv (Z 0))] 3)
(.block 0
(.loop
(.seq
(F [J 22 (.bin .lss (.t 21) (.t 20))] 1)
(.seq
(.cond (.t 22)
.skip
(.exit 0))
(.seq
(.block 1
(.seq
(F [J 23 (.ew 29 (.t 19) (.t 21)),
 J 24 (.load (some 29) (.t 23)),
 J 5 (.alloc 43 bU),
 N (.store 29 (.t 5) (.t 24))] 4)
(.seq
(.ey [M 26 3,
 J 27 (.d_ (.t 26)),
 J 28 (.aV 1 (.t 27)),
 J 29 (.load none (.t 28)),
 J 30 (.aV 0 (.t 5)),
 J 31 (.load (some 2) (.t 30)),
 J 32 (.look [true,true] true (.agg bU) (.t 29) (.t 31) true),
 M 25 32,
 J 33 (.ext 0 (.t 25)),
 J 34 (.ext 1 (.t 25)),
 J 6 (.alloc 43 bU),
 N (.store 29 (.t 6) (.t 33)),
 M 7 34] [0,
1,
3,
7,
0,
16,
63,
127,
255,
255,
0,
1535,
4095] true)
(.seq
(F [M 35 7,
 J 36 (.not (.t 35))] 2)
(.cond (.t 36)
(.ey [M 37 3,
 J 38 (.d_ (.t 37)),
 J 39 (.aV 1 (.t 38)),
 J 40 (.load none (.t 39)),
 J 41 (.aV 0 (.t 5)),
 J 42 (.load (some 2) (.t 41)),
 J 43 (.load (some 29) (.t 5)),
 N (.sF [true,true] true (.t 40) (.t 42) (.t 43))] [0,
1,
3,
7,
0,
16,
0,
127] true)
.skip)))))
(F [J 44 (.bin .add (.t 21) (Z 1)),
 M 21 44] 2)))))))
(.seq
(.seq
(F [M 45 3,
 J 46 (.d_ (.t 45)),
 J 47 (.aV 1 (.t 46)),
 J 48 (.load none (.t 47)),
 J 49 (.lI (.t 48))] 5)
(.block 2
(.loop
(.seq
(F [J 50 (.jY (.t 49)),
 J 51 (.ext 0 (.t 50))] 2)
(.seq
(.cond (.t 51)
.skip
(.exit 2))
(.block 3
(.seq
(F [J 52 (.mI (.t 49)),
 J 53 (.ext 0 (.t 52)),
 J 54 (.ext 1 (.t 52)),
 J 8 (.alloc 37 [b8 0,aB 0]),
 J 9 (.alloc 43 bU),
 N (.store 2 (.t 8) (.t 53)),
 N (.store 29 (.t 9) (.t 54))] 7)
(.seq
(F [J 55 (.aV 14 (.t 9)),
 J 56 (.load none (.t 55)),
 J 57 (.bin .eql (.t 56) (.k (b8 3))),
 M 58 57,
 G 59 3 58 true,
 H 60 (.load (some 29) (.t 9)) 58 true,
 H 61 (.call (C 70) [(.t 59),(.t 60)]) 58 true,
 H 62 (.bin .eql (.t 61) (Z 0)) 58 true,
 J 63 (.pick (.t 58) (.t 62) (B false))] 9)
(.cond (.t 63)
(.ey [M 64 3,
 J 65 (.d_ (.t 64)),
 J 66 (.aV 2 (.t 65)),
 J 67 (.load none (.t 66)),
 J 68 (.load (some 2) (.t 8)),
 N (.sF [true,true] true (.t 67) (.t 68) (Z 1))] [0,
1,
3,
7,
0,
31] true)
.skip)))))))))
(.seq
(.seq
(F [M 69 3,
 J 70 (.d_ (.t 69)),
 J 71 (.aV 1 (.t 70)),
 J 72 (.load none (.t 71)),
 J 73 (.lI (.t 72))] 5)
(.block 4
(.loop
(.seq
(F [J 74 (.jY (.t 73)),
 J 75 (.ext 0 (.t 74))] 2)
(.seq
(.cond (.t 75)
.skip
(.exit 4))
(.block 5
(.seq
(F [J 76 (.mI (.t 73)),
 J 77 (.ext 0 (.t 76)),
 J 78 (.ext 1 (.t 76)),
 J 10 (.alloc 37 [b8 0,aB 0]),
 J 11 (.alloc 43 bU),
 N (.store 2 (.t 10) (.t 77)),
 N (.store 29 (.t 11) (.t 78))] 7)
(.seq
(F [J 79 (.aV 14 (.t 11)),
 J 80 (.load none (.t 79)),
 J 81 (.bin .eql (.t 80) (.k (b8 4))),
 M 82 81,
 G 83 3 82 true,
 H 84 (.load (some 29) (.t 11)) 82 true,
 H 85 (.call (C 70) [(.t 83),(.t 84)]) 82 true,
 H 86 (.bin .eql (.t 85) (Z 0)) 82 true,
 J 87 (.pick (.t 82) (.t 86) (B false))] 9)
(.cond (.t 87)
(.ey [M 88 3,
 J 89 (.d_ (.t 88)),
 J 90 (.aV 3 (.t 89)),
 J 91 (.load none (.t 90)),
 J 92 (.load (some 2) (.t 10)),
 J 93 (.aV 21 (.t 11)),
 J 94 (.load (some 2) (.t 93)),
 N (.sF [true,true] true (.t 91) (.t 92) (.t 94))] [0,
1,
3,
7,
0,
0,
32,
127] true)
.skip)))))))))
(.seq
(F [M 95 3,
 M 2 95] 2)
.ret))))))
def rv:List RV:=[.tmp 2]
theorem enter:En Tryz.prog 19 96 s rv:=En.mk (c:= Tryz.f19.body.getD .ret) Tryz.func19 rfl (by kernel_rfl) (by kernel_rfl) (by kernel_rfl) (by kernel_rfl)
end shape_New
namespace ref03_In
abbrev f:Nat:=21
def s:bX:=(.seq
(F [J 3 (.box 37 (.t 1)),
 J 4 (.mv (B false))] 2)
(.seq
(.seq
(F [J 5 (.mv (Z 0))] 1)
(.block 0
(.loop
(.seq
(.seq
(F [M 6 5,
 M 7 0,
 J 8 (.len (.t 7)),
 J 9 (.bin .lss (.t 6) (.t 8))] 4)
(.cond (.t 9)
.skip
(.exit 0)))
(.seq
(.block 1
(.seq
(.ey [M 12 0,
 M 13 5,
 J 14 (.ew 2 (.t 12) (.t 13)),
 J 15 (.load (some 2) (.t 14)),
 J 16 (.load (some 2) (.t 3)),
 J 17 (.eqv false [true,true] (.t 15) (.t 16))] [0,
0,
3,
7,
0,
31] true)
(.cond (.t 17)
(.seq
(F [J 4 (.mv (B true))] 1)
.ret)
.skip)))
(F [M 10 5,
 J 11 (.bin .add (.t 10) (Z 1)),
 M 5 11] 3))))))
(.seq
(F [J 4 (.mv (B false))] 1)
.ret)))
def rv:List RV:=[.tmp 4]
theorem enter:En Tryz.prog 21 18 s rv:=En.mk (c:= Tryz.f21.body.getD .ret) Tryz.func21 rfl (by kernel_rfl) (by kernel_rfl) (by kernel_rfl) (by kernel_rfl)
end ref03_In
namespace ref10_Find
abbrev f:Nat:=22
def s:bX:=(.seq
(F [J 3 (.box 37 (.t 1)),
 J 4 (.alloc 43 bU),
 J 5 (.mv (B false))] 3)
(.seq
(.seq
(F [J 6 (.mv (Z 0))] 1)
(.block 0
(.loop
(.seq
(.seq
(F [M 7 6,
 M 8 0,
 J 9 (.len (.t 8)),
 J 10 (.bin .lss (.t 7) (.t 9))] 4)
(.cond (.t 10)
.skip
(.exit 0)))
(.seq
(.block 1
(.seq
(.ey [M 13 0,
 M 14 6,
 J 15 (.ew 29 (.t 13) (.t 14)),
 J 16 (.aV 0 (.t 15)),
 J 17 (.load (some 2) (.t 16)),
 J 18 (.load (some 2) (.t 3)),
 J 19 (.eqv false [true,true] (.t 17) (.t 18))] [0,
0,
3,
7,
15,
0,
63] true)
(.cond (.t 19)
(.seq
(F [M 20 0,
 M 21 6,
 J 22 (.ew 29 (.t 20) (.t 21)),
 J 23 (.load (some 29) (.t 22)),
 N (.store 29 (.t 4) (.t 23)),
 J 5 (.mv (B true))] 6)
.ret)
.skip)))
(F [M 11 6,
 J 12 (.bin .add (.t 11) (Z 1)),
 M 6 12] 3))))))
(.seq
(F [J 24 (.fE bU []),
 N (.store 29 (.t 4) (.t 24)),
 J 5 (.mv (B false))] 3)
.ret)))
def rv:List RV:=[.cell 4 (some 29),.tmp 5]
theorem enter:En Tryz.prog 22 25 s rv:=En.mk (c:= Tryz.f22.body.getD .ret) Tryz.func22 rfl (by kernel_rfl) (by kernel_rfl) (by kernel_rfl) (by kernel_rfl)
end ref10_Find
namespace ref10_Before
abbrev f:Nat:=23
def s:bX:=(.seq
(F [J 2 (.box 43 (.t 0)),
 J 3 (.box 43 (.t 1)),
 J 4 (.mv (B false))] 3)
(.seq
(F [J 5 (.aV 2 (.t 3)),
 J 6 (.load (some 8) (.t 5)),
 J 7 (.aV 0 (.t 2)),
 J 8 (.load (some 2) (.t 7)),
 J 9 (.call (C 45) [(.t 6),(.t 8)]),
 M 4 9] 6)
.ret))
def rv:List RV:=[.tmp 4]
theorem enter:En Tryz.prog 23 10 s rv:=En.mk (c:= Tryz.f23.body.getD .ret) Tryz.func23 rfl (by kernel_rfl) (by kernel_rfl) (by kernel_rfl) (by kernel_rfl)
end ref10_Before
namespace ref03_Same
abbrev f:Nat:=29
def s:bX:=(.seq
(F [J 4 (.mv (B false))] 1)
(.seq
(.seq
(F [M 6 0,
 J 7 (.len (.t 6)),
 M 8 1,
 J 9 (.len (.t 8)),
 J 10 (.bin .neq (.t 7) (.t 9))] 5)
(.cond (.t 10)
(.seq
(F [J 4 (.mv (B false))] 1)
.ret)
.skip))
(.seq
(.seq
(F [J 5 (.mv (Z 0))] 1)
(.block 0
(.loop
(.seq
(.seq
(F [M 11 5,
 M 12 0,
 J 13 (.len (.t 12)),
 J 14 (.bin .lss (.t 11) (.t 13))] 4)
(.cond (.t 14)
.skip
(.exit 0)))
(.seq
(.block 1
(.seq
(.ey [M 17 0,
 M 18 5,
 J 19 (.ew 2 (.t 17) (.t 18)),
 J 20 (.load (some 2) (.t 19)),
 M 21 1,
 M 22 5,
 J 23 (.ew 2 (.t 21) (.t 22)),
 J 24 (.load (some 2) (.t 23)),
 J 25 (.eqv true [true,true] (.t 20) (.t 24))] [0,
0,
3,
7,
0,
0,
48,
112,
255] true)
(.cond (.t 25)
(.seq
(F [J 4 (.mv (B false))] 1)
.ret)
.skip)))
(F [M 15 5,
 J 16 (.bin .add (.t 15) (Z 1)),
 M 5 16] 3))))))
(.seq
(F [J 4 (.mv (B true))] 1)
.ret))))
def rv:List RV:=[.tmp 4]
theorem enter:En Tryz.prog 29 26 s rv:=En.mk (c:= Tryz.f29.body.getD .ret) Tryz.func29 rfl (by kernel_rfl) (by kernel_rfl) (by kernel_rfl) (by kernel_rfl)
end ref03_Same
namespace ref03_May
abbrev f:Nat:=41
def s:bX:=(.seq
(F [J 1 (.box 37 (.t 0)),
 J 2 (.mv (B false))] 2)
(.seq
(F [J 3 (.aV 0 (.t 1)),
 J 4 (.load none (.t 3)),
 J 5 (.bin .leq (.t 4) (.k (b8 7))),
 M 6 5,
 H 7 (.aV 1 (.t 1)) 6 true,
 H 8 (.load none (.t 7)) 6 true,
 H 9 (.bin .geq (.t 8) (.k (aB 1))) 6 true,
 J 10 (.pick (.t 6) (.t 9) (B false)),
 M 2 10] 9)
.ret))
def rv:List RV:=[.tmp 2]
theorem enter:En Tryz.prog 41 11 s rv:=En.mk (c:= Tryz.f41.body.getD .ret) Tryz.func41 rfl (by kernel_rfl) (by kernel_rfl) (by kernel_rfl) (by kernel_rfl)
end ref03_May
namespace ref04_Covers
abbrev f:Nat:=45
def s:bX:=(.seq
(F [J 2 (.box 39 (.t 0)),
 J 3 (.box 37 (.t 1)),
 J 4 (.mv (B false))] 3)
(.seq
(.ey [J 5 (.load (some 2) (.t 3)),
 J 6 (.call (C 41) [(.t 5)]),
 M 7 6,
 H 8 (.aV 1 (.t 3)) 7 true,
 H 9 (.load none (.t 8)) 7 true,
 H 10 (.aV 0 (.t 3)) 7 true,
 H 11 (.load none (.t 10)) 7 true,
 H 12 (.qk 8 1 (.t 2) (.t 11)) 7 true,
 H 13 (.load none (.t 12)) 7 true,
 H 14 (.bin .leq (.t 9) (.t 13)) 7 true,
 J 15 (.pick (.t 7) (.t 14) (B false)),
 M 4 15] [0,
1,
3,
7,
15,
7,
39,
103,
231,
511,
1023,
2047] true)
.ret))
def rv:List RV:=[.tmp 4]
theorem enter:En Tryz.prog 45 16 s rv:=En.mk (c:= Tryz.f45.body.getD .ret) Tryz.func45 rfl (by kernel_rfl) (by kernel_rfl) (by kernel_rfl) (by kernel_rfl)
end ref04_Covers
namespace shape_Shape_Tree
abbrev f:Nat:=64
def s:bX:=(.seq
(F [J 2 (.mv (.k (.d .jt)))] 1)
(.seq
(.seq
(F [M 3 0,
 J 4 (.call (C 115) [(.t 3)])] 2)
(.cond (.t 4)
(.seq
(F [J 2 (.mv (.k (.d .jt)))] 1)
.ret)
.skip))
(.seq
(F [M 5 0,
 J 6 (.d_ (.t 5)),
 J 7 (.aV 0 (.t 6)),
 J 8 (.load none (.t 7)),
 M 2 8] 5)
.ret)))
def rv:List RV:=[.tmp 2]
theorem enter:En Tryz.prog 64 9 s rv:=En.mk (c:= Tryz.f64.body.getD .ret) Tryz.func64 rfl (by kernel_rfl) (by kernel_rfl) (by kernel_rfl) (by kernel_rfl)
end shape_Shape_Tree
namespace shape_Shape_Dots
abbrev f:Nat:=65
def s:bX:=(.seq
(F [J 2 (.mv (.k (.d .aU)))] 1)
(.seq
(.seq
(F [M 3 0,
 J 4 (.call (C 115) [(.t 3)])] 2)
(.cond (.t 4)
(.seq
(F [J 2 (.mv (.k (.d .aU)))] 1)
.ret)
.skip))
(.seq
(F [M 5 0,
 J 6 (.d_ (.t 5)),
 J 7 (.aV 1 (.t 6)),
 J 8 (.load none (.t 7)),
 J 9 (.call (C 117) [(.t 8)]),
 J 10 (.call (C 116) [(.t 9),(C 118)]),
 M 2 10] 7)
.ret)))
def rv:List RV:=[.tmp 2]
theorem enter:En Tryz.prog 65 11 s rv:=En.mk (c:= Tryz.f65.body.getD .ret) Tryz.func65 rfl (by kernel_rfl) (by kernel_rfl) (by kernel_rfl) (by kernel_rfl)
end shape_Shape_Dots
namespace shape_Shape_Good
abbrev f:Nat:=66
def s:bX:=(.seq
(F [J 3 (.box 37 (.t 1)),
 J 4 (.mv (B false))] 2)
(.seq
(F [M 8 0,
 J 9 (.load (some 2) (.t 3)),
 J 10 (.call (C 67) [(.t 8),(.t 9)]),
 M 7 10,
 J 11 (.ext 0 (.t 7)),
 J 12 (.ext 1 (.t 7)),
 J 5 (.alloc 43 bU),
 N (.store 29 (.t 5) (.t 11)),
 M 6 12] 9)
(.seq
(F [M 13 6,
 M 14 13,
 G 15 0 14 true,
 H 16 (.load (some 29) (.t 5)) 14 true,
 H 17 (.call (C 70) [(.t 15),(.t 16)]) 14 true,
 H 18 (.bin .eql (.t 17) (Z 0)) 14 true,
 J 19 (.pick (.t 14) (.t 18) (B false)),
 M 4 19] 8)
.ret)))
def rv:List RV:=[.tmp 4]
theorem enter:En Tryz.prog 66 20 s rv:=En.mk (c:= Tryz.f66.body.getD .ret) Tryz.func66 rfl (by kernel_rfl) (by kernel_rfl) (by kernel_rfl) (by kernel_rfl)
end shape_Shape_Good
namespace shape_Shape_Op
abbrev f:Nat:=67
def s:bX:=(.seq
(F [J 3 (.box 37 (.t 1)),
 J 4 (.alloc 43 bU),
 J 5 (.mv (B false))] 3)
(.seq
(.seq
(F [M 8 0,
 J 9 (.call (C 115) [(.t 8)])] 2)
(.cond (.t 9)
(.seq
(F [J 10 (.fE bU []),
 N (.store 29 (.t 4) (.t 10)),
 J 5 (.mv (B false))] 3)
.ret)
.skip))
(.seq
(.ey [M 12 0,
 J 13 (.d_ (.t 12)),
 J 14 (.aV 1 (.t 13)),
 J 15 (.load none (.t 14)),
 J 16 (.load (some 2) (.t 3)),
 J 17 (.look [true,true] true (.agg bU) (.t 15) (.t 16) true),
 M 11 17,
 J 18 (.ext 0 (.t 11)),
 J 19 (.ext 1 (.t 11)),
 J 6 (.alloc 43 bU),
 N (.store 29 (.t 6) (.t 18)),
 M 7 19] [0,
1,
3,
7,
0,
31,
63,
127,
127,
0,
767,
2047] true)
(.seq
(F [J 20 (.aV 28 (.t 6)),
 J 21 (.load none (.t 20)),
 J 22 (.call (C 104) [(.t 21)]),
 J 23 (.aV 28 (.t 6)),
 N (.store 1 (.t 23) (.t 22))] 5)
(.seq
(F [J 24 (.load (some 29) (.t 6)),
 M 25 7,
 N (.store 29 (.t 4) (.t 24)),
 M 5 25] 4)
.ret)))))
def rv:List RV:=[.cell 4 (some 29),.tmp 5]
theorem enter:En Tryz.prog 67 26 s rv:=En.mk (c:= Tryz.f67.body.getD .ret) Tryz.func67 rfl (by kernel_rfl) (by kernel_rfl) (by kernel_rfl) (by kernel_rfl)
end shape_Shape_Op
namespace tree_Tree_Chain
abbrev f:Nat:=68
def s:bX:=(.seq
(F [J 3 (.box 37 (.t 1)),
 J 4 (.mv (.k (.d .aU))),
 J 5 (.mv (Z 0))] 3)
(.seq
(.seq
(F [M 11 0,
 J 12 (.load (some 2) (.t 3)),
 J 13 (.call (C 119) [(.t 11),(.t 12)]),
 M 10 13,
 J 14 (.ext 0 (.t 10)),
 J 15 (.ext 1 (.t 10)),
 J 6 (.alloc 158 [b8 0,aB 0,b8 0,aB 0,b8 0,aB 0,aB 0,b8 0,b8 0,bL 0,i6 0]),
 N (.store 11 (.t 6) (.t 14)),
 M 7 15] 9)
(.seq
(F [M 16 7,
 J 17 (.bin .neq (.t 16) (Z 0))] 2)
(.cond (.t 17)
(.seq
(F [M 18 7,
 J 4 (.mv (.k (.d .aU))),
 M 5 18] 3)
.ret)
.skip)))
(.seq
(F [J 8 (.alloc 31 [(.d .aU)])] 1)
(.seq
(.seq
(F [M 19 0,
 J 20 (.load (some 2) (.t 3)),
 J 21 (.call (C 120) [(.t 19),(.t 20)])] 3)
(.block 0
(.mL (.t 21) [22]
(F [J 9 (.alloc 158 [b8 0,aB 0,b8 0,aB 0,b8 0,aB 0,aB 0,b8 0,b8 0,bL 0,i6 0]),
 N (.store 11 (.t 9) (.t 22))] 2)
(.block 1
(F [J 23 (.load none (.t 8)),
 J 24 (.aV 0 (.t 9)),
 J 25 (.load (some 2) (.t 24)),
 J 26 (.oU 37 2 1 [b8 0,aB 0] [(0,2,(.t 25))]),
 J 27 (.app 37 2 8 (.t 23) (.t 26)),
 N (.store 1 (.t 8) (.t 27))] 6)))))
(.seq
(F [J 28 (.load none (.t 8)),
 M 4 28,
 J 5 (.mv (Z 0))] 3)
.ret)))))
def rv:List RV:=[.tmp 4,.tmp 5]
theorem enter:En Tryz.prog 68 29 s rv:=En.mk (c:= Tryz.f68.body.getD .ret) Tryz.func68 rfl (by kernel_rfl) (by kernel_rfl) (by kernel_rfl) (by kernel_rfl)
end tree_Tree_Chain
namespace tree_New
abbrev f:Nat:=69
def s:bX:=(.seq
(F [J 2 (.mv (.k (.d .jt)))] 1)
(.seq
(F [J 8 (.zj),
 J 9 (.zj),
 J 10 (.fE [(.d .jl),(.d .jl)] [(0,1,(.t 8)),(1,1,(.t 9))]),
 J 11 (.box 166 (.t 10)),
 M 3 11] 5)
(.seq
(F [J 12 (.zj),
 J 4 (.alloc 114 [(.d .jl)]),
 N (.store 1 (.t 4) (.t 12))] 3)
(.seq
(F [M 13 0,
 J 14 (.call (C 106) [(.t 13)]),
 J 15 (.sE (.func 122) [] [(.t 4)]),
 J 16 (.call (C 121) [(.t 14),(.t 15)]),
 M 5 16] 5)
(.seq
(.seq
(F [J 6 (.mv (B true))] 1)
(.block 0
(.loop
(.seq
(.seq
(F [M 17 6] 1)
(.cond (.t 17)
.skip
(.exit 0)))
(.block 1
(.seq
(F [M 18 5,
 J 19 (.len (.t 18)),
 M 7 19] 3)
(.seq
(F [M 20 5,
 M 21 3,
 J 22 (.sE (.func 123) [(.t 21)] []),
 J 23 (.call (C 121) [(.t 20),(.t 22)]),
 M 5 23] 5)
(F [M 24 5,
 J 25 (.len (.t 24)),
 M 26 7,
 J 27 (.bin .lss (.t 25) (.t 26)),
 M 6 27] 5))))))))
(.seq
(F [M 28 3,
 M 2 28] 2)
.ret))))))
def rv:List RV:=[.tmp 2]
theorem enter:En Tryz.prog 69 29 s rv:=En.mk (c:= Tryz.f69.body.getD .ret) Tryz.func69 rfl (by kernel_rfl) (by kernel_rfl) (by kernel_rfl) (by kernel_rfl)
end tree_New
namespace shape_Shape_Why
abbrev f:Nat:=70
def s:bX:=(.seq
(F [J 2 (.box 29 (.t 0)),
 J 3 (.box 43 (.t 1)),
 J 4 (.mv (Z 0))] 3)
(.seq
(.seq
(F [J 10 (.load none (.t 2)),
 J 11 (.call (C 115) [(.t 10)])] 2)
(.cond (.t 11)
(.seq
(F [J 4 (.mv (Z 1))] 1)
.ret)
.skip))
(.seq
(F [J 13 (.load none (.t 2)),
 J 14 (.aV 15 (.t 3)),
 J 15 (.load (some 2) (.t 14)),
 J 16 (.load (some 29) (.t 3)),
 J 17 (.call (C 124) [(.t 13),(.t 15),(.t 16)]),
 M 12 17,
 J 18 (.ext 0 (.t 12)),
 J 19 (.ext 1 (.t 12)),
 J 5 (.alloc 158 [b8 0,aB 0,b8 0,aB 0,b8 0,aB 0,aB 0,b8 0,b8 0,bL 0,i6 0]),
 J 6 (.alloc 4 [(.d (.bool false))]),
 N (.store 11 (.t 5) (.t 18)),
 N (.store 1 (.t 6) (.t 19))] 12)
(.seq
(F [J 20 (.aV 14 (.t 3)),
 J 21 (.load none (.t 20)),
 J 22 (.bin .eql (.t 21) (.k (b8 0))),
 J 7 (.alloc 4 [(.d (.bool false))]),
 N (.store 1 (.t 7) (.t 22))] 5)
(.seq
(.seq
(F (J 23 (.sE (.func 125) [] [(.t 3)])::
 J 24 (.fE [i6 0,(.d .fS)] [(0,1,(Z 2)),(1,1,(.t 23))])::
 J 25 (.sE (.func 126) [] [(.t 2),(.t 3)])::
 J 26 (.fE [i6 0,(.d .fS)] [(0,1,(Z 271)),(1,1,(.t 25))])::
 J 27 (.sE (.func 128) [] [(.t 7),(.t 6)])::
 J 28 (.fE [i6 0,(.d .fS)] [(0,1,(Z 272)),(1,1,(.t 27))])::
 J 29 (.sE (.func 129) [] [(.t 7),(.t 5),(.t 3)])::
 J 30 (.fE [i6 0,(.d .fS)] [(0,1,(Z 273)),(1,1,(.t 29))])::
 J 31 (.sE (.func 130) [] [(.t 5),(.t 3)])::
 J 32 (.fE [i6 0,(.d .fS)] [(0,1,(Z 274)),(1,1,(.t 31))])::
 J 33 (.sE (.func 132) [] [(.t 3),(.t 2)])::
 J 34 (.fE [i6 0,(.d .fS)] [(0,1,(Z 275)),(1,1,(.t 33))])::
 J 35 (.sE (.func 134) [] [(.t 2),(.t 3)])::
 J 36 (.fE [i6 0,(.d .fS)] [(0,1,(Z 276)),(1,1,(.t 35))])::
 J 37 (.fE [i6 0,(.d .fS),i6 0,(.d .fS),i6 0,(.d .fS),i6 0,(.d .fS),i6 0,(.d .fS),i6 0,(.d .fS),i6 0,(.d .fS)] [(0,2,(.t 24)),(2,2,(.t 26)),(4,2,(.t 28)),(6,2,(.t 30)),(8,2,(.t 32)),(10,2,(.t 34)),(12,2,(.t 36))])::
 J 38 (.mv (Z 0))::[]) 16)
(.block 0
(.loop
(.seq
(F [J 39 (.bin .lss (.t 38) (Z 7))] 1)
(.seq
(.cond (.t 39)
.skip
(.exit 0))
(.seq
(.block 1
(.seq
(F [J 40 (.index 7 2 true (.t 37) (.t 38)),
 J 9 (.alloc 171 [i6 0,(.d .fS)]),
 N (.store 2 (.t 9) (.t 40))] 3)
(.seq
(F [J 41 (.aV 1 (.t 9)),
 J 42 (.load none (.t 41)),
 J 43 (.call (.t 42) [])] 3)
(.cond (.t 43)
(.seq
(F [J 44 (.aV 0 (.t 9)),
 J 45 (.load none (.t 44)),
 M 4 45] 3)
.ret)
.skip))))
(F [J 46 (.bin .add (.t 38) (Z 1)),
 M 38 46] 2)))))))
(.seq
(F [J 4 (.mv (Z 0))] 1)
.ret))))))
def rv:List RV:=[.tmp 4]
theorem enter:En Tryz.prog 70 47 s rv:=En.mk (c:= Tryz.f70.body.getD .ret) Tryz.func70 rfl (by kernel_rfl) (by kernel_rfl) (by kernel_rfl) (by kernel_rfl)
end shape_Shape_Why
namespace dot_Sort
abbrev f:Nat:=77
def s:bX:=(.seq
(F [J 2 (.mv (.k (.d .aU)))] 1)
(.seq
(F [M 3 0,
 J 4 (.call (C 139) [(.t 3)]),
 J 5 (.call (C 140) [(.t 4)]),
 M 2 5] 4)
.ret))
def rv:List RV:=[.tmp 2]
theorem enter:En Tryz.prog 77 6 s rv:=En.mk (c:= Tryz.f77.body.getD .ret) Tryz.func77 rfl (by kernel_rfl) (by kernel_rfl) (by kernel_rfl) (by kernel_rfl)
end dot_Sort
namespace vector_Covers
abbrev f:Nat:=85
def s:bX:=(.seq
(F [J 2 (.box 39 (.t 0)),
 J 3 (.box 37 (.t 1)),
 J 4 (.mv (B false))] 3)
(.seq
(.ey [J 5 (.load (some 2) (.t 3)),
 J 6 (.call (C 141) [(.t 5)]),
 M 7 6,
 H 8 (.aV 0 (.t 3)) 7 true,
 H 9 (.load none (.t 8)) 7 true,
 H 10 (.qk 8 1 (.t 2) (.t 9)) 7 true,
 H 11 (.load none (.t 10)) 7 true,
 H 12 (.aV 1 (.t 3)) 7 true,
 H 13 (.load none (.t 12)) 7 true,
 H 14 (.bin .geq (.t 11) (.t 13)) 7 true,
 J 15 (.pick (.t 7) (.t 14) (B false)),
 M 4 15] [0,
1,
3,
7,
15,
31,
63,
7,
135,
511,
1023,
2047] true)
.ret))
def rv:List RV:=[.tmp 4]
theorem enter:En Tryz.prog 85 16 s rv:=En.mk (c:= Tryz.f85.body.getD .ret) Tryz.func85 rfl (by kernel_rfl) (by kernel_rfl) (by kernel_rfl) (by kernel_rfl)
end vector_Covers
namespace slices_Clone_Lapi_Claim_api_Claim
abbrev f:Nat:=104
def s:bX:=(.seq
(F [J 2 (.mv (.k (.d .aU)))] 1)
(.seq
(.seq
(F [M 3 0,
 J 4 (.gX false 3 (.t 3))] 2)
(.cond (.t 4)
(.seq
(F [J 2 (.mv (.k (.d .aU)))] 1)
.ret)
.skip))
(.seq
(F [J 5 (.oU 148 4 0 [] []),
 M 6 0,
 J 7 (.app 148 4 16 (.t 5) (.t 6)),
 M 2 7] 4)
.ret)))
def rv:List RV:=[.tmp 2]
theorem enter:En Tryz.prog 104 8 s rv:=En.mk (c:= Tryz.f104.body.getD .ret) Tryz.func104 rfl (by kernel_rfl) (by kernel_rfl) (by kernel_rfl) (by kernel_rfl)
end slices_Clone_Lapi_Claim_api_Claim
namespace slices_Clone_Lapi_Op_api_Op
abbrev f:Nat:=106
def s:bX:=(.seq
(F [J 2 (.mv (.k (.d .aU)))] 1)
(.seq
(.seq
(F [M 3 0,
 J 4 (.gX false 3 (.t 3))] 2)
(.cond (.t 4)
(.seq
(F [J 2 (.mv (.k (.d .aU)))] 1)
.ret)
.skip))
(.seq
(F [J 5 (.oU 43 29 0 [] []),
 M 6 0,
 J 7 (.app 43 29 144 (.t 5) (.t 6)),
 M 2 7] 4)
.ret)))
def rv:List RV:=[.tmp 2]
theorem enter:En Tryz.prog 106 8 s rv:=En.mk (c:= Tryz.f106.body.getD .ret) Tryz.func106 rfl (by kernel_rfl) (by kernel_rfl) (by kernel_rfl) (by kernel_rfl)
end slices_Clone_Lapi_Op_api_Op
namespace ref03_Compare
abbrev f:Nat:=114
def s:bX:=(.seq
(F [J 2 (.box 37 (.t 0)),
 J 3 (.box 37 (.t 1)),
 J 4 (.mv (Z 0))] 3)
(.seq
(.ey (J 7 (.aV 0 (.t 2))::
 J 8 (.load none (.t 7))::
 J 9 (.conv .i64 (.t 8))::
 J 10 (.bin .mul (.t 9) (Z 8589934592))::
 J 11 (.aV 1 (.t 2))::
 J 12 (.load none (.t 11))::
 J 13 (.conv .i64 (.t 12))::
 J 14 (.bin .add (.t 10) (.t 13))::
 J 15 (.aV 0 (.t 3))::
 J 16 (.load none (.t 15))::
 J 17 (.conv .i64 (.t 16))::
 J 18 (.bin .mul (.t 17) (Z 8589934592))::
 J 19 (.aV 1 (.t 3))::
 J 20 (.load none (.t 19))::
 J 21 (.conv .i64 (.t 20))::
 J 22 (.bin .add (.t 18) (.t 21))::
 M 5 14::
 M 6 22::[]) (0::
1::
3::
7::
0::
16::
48::
127::
0::
256::
768::
1792::
0::
4096::
12288::
32512::
255::
131071::[]) true)
(.seq
(.seq
(F [M 23 5,
 M 24 6,
 J 25 (.bin .lss (.t 23) (.t 24))] 3)
(.cond (.t 25)
(.seq
(F [J 4 (.mv (.k (.d (.int .i64 (-1)))))] 1)
.ret)
.skip))
(.seq
(.seq
(F [M 26 5,
 M 27 6,
 J 28 (.bin .gtr (.t 26) (.t 27))] 3)
(.cond (.t 28)
(.seq
(F [J 4 (.mv (Z 1))] 1)
.ret)
.skip))
(.seq
(F [J 4 (.mv (Z 0))] 1)
.ret)))))
def rv:List RV:=[.tmp 4]
theorem enter:En Tryz.prog 114 29 s rv:=En.mk (c:= Tryz.f114.body.getD .ret) Tryz.func114 rfl (by kernel_rfl) (by kernel_rfl) (by kernel_rfl) (by kernel_rfl)
end ref03_Compare
namespace shape_Shape_none
abbrev f:Nat:=115
def s:bX:=(.seq
(F [J 2 (.mv (B false))] 1)
(.seq
(F [M 3 0,
 J 4 (.gX false 0 (.t 3)),
 M 5 4,
 G 6 0 5 false,
 H 7 (.d_ (.t 6)) 5 false,
 H 8 (.aV 1 (.t 7)) 5 false,
 H 9 (.load none (.t 8)) 5 false,
 H 10 (.gX false 1 (.t 9)) 5 false,
 J 11 (.pick (.t 5) (B true) (.t 10)),
 M 2 11] 10)
.ret))
def rv:List RV:=[.tmp 2]
theorem enter:En Tryz.prog 115 12 s rv:=En.mk (c:= Tryz.f115.body.getD .ret) Tryz.func115 rfl (by kernel_rfl) (by kernel_rfl) (by kernel_rfl) (by kernel_rfl)
end shape_Shape_none
namespace slices_SortedFunc_api_Dot
abbrev f:Nat:=116
def s:bX:=(.seq
(F [J 4 (.mv (.k (.d .aU)))] 1)
(.seq
(F [M 6 0,
 J 7 (.call (C 159) [(.t 6)]),
 M 5 7] 3)
(.seq
(F [M 8 5,
 M 9 1,
 J 10 (.call (C 160) [(.t 8),(.t 9)])] 3)
(.seq
(F [M 11 5,
 M 4 11] 2)
.ret))))
def rv:List RV:=[.tmp 4]
theorem enter:En Tryz.prog 116 12 s rv:=En.mk (c:= Tryz.f116.body.getD .ret) Tryz.func116 rfl (by kernel_rfl) (by kernel_rfl) (by kernel_rfl) (by kernel_rfl)
end slices_SortedFunc_api_Dot
namespace maps_Keys_map_api_Dot_api_Op_api_Dot_api_Op
abbrev f:Nat:=117
def s:bX:=(.seq
(F [J 1 (.box 107 (.t 0)),
 J 2 (.mv (.k (.d .fS)))] 2)
(.seq
(F [J 3 (.sE (.func 161) [] [(.t 1)]),
 M 2 3] 2)
.ret))
def rv:List RV:=[.tmp 2]
theorem enter:En Tryz.prog 117 4 s rv:=En.mk (c:= Tryz.f117.body.getD .ret) Tryz.func117 rfl (by kernel_rfl) (by kernel_rfl) (by kernel_rfl) (by kernel_rfl)
end maps_Keys_map_api_Dot_api_Op_api_Dot_api_Op
namespace dot_Compare
abbrev f:Nat:=118
def s:bX:=(.seq
(F [J 2 (.box 37 (.t 0)),
 J 3 (.box 37 (.t 1)),
 J 4 (.mv (Z 0))] 3)
(.seq
(.ey [J 5 (.aV 0 (.t 2)),
 J 6 (.load none (.t 5)),
 J 7 (.aV 0 (.t 3)),
 J 8 (.load none (.t 7)),
 J 9 (.call (C 148) [(.t 6),(.t 8)]),
 J 10 (.aV 1 (.t 2)),
 J 11 (.load none (.t 10)),
 J 12 (.aV 1 (.t 3)),
 J 13 (.load none (.t 12)),
 J 14 (.call (C 149) [(.t 11),(.t 13)]),
 J 15 (.oU 3 1 2 [i6 0,i6 0] [(0,1,(.t 9)),(1,1,(.t 14))]),
 J 16 (.call (C 146) [(.t 15)]),
 M 4 16] [0,
1,
0,
4,
15,
0,
32,
0,
128,
511,
1023,
2047,
4095] true)
.ret))
def rv:List RV:=[.tmp 4]
theorem enter:En Tryz.prog 118 17 s rv:=En.mk (c:= Tryz.f118.body.getD .ret) Tryz.func118 rfl (by kernel_rfl) (by kernel_rfl) (by kernel_rfl) (by kernel_rfl)
end dot_Compare
namespace tree_Tree_Get
abbrev f:Nat:=119
def s:bX:=(.seq
(F [J 3 (.box 37 (.t 1)),
 J 4 (.alloc 158 [b8 0,aB 0,b8 0,aB 0,b8 0,aB 0,aB 0,b8 0,b8 0,bL 0,i6 0]),
 J 5 (.mv (Z 0))] 3)
(.seq
(.seq
(F [M 8 0,
 J 9 (.call (C 162) [(.t 8)])] 2)
(.cond (.t 9)
(.seq
(F [J 10 (.fE [b8 0,aB 0,b8 0,aB 0,b8 0,aB 0,aB 0,b8 0,b8 0,bL 0,i6 0] []),
 N (.store 11 (.t 4) (.t 10)),
 J 5 (.mv (Z 1))] 3)
.ret)
.skip))
(.seq
(.ey [M 12 0,
 J 13 (.d_ (.t 12)),
 J 14 (.aV 0 (.t 13)),
 J 15 (.load none (.t 14)),
 J 16 (.load (some 2) (.t 3)),
 J 17 (.look [true,true] true (.agg [b8 0,aB 0,b8 0,aB 0,b8 0,aB 0,aB 0,b8 0,b8 0,bL 0,i6 0]) (.t 15) (.t 16) true),
 M 11 17,
 J 18 (.ext 0 (.t 11)),
 J 19 (.ext 1 (.t 11)),
 J 6 (.alloc 158 [b8 0,aB 0,b8 0,aB 0,b8 0,aB 0,aB 0,b8 0,b8 0,bL 0,i6 0]),
 N (.store 11 (.t 6) (.t 18)),
 M 7 19] [0,
1,
3,
7,
0,
31,
63,
127,
127,
0,
767,
2047] true)
(.seq
(.seq
(F [M 20 7,
 J 21 (.not (.t 20))] 2)
(.cond (.t 21)
(.seq
(F [J 22 (.fE [b8 0,aB 0,b8 0,aB 0,b8 0,aB 0,aB 0,b8 0,b8 0,bL 0,i6 0] []),
 N (.store 11 (.t 4) (.t 22)),
 J 5 (.mv (Z 7))] 3)
.ret)
.skip))
(.seq
(F [J 23 (.load (some 11) (.t 6)),
 N (.store 11 (.t 4) (.t 23)),
 J 5 (.mv (Z 0))] 3)
.ret)))))
def rv:List RV:=[.cell 4 (some 11),.tmp 5]
theorem enter:En Tryz.prog 119 24 s rv:=En.mk (c:= Tryz.f119.body.getD .ret) Tryz.func119 rfl (by kernel_rfl) (by kernel_rfl) (by kernel_rfl) (by kernel_rfl)
end tree_Tree_Get
namespace tree_Tree_up
abbrev f:Nat:=120
def s:bX:=(.seq
(F [J 2 (.box 105 (.t 0)),
 J 3 (.box 37 (.t 1)),
 J 4 (.mv (.k (.d .fS)))] 3)
(.seq
(F [J 5 (.sE (.func 163) [] [(.t 2),(.t 3)]),
 M 4 5] 2)
.ret))
def rv:List RV:=[.tmp 4]
theorem enter:En Tryz.prog 120 6 s rv:=En.mk (c:= Tryz.f120.body.getD .ret) Tryz.func120 rfl (by kernel_rfl) (by kernel_rfl) (by kernel_rfl) (by kernel_rfl)
end tree_Tree_up
namespace slices_DeleteFunc_Lapi_Op_api_Op
abbrev f:Nat:=121
def s:bX:=(.seq
(F [J 4 (.mv (.k (.d .aU)))] 1)
(.seq
(F [M 8 0,
 M 9 1,
 J 10 (.call (C 164) [(.t 8),(.t 9)]),
 M 5 10] 4)
(.seq
(.seq
(F [M 11 5,
 J 12 (.bin .eql (.t 11) (.k (.d (.int .i64 (-1)))))] 2)
(.cond (.t 12)
(.seq
(F [M 13 0,
 M 4 13] 2)
.ret)
.skip))
(.seq
(.seq
(F [M 14 5,
 J 15 (.bin .add (.t 14) (Z 1)),
 M 6 15] 3)
(.block 0
(.loop
(.seq
(.seq
(F [M 16 6,
 M 17 0,
 J 18 (.len (.t 17)),
 J 19 (.bin .lss (.t 16) (.t 18))] 4)
(.cond (.t 19)
.skip
(.exit 0)))
(.seq
(.block 1
(.seq
(F [M 22 0,
 M 23 6,
 J 24 (.ew 29 (.t 22) (.t 23)),
 J 25 (.load (some 29) (.t 24)),
 J 7 (.alloc 43 bU),
 N (.store 29 (.t 7) (.t 25))] 6)
(.seq
(F [M 26 1,
 J 27 (.load (some 29) (.t 7)),
 J 28 (.call (.t 26) [(.t 27)]),
 J 29 (.not (.t 28))] 4)
(.cond (.t 29)
(.seq
(F [M 30 0,
 M 31 5,
 J 32 (.load (some 29) (.t 7)),
 J 33 (.ew 29 (.t 30) (.t 31)),
 N (.store 29 (.t 33) (.t 32))] 5)
(F [M 34 5,
 J 35 (.bin .add (.t 34) (Z 1)),
 M 5 35] 3))
.skip))))
(F [M 20 6,
 J 21 (.bin .add (.t 20) (Z 1)),
 M 6 21] 3))))))
(.seq
(F [M 36 0,
 M 37 5,
 J 38 (.slc 29 (.t 36) (some (.t 37)) none),
 N (.IS 29 bU (.t 38))] 4)
(.seq
(F [M 39 0,
 M 40 5,
 J 41 (.slc 29 (.t 39) none (some (.t 40))),
 M 4 41] 4)
.ret))))))
def rv:List RV:=[.tmp 4]
theorem enter:En Tryz.prog 121 42 s rv:=En.mk (c:= Tryz.f121.body.getD .ret) Tryz.func121 rfl (by kernel_rfl) (by kernel_rfl) (by kernel_rfl) (by kernel_rfl)
end slices_DeleteFunc_Lapi_Op_api_Op
namespace tree_New_1
abbrev f:Nat:=122
def s:bX:=(.seq
(F [J 2 (.box 43 (.t 0)),
 J 3 (.mv (B false))] 2)
(.seq
(.ey [J 4 (.load none (.t 1)),
 J 5 (.aV 0 (.t 2)),
 J 6 (.load (some 2) (.t 5)),
 J 7 (.look [true,true] true (i6 0) (.t 4) (.t 6) false),
 J 8 (.bin .add (.t 7) (Z 1)),
 J 9 (.rj [true,true] true (i6 0) (.t 4) (.t 6)),
 J 10 (.ext 1 (.t 9)),
 N (.rm (.t 4) (.t 10) (.t 8))] [0,
0,
2,
7,
15,
7,
39,
127] true)
(.seq
(F [J 11 (.load none (.t 1)),
 J 12 (.aV 0 (.t 2)),
 J 13 (.load (some 2) (.t 12)),
 J 14 (.look [true,true] true (i6 0) (.t 11) (.t 13) false),
 J 15 (.bin .gtr (.t 14) (Z 1)),
 M 16 15,
 H 17 (.aV 14 (.t 2)) 16 false,
 H 18 (.load none (.t 17)) 16 false,
 H 19 (.bin .gtr (.t 18) (.k (b8 1))) 16 false,
 J 20 (.pick (.t 16) (B true) (.t 19)),
 M 3 20] 11)
.ret)))
def rv:List RV:=[.tmp 3]
theorem enter:En Tryz.prog 122 21 s rv:=En.mk (c:= Tryz.f122.body.getD .ret) Tryz.func122 rfl (by kernel_rfl) (by kernel_rfl) (by kernel_rfl) (by kernel_rfl)
end tree_New_1
namespace tree_Tree_put
abbrev f:Nat:=123
def s:bX:=(.seq
(F [J 3 (.box 43 (.t 1)),
 J 4 (.mv (B false))] 2)
(.seq
(F [J 6 (.aV 0 (.t 3)),
 J 7 (.load (some 2) (.t 6)),
 J 8 (.aV 0 (.t 3)),
 J 9 (.load (some 2) (.t 8)),
 J 10 (.aV 11 (.t 3)),
 J 11 (.load none (.t 10)),
 J 12 (.fE [b8 0,aB 0,b8 0,aB 0,b8 0,aB 0,aB 0,b8 0,b8 0,bL 0,i6 0] [(0,2,(.t 7)),(2,2,(.t 9)),(6,1,(.t 11)),(7,1,(.k (b8 7))),(8,1,(.k (b8 8))),(9,1,(.k (bL 1099511627776)))]),
 J 5 (.alloc 158 [b8 0,aB 0,b8 0,aB 0,b8 0,aB 0,aB 0,b8 0,b8 0,bL 0,i6 0]),
 N (.store 11 (.t 5) (.t 12))] 9)
(.seq
(.block 0
(.seq
(F (J 14 (.aV 14 (.t 3))::
 J 15 (.load none (.t 14))::
 J 16 (.bin .eql (.t 15) (.k (b8 0)))::
 M 17 16::
 H 18 (.aV 12 (.t 3)) 17 true::
 H 19 (.load (some 2) (.t 18)) 17 true::
 H 20 (.aV 0 (.t 3)) 17 true::
 H 21 (.load (some 2) (.t 20)) 17 true::
 H 22 (.eqv true [true,true] (.t 19) (.t 21)) 17 true::
 J 23 (.pick (.t 17) (.t 22) (B false))::
 M 24 23::
 H 25 (.aV 14 (.t 3)) 24 false::
 H 26 (.load none (.t 25)) 24 false::
 H 27 (.bin .eql (.t 26) (.k (b8 1))) 24 false::
 G 28 27 24 false::
 G 29 0 28 true::
 H 30 (.load (some 29) (.t 3)) 28 true::
 H 31 (.call (C 133) [(.t 29),(.t 30)]) 28 true::
 H 32 (.bin .neq (.t 31) (Z 0)) 28 true::
 H 33 (.pick (.t 28) (.t 32) (B false)) 24 false::
 J 34 (.pick (.t 24) (B true) (.t 33))::
 M 13 34::[]) 22)
(.cond (.t 13)
(.seq
(F [J 4 (.mv (B false))] 1)
.ret)
(.seq
(F [J 36 (.aV 14 (.t 3)),
 J 37 (.load none (.t 36)),
 J 38 (.bin .eql (.t 37) (.k (b8 1))),
 M 35 38] 4)
(.cond (.t 35)
(.ey (J 39 (.aV 0 (.t 3))::
 J 40 (.load (some 2) (.t 39))::
 J 41 (.aV 12 (.t 3))::
 J 42 (.load (some 2) (.t 41))::
 J 43 (.aV 15 (.t 3))::
 J 44 (.load (some 2) (.t 43))::
 J 45 (.aV 17 (.t 3))::
 J 46 (.load none (.t 45))::
 J 47 (.aV 18 (.t 3))::
 J 48 (.load none (.t 47))::
 J 49 (.aV 19 (.t 3))::
 J 50 (.load none (.t 49))::
 J 51 (.aV 20 (.t 3))::
 J 52 (.load none (.t 51))::
 M 53 0::
 J 54 (.d_ (.t 53))::
 J 55 (.aV 0 (.t 54))::
 J 56 (.load none (.t 55))::
 J 57 (.aV 15 (.t 3))::
 J 58 (.load (some 2) (.t 57))::
 J 59 (.look [true,true] true (.agg [b8 0,aB 0,b8 0,aB 0,b8 0,aB 0,aB 0,b8 0,b8 0,bL 0,i6 0]) (.t 56) (.t 58) false)::
 J 60 (.field 10 none (.t 59))::
 J 61 (.bin .add (.t 60) (Z 1))::
 J 62 (.fE [b8 0,aB 0,b8 0,aB 0,b8 0,aB 0,aB 0,b8 0,b8 0,bL 0,i6 0] [(0,2,(.t 40)),(2,2,(.t 42)),(4,2,(.t 44)),(6,1,(.t 46)),(7,1,(.t 48)),(8,1,(.t 50)),(9,1,(.t 52)),(10,1,(.t 61))])::
 N (.store 11 (.t 5) (.t 62))::[]) (0::
1::
0::
4::
0::
16::
0::
64::
0::
256::
0::
1024::
0::
4096::
0::
16384::
49152::
114688::
0::
262144::
1032192::
2080768::
4177920::
8388607::
16777215::[]) true)
.skip)))))
(.seq
(.ey (M 63 0::
 J 64 (.d_ (.t 63))::
 J 65 (.aV 0 (.t 64))::
 J 66 (.load none (.t 65))::
 J 67 (.aV 0 (.t 3))::
 J 68 (.load (some 2) (.t 67))::
 M 69 0::
 J 70 (.d_ (.t 69))::
 J 71 (.aV 1 (.t 70))::
 J 72 (.load none (.t 71))::
 J 73 (.aV 0 (.t 3))::
 J 74 (.load (some 2) (.t 73))::
 J 75 (.load (some 11) (.t 5))::
 J 76 (.load (some 29) (.t 3))::
 J 77 (.rj [true,true] true (.agg [b8 0,aB 0,b8 0,aB 0,b8 0,aB 0,aB 0,b8 0,b8 0,bL 0,i6 0]) (.t 66) (.t 68))::
 J 78 (.ext 1 (.t 77))::
 N (.rm (.t 66) (.t 78) (.t 75))::
 J 79 (.rj [true,true] true (.agg bU) (.t 72) (.t 74))::
 J 80 (.ext 1 (.t 79))::
 N (.rm (.t 72) (.t 80) (.t 76))::[]) (0::
1::
3::
7::
0::
16::
0::
64::
192::
448::
0::
1024::
0::
0::
1023::
17407::
54271::
122879::
253951::
524287::[]) true)
(.seq
(F [J 4 (.mv (B true))] 1)
.ret)))))
def rv:List RV:=[.tmp 4]
theorem enter:En Tryz.prog 123 81 s rv:=En.mk (c:= Tryz.f123.body.getD .ret) Tryz.func123 rfl (by kernel_rfl) (by kernel_rfl) (by kernel_rfl) (by kernel_rfl)
end tree_Tree_put
namespace shape_Shape_cred
abbrev f:Nat:=124
def s:bX:=(.seq
(F [J 4 (.box 37 (.t 1)),
 J 5 (.box 43 (.t 2)),
 J 6 (.alloc 158 [b8 0,aB 0,b8 0,aB 0,b8 0,aB 0,aB 0,b8 0,b8 0,bL 0,i6 0]),
 J 7 (.mv (B false))] 4)
(.seq
(.ey [M 11 0,
 J 12 (.d_ (.t 11)),
 J 13 (.aV 0 (.t 12)),
 J 14 (.load none (.t 13)),
 J 15 (.load (some 2) (.t 4)),
 J 16 (.call (C 119) [(.t 14),(.t 15)]),
 M 10 16,
 J 17 (.ext 0 (.t 10)),
 J 18 (.ext 1 (.t 10)),
 J 8 (.alloc 158 [b8 0,aB 0,b8 0,aB 0,b8 0,aB 0,aB 0,b8 0,b8 0,bL 0,i6 0]),
 N (.store 11 (.t 8) (.t 17)),
 M 9 18] [0,
1,
3,
7,
0,
31,
63,
127,
127,
0,
767,
2047] true)
(.seq
(.ey (J 19 (.load (some 11) (.t 8))::
 M 20 9::
 J 21 (.bin .eql (.t 20) (Z 0))::
 M 22 21::
 H 23 (.aV 2 (.t 8)) 22 true::
 H 24 (.load (some 2) (.t 23)) 22 true::
 H 25 (.aV 12 (.t 5)) 22 true::
 H 26 (.load (some 2) (.t 25)) 22 true::
 H 27 (.eqv false [true,true] (.t 24) (.t 26)) 22 true::
 J 28 (.pick (.t 22) (.t 27) (B false))::
 M 29 28::
 G 30 0 29 true::
 H 31 (.load (some 2) (.t 4)) 29 true::
 H 32 (.load (some 29) (.t 5)) 29 true::
 H 33 (.call (C 165) [(.t 30),(.t 31),(.t 32)]) 29 true::
 J 34 (.pick (.t 29) (.t 33) (B false))::
 N (.store 11 (.t 6) (.t 19))::
 M 7 34::[]) (0::
0::
2::
6::
14::
30::
14::
78::
254::
510::
1022::
2046::
2046::
2046::
16382::
32766::
32767::
131071::[]) true)
.ret)))
def rv:List RV:=[.cell 6 (some 11),.tmp 7]
theorem enter:En Tryz.prog 124 35 s rv:=En.mk (c:= Tryz.f124.body.getD .ret) Tryz.func124 rfl (by kernel_rfl) (by kernel_rfl) (by kernel_rfl) (by kernel_rfl)
end shape_Shape_cred
namespace shape_Shape_Why_1
abbrev f:Nat:=125
def s:bX:=(.seq
(F [J 1 (.mv (B false))] 1)
(.seq
(F [J 2 (.aV 14 (.t 0)),
 J 3 (.load none (.t 2)),
 J 4 (.bin .gtr (.t 3) (.k (b8 8))),
 M 1 4] 4)
.ret))
def rv:List RV:=[.tmp 1]
theorem enter:En Tryz.prog 125 5 s rv:=En.mk (c:= Tryz.f125.body.getD .ret) Tryz.func125 rfl (by kernel_rfl) (by kernel_rfl) (by kernel_rfl) (by kernel_rfl)
end shape_Shape_Why_1
namespace shape_Shape_Why_2
abbrev f:Nat:=126
def s:bX:=(.seq
(F [J 2 (.mv (B false))] 1)
(.seq
(F [J 3 (.load none (.t 0)),
 J 4 (.load (some 29) (.t 1)),
 J 5 (.call (C 127) [(.t 3),(.t 4)]),
 J 6 (.not (.t 5)),
 M 2 6] 5)
.ret))
def rv:List RV:=[.tmp 2]
theorem enter:En Tryz.prog 126 7 s rv:=En.mk (c:= Tryz.f126.body.getD .ret) Tryz.func126 rfl (by kernel_rfl) (by kernel_rfl) (by kernel_rfl) (by kernel_rfl)
end shape_Shape_Why_2
namespace shape_Shape_cart
abbrev f:Nat:=127
def s:bX:=(.seq
(F [J 3 (.box 43 (.t 1)),
 J 4 (.mv (B false))] 2)
(.seq
(.ey [M 8 0,
 J 9 (.d_ (.t 8)),
 J 10 (.aV 1 (.t 9)),
 J 11 (.load none (.t 10)),
 J 12 (.aV 12 (.t 3)),
 J 13 (.load (some 2) (.t 12)),
 J 14 (.look [true,true] true (.agg bU) (.t 11) (.t 13) true),
 M 7 14,
 J 15 (.ext 0 (.t 7)),
 J 16 (.ext 1 (.t 7)),
 J 5 (.alloc 43 bU),
 N (.store 29 (.t 5) (.t 15)),
 M 6 16] [0,
1,
3,
7,
0,
16,
63,
127,
255,
255,
0,
1535,
4095] true)
(.seq
(.seq
(F [J 17 (.aV 14 (.t 3)),
 J 18 (.load none (.t 17)),
 J 19 (.bin .eql (.t 18) (.k (b8 0)))] 3)
(.cond (.t 19)
(.seq
(F [J 20 (.aV 12 (.t 3)),
 J 21 (.load (some 2) (.t 20)),
 J 22 (.aV 0 (.t 3)),
 J 23 (.load (some 2) (.t 22)),
 J 24 (.eqv false [true,true] (.t 21) (.t 23)),
 M 4 24] 6)
.ret)
.skip))
(.seq
(F (M 25 6::
 M 26 25::
 H 27 (.aV 14 (.t 5)) 26 true::
 H 28 (.load none (.t 27)) 26 true::
 H 29 (.bin .eql (.t 28) (.k (b8 0))) 26 true::
 J 30 (.pick (.t 26) (.t 29) (B false))::
 M 31 30::
 H 32 (.aV 12 (.t 5)) 31 true::
 H 33 (.load (some 2) (.t 32)) 31 true::
 H 34 (.aV 0 (.t 5)) 31 true::
 H 35 (.load (some 2) (.t 34)) 31 true::
 H 36 (.eqv false [true,true] (.t 33) (.t 35)) 31 true::
 J 37 (.pick (.t 31) (.t 36) (B false))::
 M 38 37::
 H 39 (.load (some 29) (.t 5)) 38 true::
 H 40 (.load (some 29) (.t 3)) 38 true::
 H 41 (.call (C 137) [(.t 39),(.t 40)]) 38 true::
 J 42 (.pick (.t 38) (.t 41) (B false))::
 M 4 42::[]) 19)
.ret))))
def rv:List RV:=[.tmp 4]
theorem enter:En Tryz.prog 127 43 s rv:=En.mk (c:= Tryz.f127.body.getD .ret) Tryz.func127 rfl (by kernel_rfl) (by kernel_rfl) (by kernel_rfl) (by kernel_rfl)
end shape_Shape_cart
namespace shape_Shape_Why_3
abbrev f:Nat:=128
def s:bX:=(.seq
(F [J 2 (.mv (B false))] 1)
(.seq
(F [J 3 (.load none (.t 0)),
 J 4 (.not (.t 3)),
 M 5 4,
 H 6 (.load none (.t 1)) 5 true,
 H 7 (.not (.t 6)) 5 true,
 J 8 (.pick (.t 5) (.t 7) (B false)),
 M 2 8] 7)
.ret))
def rv:List RV:=[.tmp 2]
theorem enter:En Tryz.prog 128 9 s rv:=En.mk (c:= Tryz.f128.body.getD .ret) Tryz.func128 rfl (by kernel_rfl) (by kernel_rfl) (by kernel_rfl) (by kernel_rfl)
end shape_Shape_Why_3
namespace shape_Shape_Why_4
abbrev f:Nat:=129
def s:bX:=(.seq
(F [J 3 (.mv (B false))] 1)
(.seq
(F [J 4 (.load none (.t 0)),
 J 5 (.not (.t 4)),
 M 6 5,
 H 7 (.aV 6 (.t 1)) 6 true,
 H 8 (.load none (.t 7)) 6 true,
 H 9 (.aV 11 (.t 2)) 6 true,
 H 10 (.load none (.t 9)) 6 true,
 H 11 (.bin .neq (.t 8) (.t 10)) 6 true,
 J 12 (.pick (.t 6) (.t 11) (B false)),
 M 3 12] 10)
.ret))
def rv:List RV:=[.tmp 3]
theorem enter:En Tryz.prog 129 13 s rv:=En.mk (c:= Tryz.f129.body.getD .ret) Tryz.func129 rfl (by kernel_rfl) (by kernel_rfl) (by kernel_rfl) (by kernel_rfl)
end shape_Shape_Why_4
namespace shape_Shape_Why_5
abbrev f:Nat:=130
def s:bX:=(.seq
(F [J 2 (.mv (B false))] 1)
(.seq
(.ey [J 3 (.aV 7 (.t 0)),
 J 4 (.load none (.t 3)),
 J 5 (.aV 14 (.t 1)),
 J 6 (.load none (.t 5)),
 J 7 (.call (C 131) [(.t 6)]),
 J 8 (.bin .and (.t 4) (.t 7)),
 J 9 (.aV 14 (.t 1)),
 J 10 (.load none (.t 9)),
 J 11 (.call (C 131) [(.t 10)]),
 J 12 (.bin .neq (.t 8) (.t 11)),
 M 2 12] [0,
1,
0,
4,
12,
31,
0,
64,
220,
511,
1023] true)
.ret))
def rv:List RV:=[.tmp 2]
theorem enter:En Tryz.prog 130 13 s rv:=En.mk (c:= Tryz.f130.body.getD .ret) Tryz.func130 rfl (by kernel_rfl) (by kernel_rfl) (by kernel_rfl) (by kernel_rfl)
end shape_Shape_Why_5
namespace shape_Needs
abbrev f:Nat:=131
def s:bX:=(.seq
(F [J 2 (.mv (.k (b8 0)))] 1)
(.seq
(F [J 4 (.fE [b8 0,b8 0,b8 0,b8 0,b8 0,b8 0,b8 0,b8 0,b8 0] [(1,1,(.k (b8 1))),(2,1,(.k (b8 1))),(3,1,(.k (b8 2))),(4,1,(.k (b8 2))),(5,1,(.k (b8 2))),(6,1,(.k (b8 4))),(7,1,(.k (b8 4))),(8,1,(.k (b8 2)))]),
 J 3 (.alloc 195 [b8 0,b8 0,b8 0,b8 0,b8 0,b8 0,b8 0,b8 0,b8 0]),
 N (.store 9 (.t 3) (.t 4))] 3)
(.seq
(.seq
(F [M 5 0,
 J 6 (.conv .i64 (.t 5)),
 J 7 (.bin .geq (.t 6) (Z 9))] 3)
(.cond (.t 7)
(.seq
(F [J 2 (.mv (.k (b8 0)))] 1)
.ret)
.skip))
(.seq
(F [M 8 0,
 J 9 (.qk 9 1 (.t 3) (.t 8)),
 J 10 (.load none (.t 9)),
 M 2 10] 4)
.ret))))
def rv:List RV:=[.tmp 2]
theorem enter:En Tryz.prog 131 11 s rv:=En.mk (c:= Tryz.f131.body.getD .ret) Tryz.func131 rfl (by kernel_rfl) (by kernel_rfl) (by kernel_rfl) (by kernel_rfl)
end shape_Needs
namespace shape_Shape_Why_6
abbrev f:Nat:=132
def s:bX:=(.seq
(F [J 2 (.mv (B false))] 1)
(.seq
(.ey [J 3 (.aV 14 (.t 0)),
 J 4 (.load none (.t 3)),
 J 5 (.bin .eql (.t 4) (.k (b8 1))),
 M 6 5,
 H 7 (.load none (.t 1)) 6 true,
 H 8 (.d_ (.t 7)) 6 true,
 H 9 (.aV 0 (.t 8)) 6 true,
 H 10 (.load none (.t 9)) 6 true,
 H 11 (.load (some 29) (.t 0)) 6 true,
 H 12 (.call (C 133) [(.t 10),(.t 11)]) 6 true,
 H 13 (.bin .neq (.t 12) (Z 0)) 6 true,
 J 14 (.pick (.t 6) (.t 13) (B false)),
 M 2 14] [0,
1,
3,
7,
15,
31,
63,
127,
15,
511,
1023,
2047,
4095] true)
.ret))
def rv:List RV:=[.tmp 2]
theorem enter:En Tryz.prog 132 15 s rv:=En.mk (c:= Tryz.f132.body.getD .ret) Tryz.func132 rfl (by kernel_rfl) (by kernel_rfl) (by kernel_rfl) (by kernel_rfl)
end shape_Shape_Why_6
namespace tree_Tree_Why
abbrev f:Nat:=133
def s:bX:=(.seq
(F [J 2 (.box 105 (.t 0)),
 J 3 (.box 43 (.t 1)),
 J 4 (.mv (Z 0))] 3)
(.seq
(.seq
(F [J 9 (.load none (.t 2)),
 J 10 (.call (C 162) [(.t 9)])] 2)
(.cond (.t 10)
(.seq
(F [J 4 (.mv (Z 1))] 1)
.ret)
.skip))
(.seq
(.ey [J 12 (.load none (.t 2)),
 J 13 (.d_ (.t 12)),
 J 14 (.aV 0 (.t 13)),
 J 15 (.load none (.t 14)),
 J 16 (.aV 15 (.t 3)),
 J 17 (.load (some 2) (.t 16)),
 J 18 (.look [true,true] true (.agg [b8 0,aB 0,b8 0,aB 0,b8 0,aB 0,aB 0,b8 0,b8 0,bL 0,i6 0]) (.t 15) (.t 17) true),
 M 11 18,
 J 19 (.ext 0 (.t 11)),
 J 20 (.ext 1 (.t 11)),
 J 5 (.alloc 158 [b8 0,aB 0,b8 0,aB 0,b8 0,aB 0,aB 0,b8 0,b8 0,bL 0,i6 0]),
 J 6 (.alloc 4 [(.d (.bool false))]),
 N (.store 11 (.t 5) (.t 19)),
 N (.store 1 (.t 6) (.t 20))] [0,
1,
3,
7,
0,
16,
63,
127,
255,
255,
0,
0,
3583,
8191] true)
(.seq
(.seq
(F [J 21 (.sE (.func 166) [] [(.t 3)]),
 J 22 (.fE [i6 0,(.d .fS)] [(0,1,(Z 2)),(1,1,(.t 21))]),
 J 23 (.sE (.func 167) [] [(.t 6),(.t 5),(.t 3),(.t 2)]),
 J 24 (.fE [i6 0,(.d .fS)] [(0,1,(Z 272)),(1,1,(.t 23))]),
 J 25 (.sE (.func 168) [] [(.t 5),(.t 3)]),
 J 26 (.fE [i6 0,(.d .fS)] [(0,1,(Z 273)),(1,1,(.t 25))]),
 J 27 (.sE (.func 169) [] [(.t 5)]),
 J 28 (.fE [i6 0,(.d .fS)] [(0,1,(Z 274)),(1,1,(.t 27))]),
 J 29 (.sE (.func 170) [] [(.t 3),(.t 5)]),
 J 30 (.fE [i6 0,(.d .fS)] [(0,1,(Z 275)),(1,1,(.t 29))]),
 J 31 (.fE [i6 0,(.d .fS),i6 0,(.d .fS),i6 0,(.d .fS),i6 0,(.d .fS),i6 0,(.d .fS)] [(0,2,(.t 22)),(2,2,(.t 24)),(4,2,(.t 26)),(6,2,(.t 28)),(8,2,(.t 30))]),
 J 32 (.mv (Z 0))] 12)
(.block 0
(.loop
(.seq
(F [J 33 (.bin .lss (.t 32) (Z 5))] 1)
(.seq
(.cond (.t 33)
.skip
(.exit 0))
(.seq
(.block 1
(.seq
(F [J 34 (.index 5 2 true (.t 31) (.t 32)),
 J 8 (.alloc 197 [i6 0,(.d .fS)]),
 N (.store 2 (.t 8) (.t 34))] 3)
(.seq
(F [J 35 (.aV 1 (.t 8)),
 J 36 (.load none (.t 35)),
 J 37 (.call (.t 36) [])] 3)
(.cond (.t 37)
(.seq
(F [J 38 (.aV 0 (.t 8)),
 J 39 (.load none (.t 38)),
 M 4 39] 3)
.ret)
.skip))))
(F [J 40 (.bin .add (.t 32) (Z 1)),
 M 32 40] 2)))))))
(.seq
(F [J 4 (.mv (Z 0))] 1)
.ret)))))
def rv:List RV:=[.tmp 4]
theorem enter:En Tryz.prog 133 41 s rv:=En.mk (c:= Tryz.f133.body.getD .ret) Tryz.func133 rfl (by kernel_rfl) (by kernel_rfl) (by kernel_rfl) (by kernel_rfl)
end tree_Tree_Why
namespace shape_Shape_Why_7
abbrev f:Nat:=134
def s:bX:=(.seq
(F [J 2 (.mv (B false))] 1)
(.seq
(F [J 3 (.load none (.t 0)),
 J 4 (.load (some 29) (.t 1)),
 J 5 (.call (C 135) [(.t 3),(.t 4)]),
 J 6 (.not (.t 5)),
 M 2 6] 5)
.ret))
def rv:List RV:=[.tmp 2]
theorem enter:En Tryz.prog 134 7 s rv:=En.mk (c:= Tryz.f134.body.getD .ret) Tryz.func134 rfl (by kernel_rfl) (by kernel_rfl) (by kernel_rfl) (by kernel_rfl)
end shape_Shape_Why_7
namespace shape_Shape_target
abbrev f:Nat:=135
def s:bX:=(.seq
(F [J 2 (.box 29 (.t 0)),
 J 3 (.box 43 (.t 1)),
 J 4 (.mv (B false))] 3)
(.seq
(.seq
(F [J 7 (.aV 14 (.t 3)),
 J 8 (.load none (.t 7))] 2)
(.block 0
(.seq
(F [J 10 (.bin .eql (.t 8) (.k (b8 2))),
 M 9 10] 2)
(.cond (.t 9)
(.seq
(F [J 12 (.load none (.t 2)),
 J 13 (.aV 21 (.t 3)),
 J 14 (.load (some 2) (.t 13)),
 J 15 (.load (some 29) (.t 3)),
 J 16 (.call (C 124) [(.t 12),(.t 14),(.t 15)]),
 M 11 16,
 J 17 (.ext 0 (.t 11)),
 J 18 (.ext 1 (.t 11)),
 J 5 (.alloc 158 [b8 0,aB 0,b8 0,aB 0,b8 0,aB 0,aB 0,b8 0,b8 0,bL 0,i6 0]),
 N (.store 11 (.t 5) (.t 17)),
 M 6 18] 11)
(.seq
(.ey [M 19 6,
 M 20 19,
 H 21 (.load none (.t 2)) 20 true,
 H 22 (.d_ (.t 21)) 20 true,
 H 23 (.aV 0 (.t 22)) 20 true,
 H 24 (.load none (.t 23)) 20 true,
 H 25 (.aV 15 (.t 3)) 20 true,
 H 26 (.load (some 2) (.t 25)) 20 true,
 H 27 (.aV 21 (.t 3)) 20 true,
 H 28 (.load (some 2) (.t 27)) 20 true,
 H 29 (.call (C 171) [(.t 24),(.t 26),(.t 28)]) 20 true,
 J 30 (.pick (.t 20) (.t 29) (B false)),
 M 4 30] [0,
1,
3,
7,
15,
31,
3,
67,
3,
259,
1023,
2047,
4095] true)
.ret))
(.seq
(.seq
(F [J 32 (.bin .eql (.t 8) (.k (b8 4))),
 M 31 32] 2)
(.cond (.t 31)
.skip
(F [J 33 (.bin .eql (.t 8) (.k (b8 5))),
 M 31 33] 2)))
(.cond (.t 31)
(.seq
(F [J 34 (.load none (.t 2)),
 J 35 (.aV 21 (.t 3)),
 J 36 (.load (some 2) (.t 35)),
 J 37 (.load (some 29) (.t 3)),
 J 38 (.call (C 172) [(.t 34),(.t 36),(.t 37)]),
 M 4 38] 6)
.ret)
(.seq
(.seq
(F [J 40 (.bin .eql (.t 8) (.k (b8 6))),
 M 39 40] 2)
(.cond (.t 39)
.skip
(F [J 41 (.bin .eql (.t 8) (.k (b8 7))),
 M 39 41] 2)))
(.cond (.t 39)
(.seq
(F [J 42 (.load none (.t 2)),
 J 43 (.aV 21 (.t 3)),
 J 44 (.load (some 2) (.t 43)),
 J 45 (.aV 23 (.t 3)),
 J 46 (.load (some 2) (.t 45)),
 J 47 (.fE [b8 0,aB 0,b8 0,aB 0] [(0,2,(.t 44)),(2,2,(.t 46))]),
 J 48 (.load (some 29) (.t 3)),
 J 49 (.call (C 173) [(.t 42),(.t 47),(.t 48)]),
 M 4 49] 9)
.ret)
(.seq
(F [J 51 (.bin .eql (.t 8) (.k (b8 8))),
 M 50 51] 2)
(.cond (.t 50)
(.seq
(F [J 52 (.aV 28 (.t 3)),
 J 53 (.load none (.t 52)),
 J 54 (.sE (.func 175) [] [(.t 2),(.t 3)]),
 J 55 (.call (C 174) [(.t 53),(.t 54)]),
 J 56 (.not (.t 55)),
 M 4 56] 6)
.ret)
.skip))))))))))
(.seq
(F [J 4 (.mv (B true))] 1)
.ret)))
def rv:List RV:=[.tmp 4]
theorem enter:En Tryz.prog 135 57 s rv:=En.mk (c:= Tryz.f135.body.getD .ret) Tryz.func135 rfl (by kernel_rfl) (by kernel_rfl) (by kernel_rfl) (by kernel_rfl)
end shape_Shape_target
namespace order_Before
abbrev f:Nat:=137
def s:bX:=(.seq
(F [J 2 (.box 43 (.t 0)),
 J 3 (.box 43 (.t 1)),
 J 4 (.mv (B false))] 3)
(.seq
(F [J 5 (.aV 2 (.t 3)),
 J 6 (.load (some 8) (.t 5)),
 J 7 (.aV 0 (.t 2)),
 J 8 (.load (some 2) (.t 7)),
 J 9 (.call (C 85) [(.t 6),(.t 8)]),
 M 4 9] 6)
.ret))
def rv:List RV:=[.tmp 4]
theorem enter:En Tryz.prog 137 10 s rv:=En.mk (c:= Tryz.f137.body.getD .ret) Tryz.func137 rfl (by kernel_rfl) (by kernel_rfl) (by kernel_rfl) (by kernel_rfl)
end order_Before
namespace dot_setOf
abbrev f:Nat:=139
def s:bX:=(.seq
(F [J 2 (.mv (.k (.d .jl)))] 1)
(.seq
(F [J 6 (.zj),
 M 3 6] 2)
(.seq
(.seq
(F [M 7 0,
 J 8 (.len (.t 7)),
 J 9 (.mv (Z 0))] 3)
(.block 0
(.loop
(.seq
(F [J 10 (.bin .lss (.t 9) (.t 8))] 1)
(.seq
(.cond (.t 10)
.skip
(.exit 0))
(.seq
(.block 1
(.seq
(F [J 11 (.ew 2 (.t 7) (.t 9)),
 J 12 (.load (some 2) (.t 11)),
 J 5 (.alloc 37 [b8 0,aB 0]),
 N (.store 2 (.t 5) (.t 12))] 4)
(F [M 13 3,
 J 14 (.load (some 2) (.t 5)),
 N (.sF [true,true] true (.t 13) (.t 14) (Z 1))] 3)))
(F [J 15 (.bin .add (.t 9) (Z 1)),
 M 9 15] 2)))))))
(.seq
(F [M 16 3,
 M 2 16] 2)
.ret))))
def rv:List RV:=[.tmp 2]
theorem enter:En Tryz.prog 139 17 s rv:=En.mk (c:= Tryz.f139.body.getD .ret) Tryz.func139 rfl (by kernel_rfl) (by kernel_rfl) (by kernel_rfl) (by kernel_rfl)
end dot_setOf
namespace dot_set_list
abbrev f:Nat:=140
def s:bX:=(.seq
(F [J 2 (.mv (.k (.d .aU)))] 1)
(.seq
(F [M 3 0,
 J 4 (.call (C 177) [(.t 3)]),
 J 5 (.call (C 116) [(.t 4),(C 118)]),
 M 2 5] 4)
.ret))
def rv:List RV:=[.tmp 2]
theorem enter:En Tryz.prog 140 6 s rv:=En.mk (c:= Tryz.f140.body.getD .ret) Tryz.func140 rfl (by kernel_rfl) (by kernel_rfl) (by kernel_rfl) (by kernel_rfl)
end dot_set_list
namespace dot_May
abbrev f:Nat:=141
def s:bX:=(.seq
(F [J 1 (.box 37 (.t 0)),
 J 2 (.mv (B false))] 2)
(.seq
(F [J 3 (.aV 0 (.t 1)),
 J 4 (.load none (.t 3)),
 J 5 (.bin .lss (.t 4) (.k (b8 8))),
 M 6 5,
 H 7 (.aV 1 (.t 1)) 6 true,
 H 8 (.load none (.t 7)) 6 true,
 H 9 (.bin .gtr (.t 8) (.k (aB 0))) 6 true,
 J 10 (.pick (.t 6) (.t 9) (B false)),
 M 2 10] 9)
.ret))
def rv:List RV:=[.tmp 2]
theorem enter:En Tryz.prog 141 11 s rv:=En.mk (c:= Tryz.f141.body.getD .ret) Tryz.func141 rfl (by kernel_rfl) (by kernel_rfl) (by kernel_rfl) (by kernel_rfl)
end dot_May
namespace cmp_Or_int
abbrev f:Nat:=146
def s:bX:=(.seq
(F [J 2 (.mv (Z 0))] 1)
(.seq
(F [J 3 (.mv (Z 0))] 1)
(.seq
(.seq
(F [M 6 0,
 J 7 (.len (.t 6)),
 J 8 (.mv (Z 0))] 3)
(.block 0
(.loop
(.seq
(F [J 9 (.bin .lss (.t 8) (.t 7))] 1)
(.seq
(.cond (.t 9)
.skip
(.exit 0))
(.seq
(.block 1
(.seq
(F [J 10 (.ew 1 (.t 6) (.t 8)),
 J 11 (.load none (.t 10)),
 M 5 11] 3)
(.seq
(F [M 12 5,
 M 13 3,
 J 14 (.bin .neq (.t 12) (.t 13))] 3)
(.cond (.t 14)
(.seq
(F [M 15 5,
 M 2 15] 2)
.ret)
.skip))))
(F [J 16 (.bin .add (.t 8) (Z 1)),
 M 8 16] 2)))))))
(.seq
(F [M 17 3,
 M 2 17] 2)
.ret))))
def rv:List RV:=[.tmp 2]
theorem enter:En Tryz.prog 146 18 s rv:=En.mk (c:= Tryz.f146.body.getD .ret) Tryz.func146 rfl (by kernel_rfl) (by kernel_rfl) (by kernel_rfl) (by kernel_rfl)
end cmp_Or_int
namespace cmp_Compare_uint8
abbrev f:Nat:=148
def s:bX:=(.seq
(F [J 4 (.mv (Z 0))] 1)
(.seq
(F [M 7 0,
 J 8 (.call (C 179) [(.t 7)]),
 M 5 8] 3)
(.seq
(F [M 9 1,
 J 10 (.call (C 179) [(.t 9)]),
 M 6 10] 3)
(.seq
(.seq
(F [M 11 5] 1)
(.cond (.t 11)
(.seq
(.seq
(F [M 12 6] 1)
(.cond (.t 12)
(.seq
(F [J 4 (.mv (Z 0))] 1)
.ret)
.skip))
(.seq
(F [J 4 (.mv (.k (.d (.int .i64 (-1)))))] 1)
.ret))
.skip))
(.seq
(.seq
(F [M 13 6] 1)
(.cond (.t 13)
(.seq
(F [J 4 (.mv (Z 1))] 1)
.ret)
.skip))
(.seq
(.seq
(F [M 14 0,
 M 15 1,
 J 16 (.bin .lss (.t 14) (.t 15))] 3)
(.cond (.t 16)
(.seq
(F [J 4 (.mv (.k (.d (.int .i64 (-1)))))] 1)
.ret)
.skip))
(.seq
(.seq
(F [M 17 0,
 M 18 1,
 J 19 (.bin .gtr (.t 17) (.t 18))] 3)
(.cond (.t 19)
(.seq
(F [J 4 (.mv (Z 1))] 1)
.ret)
.skip))
(.seq
(F [J 4 (.mv (Z 0))] 1)
.ret))))))))
def rv:List RV:=[.tmp 4]
theorem enter:En Tryz.prog 148 20 s rv:=En.mk (c:= Tryz.f148.body.getD .ret) Tryz.func148 rfl (by kernel_rfl) (by kernel_rfl) (by kernel_rfl) (by kernel_rfl)
end cmp_Compare_uint8
namespace cmp_Compare_uint32
abbrev f:Nat:=149
def s:bX:=(.seq
(F [J 4 (.mv (Z 0))] 1)
(.seq
(F [M 7 0,
 J 8 (.call (C 180) [(.t 7)]),
 M 5 8] 3)
(.seq
(F [M 9 1,
 J 10 (.call (C 180) [(.t 9)]),
 M 6 10] 3)
(.seq
(.seq
(F [M 11 5] 1)
(.cond (.t 11)
(.seq
(.seq
(F [M 12 6] 1)
(.cond (.t 12)
(.seq
(F [J 4 (.mv (Z 0))] 1)
.ret)
.skip))
(.seq
(F [J 4 (.mv (.k (.d (.int .i64 (-1)))))] 1)
.ret))
.skip))
(.seq
(.seq
(F [M 13 6] 1)
(.cond (.t 13)
(.seq
(F [J 4 (.mv (Z 1))] 1)
.ret)
.skip))
(.seq
(.seq
(F [M 14 0,
 M 15 1,
 J 16 (.bin .lss (.t 14) (.t 15))] 3)
(.cond (.t 16)
(.seq
(F [J 4 (.mv (.k (.d (.int .i64 (-1)))))] 1)
.ret)
.skip))
(.seq
(.seq
(F [M 17 0,
 M 18 1,
 J 19 (.bin .gtr (.t 17) (.t 18))] 3)
(.cond (.t 19)
(.seq
(F [J 4 (.mv (Z 1))] 1)
.ret)
.skip))
(.seq
(F [J 4 (.mv (Z 0))] 1)
.ret))))))))
def rv:List RV:=[.tmp 4]
theorem enter:En Tryz.prog 149 20 s rv:=En.mk (c:= Tryz.f149.body.getD .ret) Tryz.func149 rfl (by kernel_rfl) (by kernel_rfl) (by kernel_rfl) (by kernel_rfl)
end cmp_Compare_uint32
namespace slices_Collect_api_Dot
abbrev f:Nat:=159
def s:bX:=(.seq
(F [J 2 (.mv (.k (.d .aU)))] 1)
(.seq
(F [M 3 0,
 J 4 (.call (C 189) [(.k (.d .aU)),(.t 3)]),
 M 2 4] 3)
.ret))
def rv:List RV:=[.tmp 2]
theorem enter:En Tryz.prog 159 5 s rv:=En.mk (c:= Tryz.f159.body.getD .ret) Tryz.func159 rfl (by kernel_rfl) (by kernel_rfl) (by kernel_rfl) (by kernel_rfl)
end slices_Collect_api_Dot
namespace slices_SortFunc_Lapi_Dot_api_Dot
abbrev f:Nat:=160
end slices_SortFunc_Lapi_Dot_api_Dot
namespace maps_Keys_map_api_Dot_api_Op_api_Dot_api_Op_1
abbrev f:Nat:=161
def s:bX:=(.seq
(F [J 4 (.load none (.t 1)),
 J 5 (.lI (.t 4))] 2)
(.block 0
(.loop
(.seq
(F [J 6 (.jY (.t 5)),
 J 7 (.ext 0 (.t 6))] 2)
(.seq
(.cond (.t 7)
.skip
(.exit 0))
(.block 1
(.seq
(F [J 8 (.mI (.t 5)),
 J 9 (.ext 0 (.t 8)),
 J 3 (.alloc 37 [b8 0,aB 0]),
 N (.store 2 (.t 3) (.t 9))] 4)
(.seq
(F [M 10 0,
 J 11 (.load (some 2) (.t 3)),
 J 12 (.call (.t 10) [(.t 11)]),
 J 13 (.not (.t 12))] 4)
(.cond (.t 13)
.ret
.skip)))))))))
def rv:List RV:=[]
theorem enter:En Tryz.prog 161 14 s rv:=En.mk (c:= Tryz.f161.body.getD .ret) Tryz.func161 rfl (by kernel_rfl) (by kernel_rfl) (by kernel_rfl) (by kernel_rfl)
end maps_Keys_map_api_Dot_api_Op_api_Dot_api_Op_1
namespace tree_Tree_none
abbrev f:Nat:=162
def s:bX:=(.seq
(F [J 2 (.mv (B false))] 1)
(.seq
(F [M 3 0,
 J 4 (.gX false 0 (.t 3)),
 M 5 4,
 G 6 0 5 false,
 H 7 (.d_ (.t 6)) 5 false,
 H 8 (.aV 0 (.t 7)) 5 false,
 H 9 (.load none (.t 8)) 5 false,
 H 10 (.gX false 1 (.t 9)) 5 false,
 J 11 (.pick (.t 5) (B true) (.t 10)),
 M 2 11] 10)
.ret))
def rv:List RV:=[.tmp 2]
theorem enter:En Tryz.prog 162 12 s rv:=En.mk (c:= Tryz.f162.body.getD .ret) Tryz.func162 rfl (by kernel_rfl) (by kernel_rfl) (by kernel_rfl) (by kernel_rfl)
end tree_Tree_none
namespace tree_Tree_up_1
abbrev f:Nat:=163
def s:bX:=(.seq
(.ey [J 7 (.load none (.t 1)),
 J 8 (.d_ (.t 7)),
 J 9 (.aV 0 (.t 8)),
 J 10 (.load none (.t 9)),
 J 11 (.load (some 2) (.t 2)),
 J 12 (.look [true,true] true (.agg [b8 0,aB 0,b8 0,aB 0,b8 0,aB 0,aB 0,b8 0,b8 0,bL 0,i6 0]) (.t 10) (.t 11) true),
 M 6 12,
 J 13 (.ext 0 (.t 6)),
 J 14 (.ext 1 (.t 6)),
 J 4 (.alloc 158 [b8 0,aB 0,b8 0,aB 0,b8 0,aB 0,aB 0,b8 0,b8 0,bL 0,i6 0]),
 N (.store 11 (.t 4) (.t 13)),
 M 5 14] [0,
1,
3,
7,
0,
31,
63,
127,
127,
0,
767,
2047] true)
(.block 0
(.loop
(.seq
(.seq
(F [M 15 5,
 M 16 15,
 G 17 0 16 true,
 H 18 (.load (some 11) (.t 4)) 16 true,
 H 19 (.call (.t 17) [(.t 18)]) 16 true,
 J 20 (.pick (.t 16) (.t 19) (B false)),
 M 21 20,
 H 22 (.aV 10 (.t 4)) 21 true,
 H 23 (.load none (.t 22)) 21 true,
 H 24 (.bin .gtr (.t 23) (Z 0)) 21 true,
 J 25 (.pick (.t 21) (.t 24) (B false))] 11)
(.cond (.t 25)
.skip
(.exit 0)))
(.seq
(.block 1
(.ey [J 27 (.load none (.t 1)),
 J 28 (.d_ (.t 27)),
 J 29 (.aV 0 (.t 28)),
 J 30 (.load none (.t 29)),
 J 31 (.aV 4 (.t 4)),
 J 32 (.load (some 2) (.t 31)),
 J 33 (.look [true,true] true (.agg [b8 0,aB 0,b8 0,aB 0,b8 0,aB 0,aB 0,b8 0,b8 0,bL 0,i6 0]) (.t 30) (.t 32) true),
 M 26 33,
 J 34 (.ext 0 (.t 26)),
 J 35 (.ext 1 (.t 26)),
 N (.store 11 (.t 4) (.t 34)),
 M 5 35] [0,
1,
3,
7,
0,
16,
63,
127,
255,
255,
511,
2047] true))
(.seq
(F [J 36 (.load (some 11) (.t 4))] 1)
(F [J 4 (.alloc 158 [b8 0,aB 0,b8 0,aB 0,b8 0,aB 0,aB 0,b8 0,b8 0,bL 0,i6 0]),
 N (.store 11 (.t 4) (.t 36))] 2)))))))
def rv:List RV:=[]
theorem enter:En Tryz.prog 163 37 s rv:=En.mk (c:= Tryz.f163.body.getD .ret) Tryz.func163 rfl (by kernel_rfl) (by kernel_rfl) (by kernel_rfl) (by kernel_rfl)
end tree_Tree_up_1
namespace slices_IndexFunc_Lapi_Op_api_Op
abbrev f:Nat:=164
def s:bX:=(.seq
(F [J 4 (.mv (Z 0))] 1)
(.seq
(.seq
(F [M 6 0,
 J 7 (.len (.t 6)),
 J 8 (.mv (Z 0))] 3)
(.block 0
(.loop
(.seq
(F [J 9 (.bin .lss (.t 8) (.t 7))] 1)
(.seq
(.cond (.t 9)
.skip
(.exit 0))
(.seq
(.block 1
(.seq
(F [M 10 8,
 M 5 10] 2)
(.seq
(F [M 11 1,
 M 12 0,
 M 13 5,
 J 14 (.ew 29 (.t 12) (.t 13)),
 J 15 (.load (some 29) (.t 14)),
 J 16 (.call (.t 11) [(.t 15)])] 6)
(.cond (.t 16)
(.seq
(F [M 17 5,
 M 4 17] 2)
.ret)
.skip))))
(F [J 18 (.bin .add (.t 8) (Z 1)),
 M 8 18] 2)))))))
(.seq
(F [J 4 (.mv (.k (.d (.int .i64 (-1)))))] 1)
.ret)))
def rv:List RV:=[.tmp 4]
theorem enter:En Tryz.prog 164 19 s rv:=En.mk (c:= Tryz.f164.body.getD .ret) Tryz.func164 rfl (by kernel_rfl) (by kernel_rfl) (by kernel_rfl) (by kernel_rfl)
end slices_IndexFunc_Lapi_Op_api_Op
namespace shape_Shape_before
abbrev f:Nat:=165
def s:bX:=(.seq
(F [J 4 (.box 37 (.t 1)),
 J 5 (.box 43 (.t 2)),
 J 6 (.mv (B false))] 3)
(.seq
(.ey [M 10 0,
 J 11 (.d_ (.t 10)),
 J 12 (.aV 1 (.t 11)),
 J 13 (.load none (.t 12)),
 J 14 (.load (some 2) (.t 4)),
 J 15 (.look [true,true] true (.agg bU) (.t 13) (.t 14) true),
 M 9 15,
 J 16 (.ext 0 (.t 9)),
 J 17 (.ext 1 (.t 9)),
 J 7 (.alloc 43 bU),
 N (.store 29 (.t 7) (.t 16)),
 M 8 17] [0,
1,
3,
7,
0,
31,
63,
127,
127,
0,
767,
2047] true)
(.seq
(F [M 18 8,
 M 19 18,
 H 20 (.load (some 29) (.t 7)) 19 true,
 H 21 (.load (some 29) (.t 5)) 19 true,
 H 22 (.call (C 137) [(.t 20),(.t 21)]) 19 true,
 J 23 (.pick (.t 19) (.t 22) (B false)),
 M 6 23] 7)
.ret)))
def rv:List RV:=[.tmp 6]
theorem enter:En Tryz.prog 165 24 s rv:=En.mk (c:= Tryz.f165.body.getD .ret) Tryz.func165 rfl (by kernel_rfl) (by kernel_rfl) (by kernel_rfl) (by kernel_rfl)
end shape_Shape_before
namespace tree_Tree_Why_1
abbrev f:Nat:=166
def s:bX:=(.seq
(F [J 1 (.mv (B false))] 1)
(.seq
(F [J 2 (.aV 14 (.t 0)),
 J 3 (.load none (.t 2)),
 J 4 (.bin .neq (.t 3) (.k (b8 1))),
 M 1 4] 4)
.ret))
def rv:List RV:=[.tmp 1]
theorem enter:En Tryz.prog 166 5 s rv:=En.mk (c:= Tryz.f166.body.getD .ret) Tryz.func166 rfl (by kernel_rfl) (by kernel_rfl) (by kernel_rfl) (by kernel_rfl)
end tree_Tree_Why_1
namespace tree_Tree_Why_2
abbrev f:Nat:=167
def s:bX:=(.seq
(F [J 4 (.mv (B false))] 1)
(.seq
(.ey (J 5 (.load none (.t 0))::
 J 6 (.not (.t 5))::
 M 7 6::
 H 8 (.aV 2 (.t 1)) 7 false::
 H 9 (.load (some 2) (.t 8)) 7 false::
 H 10 (.aV 12 (.t 2)) 7 false::
 H 11 (.load (some 2) (.t 10)) 7 false::
 H 12 (.eqv true [true,true] (.t 9) (.t 11)) 7 false::
 J 13 (.pick (.t 7) (B true) (.t 12))::
 M 14 13::
 H 15 (.load none (.t 3)) 14 false::
 H 16 (.d_ (.t 15)) 14 false::
 H 17 (.aV 1 (.t 16)) 14 false::
 H 18 (.load none (.t 17)) 14 false::
 H 19 (.aV 15 (.t 2)) 14 false::
 H 20 (.load (some 2) (.t 19)) 14 false::
 H 21 (.look [true,true] true (.agg bU) (.t 18) (.t 20) false) 14 false::
 H 22 (.load (some 29) (.t 2)) 14 false::
 H 23 (.call (C 137) [(.t 21),(.t 22)]) 14 false::
 H 24 (.not (.t 23)) 14 false::
 J 25 (.pick (.t 14) (B true) (.t 24))::
 M 4 25::[]) (0::
1::
3::
7::
15::
7::
39::
127::
255::
511::
1023::
2047::
4095::
8191::
1023::
17407::
65535::
1023::
262143::
524287::
1048575::
2097151::[]) true)
.ret))
def rv:List RV:=[.tmp 4]
theorem enter:En Tryz.prog 167 26 s rv:=En.mk (c:= Tryz.f167.body.getD .ret) Tryz.func167 rfl (by kernel_rfl) (by kernel_rfl) (by kernel_rfl) (by kernel_rfl)
end tree_Tree_Why_2
namespace tree_Tree_Why_3
abbrev f:Nat:=168
def s:bX:=(.seq
(F [J 2 (.mv (B false))] 1)
(.seq
(F [J 3 (.aV 6 (.t 0)),
 J 4 (.load none (.t 3)),
 J 5 (.aV 11 (.t 1)),
 J 6 (.load none (.t 5)),
 J 7 (.bin .neq (.t 4) (.t 6)),
 M 2 7] 6)
.ret))
def rv:List RV:=[.tmp 2]
theorem enter:En Tryz.prog 168 8 s rv:=En.mk (c:= Tryz.f168.body.getD .ret) Tryz.func168 rfl (by kernel_rfl) (by kernel_rfl) (by kernel_rfl) (by kernel_rfl)
end tree_Tree_Why_3
namespace tree_Tree_Why_4
abbrev f:Nat:=169
def s:bX:=(.seq
(F [J 1 (.mv (B false))] 1)
(.seq
(F [J 2 (.aV 7 (.t 0)),
 J 3 (.load none (.t 2)),
 J 4 (.bin .and (.t 3) (.k (b8 1))),
 J 5 (.bin .eql (.t 4) (.k (b8 0))),
 M 1 5] 5)
.ret))
def rv:List RV:=[.tmp 1]
theorem enter:En Tryz.prog 169 6 s rv:=En.mk (c:= Tryz.f169.body.getD .ret) Tryz.func169 rfl (by kernel_rfl) (by kernel_rfl) (by kernel_rfl) (by kernel_rfl)
end tree_Tree_Why_4
namespace tree_Tree_Why_5
abbrev f:Nat:=170
def s:bX:=(.seq
(F [J 2 (.mv (B false))] 1)
(.seq
(F (J 3 (.aV 18 (.t 0))::
 J 4 (.load none (.t 3))::
 J 5 (.bin .eql (.t 4) (.k (b8 0)))::
 M 6 5::
 H 7 (.aV 18 (.t 0)) 6 false::
 H 8 (.load none (.t 7)) 6 false::
 H 9 (.aV 7 (.t 1)) 6 false::
 H 10 (.load none (.t 9)) 6 false::
 H 11 (.bin .andNot (.t 8) (.t 10)) 6 false::
 H 12 (.bin .neq (.t 11) (.k (b8 0))) 6 false::
 J 13 (.pick (.t 6) (B true) (.t 12))::
 M 14 13::
 H 15 (.aV 17 (.t 0)) 14 false::
 H 16 (.load none (.t 15)) 14 false::
 H 17 (.bin .eql (.t 16) (.k (aB 0))) 14 false::
 J 18 (.pick (.t 14) (B true) (.t 17))::
 M 19 18::
 H 20 (.aV 19 (.t 0)) 19 false::
 H 21 (.load none (.t 20)) 19 false::
 H 22 (.aV 8 (.t 1)) 19 false::
 H 23 (.load none (.t 22)) 19 false::
 H 24 (.bin .geq (.t 21) (.t 23)) 19 false::
 J 25 (.pick (.t 19) (B true) (.t 24))::
 M 26 25::
 H 27 (.aV 20 (.t 0)) 26 false::
 H 28 (.load none (.t 27)) 26 false::
 H 29 (.aV 9 (.t 1)) 26 false::
 H 30 (.load none (.t 29)) 26 false::
 H 31 (.bin .gtr (.t 28) (.t 30)) 26 false::
 J 32 (.pick (.t 26) (B true) (.t 31))::
 M 2 32::[]) 31)
.ret))
def rv:List RV:=[.tmp 2]
theorem enter:En Tryz.prog 170 33 s rv:=En.mk (c:= Tryz.f170.body.getD .ret) Tryz.func170 rfl (by kernel_rfl) (by kernel_rfl) (by kernel_rfl) (by kernel_rfl)
end tree_Tree_Why_5
namespace tree_Tree_Above
abbrev f:Nat:=171
def s:bX:=(.seq
(F [J 4 (.box 37 (.t 1)),
 J 5 (.box 37 (.t 2)),
 J 6 (.alloc 4 [(.d (.bool false))])] 3)
(.seq
(.seq
(F [M 8 0,
 J 9 (.call (C 162) [(.t 8)]),
 M 10 9,
 H 11 (.load (some 2) (.t 4)) 10 false,
 H 12 (.load (some 2) (.t 5)) 10 false,
 H 13 (.eqv false [true,true] (.t 11) (.t 12)) 10 false,
 J 14 (.pick (.t 10) (B true) (.t 13))] 7)
(.cond (.t 14)
(.seq
(F [N (.store 1 (.t 6) (B false))] 1)
.ret)
.skip))
(.seq
(.seq
(F [M 15 0,
 J 16 (.load (some 2) (.t 5)),
 J 17 (.call (C 120) [(.t 15),(.t 16)])] 3)
(.block 0
(.mL (.t 17) [18]
(F [J 7 (.alloc 158 [b8 0,aB 0,b8 0,aB 0,b8 0,aB 0,aB 0,b8 0,b8 0,bL 0,i6 0]),
 N (.store 11 (.t 7) (.t 18))] 2)
(.block 1
(.seq
(F [J 19 (.aV 0 (.t 7)),
 J 20 (.load (some 2) (.t 19)),
 J 21 (.load (some 2) (.t 4)),
 J 22 (.eqv false [true,true] (.t 20) (.t 21))] 4)
(.cond (.t 22)
(.seq
(F [N (.store 1 (.t 6) (B true))] 1)
.ret)
.skip))))))
(.seq
(F [N (.store 1 (.t 6) (B false))] 1)
.ret))))
def rv:List RV:=[.cell 6 none]
theorem enter:En Tryz.prog 171 23 s rv:=En.mk (c:= Tryz.f171.body.getD .ret) Tryz.func171 rfl (by kernel_rfl) (by kernel_rfl) (by kernel_rfl) (by kernel_rfl)
end tree_Tree_Above
namespace shape_Shape_line
abbrev f:Nat:=172
def s:bX:=(.seq
(F [J 4 (.box 37 (.t 1)),
 J 5 (.box 43 (.t 2)),
 J 6 (.mv (B false))] 3)
(.seq
(.ey (M 7 0::
 J 8 (.d_ (.t 7))::
 J 9 (.aV 2 (.t 8))::
 J 10 (.load none (.t 9))::
 J 11 (.load (some 2) (.t 4))::
 J 12 (.look [true,true] true (i6 0) (.t 10) (.t 11) false)::
 J 13 (.bin .gtr (.t 12) (Z 0))::
 M 14 13::
 G 15 0 14 true::
 H 16 (.d_ (.t 15)) 14 true::
 H 17 (.aV 1 (.t 16)) 14 true::
 H 18 (.load none (.t 17)) 14 true::
 H 19 (.load (some 2) (.t 4)) 14 true::
 H 20 (.look [true,true] true (.agg bU) (.t 18) (.t 19) false) 14 true::
 H 21 (.field 12 (some 2) (.t 20)) 14 true::
 H 22 (.aV 12 (.t 5)) 14 true::
 H 23 (.load (some 2) (.t 22)) 14 true::
 H 24 (.eqv false [true,true] (.t 21) (.t 23)) 14 true::
 J 25 (.pick (.t 14) (.t 24) (B false))::
 M 26 25::
 G 27 0 26 true::
 H 28 (.load (some 2) (.t 4)) 26 true::
 H 29 (.load (some 29) (.t 5)) 26 true::
 H 30 (.call (C 165) [(.t 27),(.t 28),(.t 29)]) 26 true::
 J 31 (.pick (.t 26) (.t 30) (B false))::
 M 6 31::[]) (0::
1::
3::
7::
0::
31::
63::
127::
255::
511::
1023::
2047::
255::
8191::
16383::
255::
33023::
131071::
262143::
524287::
1048575::
1048575::
1048575::
8388607::
16777215::
33554431::[]) true)
.ret))
def rv:List RV:=[.tmp 6]
theorem enter:En Tryz.prog 172 32 s rv:=En.mk (c:= Tryz.f172.body.getD .ret) Tryz.func172 rfl (by kernel_rfl) (by kernel_rfl) (by kernel_rfl) (by kernel_rfl)
end shape_Shape_line
namespace shape_Shape_claim
abbrev f:Nat:=173
def s:bX:=(.seq
(F [J 4 (.box 148 (.t 1)),
 J 5 (.box 43 (.t 2)),
 J 6 (.mv (B false))] 3)
(.seq
(.ey [M 10 0,
 J 11 (.d_ (.t 10)),
 J 12 (.aV 3 (.t 11)),
 J 13 (.load none (.t 12)),
 J 14 (.aV 2 (.t 4)),
 J 15 (.load (some 2) (.t 14)),
 J 16 (.look [true,true] true (.agg [b8 0,aB 0]) (.t 13) (.t 15) true),
 M 9 16,
 J 17 (.ext 0 (.t 9)),
 J 18 (.ext 1 (.t 9)),
 J 7 (.alloc 37 [b8 0,aB 0]),
 N (.store 2 (.t 7) (.t 17)),
 M 8 18] [0,
1,
3,
7,
0,
16,
63,
127,
255,
255,
0,
1535,
4095] true)
(.seq
(F (M 19 0::
 J 20 (.aV 0 (.t 4))::
 J 21 (.load (some 2) (.t 20))::
 J 22 (.load (some 29) (.t 5))::
 J 23 (.call (C 172) [(.t 19),(.t 21),(.t 22)])::
 M 24 23::
 H 25 (.aV 2 (.t 4)) 24 true::
 H 26 (.load (some 2) (.t 25)) 24 true::
 H 27 (.aV 0 (.t 4)) 24 true::
 H 28 (.load (some 2) (.t 27)) 24 true::
 H 29 (.eqv false [true,true] (.t 26) (.t 28)) 24 true::
 G 30 29 24 true::
 G 31 8 30 false::
 G 32 31 30 false::
 H 33 (.load (some 2) (.t 7)) 32 true::
 H 34 (.aV 0 (.t 4)) 32 true::
 H 35 (.load (some 2) (.t 34)) 32 true::
 H 36 (.eqv false [true,true] (.t 33) (.t 35)) 32 true::
 H 37 (.pick (.t 32) (.t 36) (B false)) 30 false::
 G 38 37 30 false::
 G 39 0 38 true::
 H 40 (.aV 2 (.t 4)) 38 true::
 H 41 (.load (some 2) (.t 40)) 38 true::
 H 42 (.load (some 29) (.t 5)) 38 true::
 H 43 (.call (C 165) [(.t 39),(.t 41),(.t 42)]) 38 true::
 H 44 (.pick (.t 38) (.t 43) (B false)) 30 false::
 H 45 (.pick (.t 30) (B true) (.t 44)) 24 true::
 J 46 (.pick (.t 24) (.t 45) (B false))::
 M 6 46::[]) 29)
.ret)))
def rv:List RV:=[.tmp 6]
theorem enter:En Tryz.prog 173 47 s rv:=En.mk (c:= Tryz.f173.body.getD .ret) Tryz.func173 rfl (by kernel_rfl) (by kernel_rfl) (by kernel_rfl) (by kernel_rfl)
end shape_Shape_claim
namespace slices_ContainsFunc_Lapi_Claim_api_Claim
abbrev f:Nat:=174
def s:bX:=(.seq
(F [J 4 (.mv (B false))] 1)
(.seq
(F [M 5 0,
 M 6 1,
 J 7 (.call (C 192) [(.t 5),(.t 6)]),
 J 8 (.bin .geq (.t 7) (Z 0)),
 M 4 8] 5)
.ret))
def rv:List RV:=[.tmp 4]
theorem enter:En Tryz.prog 174 9 s rv:=En.mk (c:= Tryz.f174.body.getD .ret) Tryz.func174 rfl (by kernel_rfl) (by kernel_rfl) (by kernel_rfl) (by kernel_rfl)
end slices_ContainsFunc_Lapi_Claim_api_Claim
namespace shape_Shape_target_1
abbrev f:Nat:=175
def s:bX:=(.seq
(F [J 3 (.box 148 (.t 0)),
 J 4 (.mv (B false))] 2)
(.seq
(F [J 5 (.load none (.t 1)),
 J 6 (.load (some 4) (.t 3)),
 J 7 (.load (some 29) (.t 2)),
 J 8 (.call (C 173) [(.t 5),(.t 6),(.t 7)]),
 J 9 (.not (.t 8)),
 M 4 9] 6)
.ret))
def rv:List RV:=[.tmp 4]
theorem enter:En Tryz.prog 175 10 s rv:=En.mk (c:= Tryz.f175.body.getD .ret) Tryz.func175 rfl (by kernel_rfl) (by kernel_rfl) (by kernel_rfl) (by kernel_rfl)
end shape_Shape_target_1
namespace maps_Keys_dot_set_api_Dot_int
abbrev f:Nat:=177
def s:bX:=(.seq
(F [J 1 (.box 174 (.t 0)),
 J 2 (.mv (.k (.d .fS)))] 2)
(.seq
(F [J 3 (.sE (.func 194) [] [(.t 1)]),
 M 2 3] 2)
.ret))
def rv:List RV:=[.tmp 2]
theorem enter:En Tryz.prog 177 4 s rv:=En.mk (c:= Tryz.f177.body.getD .ret) Tryz.func177 rfl (by kernel_rfl) (by kernel_rfl) (by kernel_rfl) (by kernel_rfl)
end maps_Keys_dot_set_api_Dot_int
namespace cmp_isNaN_uint8
abbrev f:Nat:=179
def s:bX:=(.seq
(F [J 2 (.mv (B false))] 1)
(.seq
(F [M 3 0,
 M 4 0,
 J 5 (.bin .neq (.t 3) (.t 4)),
 M 2 5] 4)
.ret))
def rv:List RV:=[.tmp 2]
theorem enter:En Tryz.prog 179 6 s rv:=En.mk (c:= Tryz.f179.body.getD .ret) Tryz.func179 rfl (by kernel_rfl) (by kernel_rfl) (by kernel_rfl) (by kernel_rfl)
end cmp_isNaN_uint8
namespace cmp_isNaN_uint32
abbrev f:Nat:=180
def s:bX:=(.seq
(F [J 2 (.mv (B false))] 1)
(.seq
(F [M 3 0,
 M 4 0,
 J 5 (.bin .neq (.t 3) (.t 4)),
 M 2 5] 4)
.ret))
def rv:List RV:=[.tmp 2]
theorem enter:En Tryz.prog 180 6 s rv:=En.mk (c:= Tryz.f180.body.getD .ret) Tryz.func180 rfl (by kernel_rfl) (by kernel_rfl) (by kernel_rfl) (by kernel_rfl)
end cmp_isNaN_uint32
namespace slices_AppendSeq_Lapi_Dot_api_Dot
abbrev f:Nat:=189
def s:bX:=(.seq
(F [J 2 (.box 31 (.t 0)),
 J 4 (.mv (.k (.d .aU)))] 2)
(.seq
(.seq
(F [M 6 1] 1)
(.block 0
(.mL (.t 6) [7]
(F [J 5 (.alloc 37 [b8 0,aB 0]),
 N (.store 2 (.t 5) (.t 7))] 2)
(.block 1
(F [J 8 (.load none (.t 2)),
 J 9 (.load (some 2) (.t 5)),
 J 10 (.oU 37 2 1 [b8 0,aB 0] [(0,2,(.t 9))]),
 J 11 (.app 37 2 8 (.t 8) (.t 10)),
 N (.store 1 (.t 2) (.t 11))] 5)))))
(.seq
(F [J 12 (.load none (.t 2)),
 M 4 12] 2)
.ret)))
def rv:List RV:=[.tmp 4]
theorem enter:En Tryz.prog 189 13 s rv:=En.mk (c:= Tryz.f189.body.getD .ret) Tryz.func189 rfl (by kernel_rfl) (by kernel_rfl) (by kernel_rfl) (by kernel_rfl)
end slices_AppendSeq_Lapi_Dot_api_Dot
namespace slices_IndexFunc_Lapi_Claim_api_Claim
abbrev f:Nat:=192
def s:bX:=(.seq
(F [J 4 (.mv (Z 0))] 1)
(.seq
(.seq
(F [M 6 0,
 J 7 (.len (.t 6)),
 J 8 (.mv (Z 0))] 3)
(.block 0
(.loop
(.seq
(F [J 9 (.bin .lss (.t 8) (.t 7))] 1)
(.seq
(.cond (.t 9)
.skip
(.exit 0))
(.seq
(.block 1
(.seq
(F [M 10 8,
 M 5 10] 2)
(.seq
(F [M 11 1,
 M 12 0,
 M 13 5,
 J 14 (.ew 4 (.t 12) (.t 13)),
 J 15 (.load (some 4) (.t 14)),
 J 16 (.call (.t 11) [(.t 15)])] 6)
(.cond (.t 16)
(.seq
(F [M 17 5,
 M 4 17] 2)
.ret)
.skip))))
(F [J 18 (.bin .add (.t 8) (Z 1)),
 M 8 18] 2)))))))
(.seq
(F [J 4 (.mv (.k (.d (.int .i64 (-1)))))] 1)
.ret)))
def rv:List RV:=[.tmp 4]
theorem enter:En Tryz.prog 192 19 s rv:=En.mk (c:= Tryz.f192.body.getD .ret) Tryz.func192 rfl (by kernel_rfl) (by kernel_rfl) (by kernel_rfl) (by kernel_rfl)
end slices_IndexFunc_Lapi_Claim_api_Claim
namespace maps_Keys_dot_set_api_Dot_int_1
abbrev f:Nat:=194
def s:bX:=(.seq
(F [J 4 (.load none (.t 1)),
 J 5 (.lI (.t 4))] 2)
(.block 0
(.loop
(.seq
(F [J 6 (.jY (.t 5)),
 J 7 (.ext 0 (.t 6))] 2)
(.seq
(.cond (.t 7)
.skip
(.exit 0))
(.block 1
(.seq
(F [J 8 (.mI (.t 5)),
 J 9 (.ext 0 (.t 8)),
 J 3 (.alloc 37 [b8 0,aB 0]),
 N (.store 2 (.t 3) (.t 9))] 4)
(.seq
(F [M 10 0,
 J 11 (.load (some 2) (.t 3)),
 J 12 (.call (.t 10) [(.t 11)]),
 J 13 (.not (.t 12))] 4)
(.cond (.t 13)
.ret
.skip)))))))))
def rv:List RV:=[]
theorem enter:En Tryz.prog 194 14 s rv:=En.mk (c:= Tryz.f194.body.getD .ret) Tryz.func194 rfl (by kernel_rfl) (by kernel_rfl) (by kernel_rfl) (by kernel_rfl)
end maps_Keys_dot_set_api_Dot_int_1
end
section
namespace law18_RevokeMore
abbrev f:Nat:=3
def s:bX:=(.seq
(F [J 6 (.mv (B false))] 1)
(.seq
(.seq
(F [M 22 0,
 J 23 (.call (C 14) [(.t 22)]),
 M 24 23,
 G 25 0 24 false,
 G 26 1 24 false,
 H 27 (.call (C 15) [(.t 25),(.t 26)]) 24 false,
 H 28 (.bin .neq (.t 27) (Z 0)) 24 false,
 J 29 (.pick (.t 24) (B true) (.t 28))] 8)
(.cond (.t 29)
(.seq
(F [J 30 (.call (C 16) []),
 M 6 30] 2)
.ret)
.skip))
(.seq
(F [M 31 0,
 J 32 (.call (C 17) [(.t 31)]),
 M 7 32] 3)
(.seq
(F [M 33 2,
 J 34 (.conv .i64 (.t 33)),
 M 35 7,
 J 36 (.len (.t 35)),
 J 37 (.bin .add (.t 36) (Z 1)),
 J 38 (.bin .rem (.t 34) (.t 37)),
 M 8 38] 7)
(.seq
(F [M 39 7,
 M 40 8,
 J 41 (.slc 29 (.t 39) none (some (.t 40))),
 J 42 (.call (C 19) [(.t 41)]),
 J 43 (.call (C 18) [(.t 42)]),
 M 44 0,
 J 45 (.call (C 19) [(.t 44)]),
 J 46 (.call (C 18) [(.t 45)]),
 M 9 43,
 M 10 46] 10)
(.seq
(.seq
(F [M 47 9,
 J 48 (.gX false 0 (.t 47)),
 M 49 48,
 G 50 10 49 false,
 H 51 (.gX false 0 (.t 50)) 49 false,
 J 52 (.pick (.t 49) (B true) (.t 51))] 6)
(.cond (.t 52)
(.seq
(F [J 6 (.mv (B false))] 1)
.ret)
.skip))
(.seq
(.seq
(F [J 11 (.mv (Z 0))] 1)
(.block 0
(.loop
(.seq
(.seq
(F [M 53 11,
 M 54 8,
 J 55 (.bin .lss (.t 53) (.t 54))] 3)
(.cond (.t 55)
.skip
(.exit 0)))
(.seq
(.block 1
(.seq
(F [M 59 9,
 M 60 7,
 M 61 11,
 J 62 (.ew 29 (.t 60) (.t 61)),
 J 63 (.aV 0 (.t 62)),
 J 64 (.load (some 2) (.t 63)),
 J 65 (.call (C 20) [(.t 59),(.t 64)]),
 M 58 65,
 J 66 (.ext 0 (.t 58)),
 J 67 (.ext 1 (.t 58)),
 M 12 66,
 M 13 67] 12)
(.seq
(F [M 69 10,
 M 70 7,
 M 71 11,
 J 72 (.ew 29 (.t 70) (.t 71)),
 J 73 (.aV 0 (.t 72)),
 J 74 (.load (some 2) (.t 73)),
 J 75 (.call (C 20) [(.t 69),(.t 74)]),
 M 68 75,
 J 76 (.ext 0 (.t 68)),
 J 77 (.ext 1 (.t 68)),
 M 14 76,
 M 15 77] 12)
(.seq
(.seq
(F [M 78 13,
 M 79 15,
 J 80 (.bin .neq (.t 78) (.t 79))] 3)
(.cond (.t 80)
(.seq
(F [J 6 (.mv (B false))] 1)
.ret)
.skip))
(.seq
(.seq
(F [J 16 (.mv (Z 0))] 1)
(.block 2
(.loop
(.seq
(.seq
(F [M 81 16,
 M 82 12,
 J 83 (.len (.t 82)),
 J 84 (.bin .lss (.t 81) (.t 83))] 4)
(.cond (.t 84)
.skip
(.exit 2)))
(.seq
(.block 3
(.seq
(F [M 87 14,
 M 88 12,
 M 89 16,
 J 90 (.ew 2 (.t 88) (.t 89)),
 J 91 (.load (some 2) (.t 90)),
 J 92 (.call (C 21) [(.t 87),(.t 91)]),
 J 93 (.not (.t 92))] 7)
(.cond (.t 93)
(.seq
(F [J 6 (.mv (B false))] 1)
.ret)
.skip)))
(F [M 85 16,
 J 86 (.bin .add (.t 85) (Z 1)),
 M 16 86] 3))))))
(.seq
(F [J 17 (.mv (Z 0))] 1)
(.block 4
(.loop
(.seq
(.seq
(F [M 94 17,
 M 95 14,
 J 96 (.len (.t 95)),
 J 97 (.bin .lss (.t 94) (.t 96))] 4)
(.cond (.t 97)
.skip
(.exit 4)))
(.seq
(.block 5
(.seq
(F [M 101 7,
 M 102 14,
 M 103 17,
 J 104 (.ew 2 (.t 102) (.t 103)),
 J 105 (.load (some 2) (.t 104)),
 J 106 (.call (C 22) [(.t 101),(.t 105)]),
 M 100 106,
 J 107 (.ext 0 (.t 100)),
 J 108 (.ext 1 (.t 100)),
 J 18 (.alloc 43 bU),
 N (.store 29 (.t 18) (.t 107)),
 M 19 108] 12)
(.seq
(.ey [M 110 7,
 M 111 8,
 J 112 (.slc 29 (.t 110) none (some (.t 111))),
 M 113 14,
 M 114 17,
 J 115 (.ew 2 (.t 113) (.t 114)),
 J 116 (.load (some 2) (.t 115)),
 J 117 (.call (C 22) [(.t 112),(.t 116)]),
 M 109 117,
 J 118 (.ext 0 (.t 109)),
 J 119 (.ext 1 (.t 109)),
 J 20 (.alloc 43 bU),
 N (.store 29 (.t 20) (.t 118)),
 M 21 119] [0,
0,
3,
0,
0,
24,
56,
127,
255,
511,
511,
0,
3071,
8191] true)
(.seq
(.ey (M 120 21::
 M 121 12::
 M 122 14::
 M 123 17::
 J 124 (.ew 2 (.t 122) (.t 123))::
 J 125 (.load (some 2) (.t 124))::
 J 126 (.call (C 21) [(.t 121),(.t 125)])::
 J 127 (.qh true (.t 120) (.t 126))::
 M 128 127::
 G 129 21 128 false::
 H 130 (.not (.t 129)) 128 false::
 G 131 130 128 false::
 H 132 (.load (some 29) (.t 18)) 131 true::
 G 133 7 131 true::
 G 134 11 131 true::
 H 135 (.ew 29 (.t 133) (.t 134)) 131 true::
 H 136 (.load (some 29) (.t 135)) 131 true::
 H 137 (.call (C 23) [(.t 132),(.t 136)]) 131 true::
 H 138 (.pick (.t 131) (.t 137) (B false)) 128 false::
 J 139 (.pick (.t 128) (B true) (.t 138))::[]) (0::
0::
0::
0::
12::
28::
62::
127::
255::
511::
1023::
2047::
4095::
4095::
4095::
28671::
61439::
131071::
262143::
524287::[]) true)
(.cond (.t 139)
(.seq
(F [J 6 (.mv (B false))] 1)
.ret)
.skip)))))
(F [M 98 17,
 J 99 (.bin .add (.t 98) (Z 1)),
 M 17 99] 3)))))))))))
(F [M 56 11,
 J 57 (.bin .add (.t 56) (Z 1)),
 M 11 57] 3))))))
(.seq
(F [J 140 (.call (C 16) []),
 M 6 140] 2)
.ret))))))))
def rv:List RV:=[.tmp 6]
theorem enter:En Tryz.prog 3 141 s rv:=En.mk (c:= Tryz.f3.body.getD .ret) Tryz.func3 rfl (by kernel_rfl) (by kernel_rfl) (by kernel_rfl) (by kernel_rfl)
end law18_RevokeMore
namespace ref10_History
abbrev f:Nat:=15
def s:bX:=(.seq
(F [J 4 (.mv (Z 0))] 1)
(.seq
(.seq
(F [M 7 1,
 J 8 (.bin .lss (.t 7) (Z 1)),
 M 9 8,
 G 10 1 9 false,
 H 11 (.bin .gtr (.t 10) (Z 8)) 9 false,
 J 12 (.pick (.t 9) (B true) (.t 11))] 6)
(.cond (.t 12)
(.seq
(F [J 4 (.mv (Z 2))] 1)
.ret)
.skip))
(.seq
(.seq
(F [J 5 (.mv (Z 0))] 1)
(.block 0
(.loop
(.seq
(.seq
(F [M 13 5,
 M 14 0,
 J 15 (.len (.t 14)),
 J 16 (.bin .lss (.t 13) (.t 15))] 4)
(.cond (.t 16)
.skip
(.exit 0)))
(.seq
(.block 1
(.seq
(F [M 19 0,
 M 20 5,
 J 21 (.ew 29 (.t 19) (.t 20)),
 J 22 (.load (some 29) (.t 21)),
 M 23 1,
 J 24 (.call (C 60) [(.t 22),(.t 23)]),
 J 25 (.bin .neq (.t 24) (Z 0))] 7)
(.cond (.t 25)
(.seq
(F [J 4 (.mv (Z 5))] 1)
.ret)
.skip)))
(F [M 17 5,
 J 18 (.bin .add (.t 17) (Z 1)),
 M 5 18] 3))))))
(.seq
(.seq
(F [J 6 (.mv (Z 0))] 1)
(.block 2
(.loop
(.seq
(.seq
(F [M 26 6,
 M 27 0,
 J 28 (.len (.t 27)),
 J 29 (.bin .lss (.t 26) (.t 28))] 4)
(.cond (.t 29)
.skip
(.exit 2)))
(.seq
(.block 3
(.seq
(F [M 32 0,
 M 33 0,
 M 34 6,
 J 35 (.ew 29 (.t 33) (.t 34)),
 J 36 (.load (some 29) (.t 35)),
 J 37 (.call (C 61) [(.t 32),(.t 36)]),
 J 38 (.not (.t 37))] 7)
(.cond (.t 38)
(.seq
(F [J 4 (.mv (Z 9))] 1)
.ret)
.skip)))
(F [M 30 6,
 J 31 (.bin .add (.t 30) (Z 1)),
 M 6 31] 3))))))
(.seq
(F [J 4 (.mv (Z 0))] 1)
.ret)))))
def rv:List RV:=[.tmp 4]
theorem enter:En Tryz.prog 15 39 s rv:=En.mk (c:= Tryz.f15.body.getD .ret) Tryz.func15 rfl (by kernel_rfl) (by kernel_rfl) (by kernel_rfl) (by kernel_rfl)
end ref10_History
namespace law18_head
abbrev f:Nat:=16
def s:bX:=(.seq
(F [J 0 (.mv (B false))] 1)
(.seq
(F [J 17 (.call (C 62) []),
 J 18 (.call (C 19) [(.t 17)]),
 J 19 (.call (C 18) [(.t 18)]),
 M 1 19] 4)
(.seq
(.seq
(F [M 20 1,
 J 21 (.gX false 0 (.t 20))] 2)
(.cond (.t 21)
(.seq
(F [J 0 (.mv (B false))] 1)
.ret)
.skip))
(.seq
(F [M 23 1,
 J 24 (.fE [b8 0,aB 0] [(1,1,(.k (aB 4)))]),
 J 25 (.call (C 20) [(.t 23),(.t 24)]),
 M 22 25,
 J 26 (.ext 0 (.t 22)),
 J 27 (.ext 1 (.t 22)),
 M 2 26,
 M 3 27] 8)
(.seq
(F [M 29 1,
 J 30 (.fE [b8 0,aB 0] [(1,1,(.k (aB 3)))]),
 J 31 (.call (C 20) [(.t 29),(.t 30)]),
 M 28 31,
 J 32 (.ext 0 (.t 28)),
 J 33 (.ext 1 (.t 28)),
 M 4 32,
 M 5 33] 8)
(.seq
(F [M 35 1,
 J 36 (.fE [b8 0,aB 0] [(1,1,(.k (aB 2)))]),
 J 37 (.call (C 20) [(.t 35),(.t 36)]),
 M 34 37,
 J 38 (.ext 0 (.t 34)),
 J 39 (.ext 1 (.t 34)),
 M 6 38,
 M 7 39] 8)
(.seq
(F [M 41 1,
 J 42 (.fE [b8 0,aB 0] [(1,1,(.k (aB 1)))]),
 J 43 (.call (C 24) [(.t 41),(.t 42)]),
 M 40 43,
 J 44 (.ext 0 (.t 40)),
 J 45 (.ext 1 (.t 40)),
 M 8 44,
 M 9 45] 8)
(.seq
(F [M 47 1,
 J 48 (.fE [b8 0,aB 0] [(1,1,(.k (aB 2)))]),
 J 49 (.call (C 24) [(.t 47),(.t 48)]),
 M 46 49,
 J 50 (.ext 0 (.t 46)),
 J 51 (.ext 1 (.t 46)),
 M 10 50,
 M 11 51] 8)
(.seq
(F [M 53 1,
 J 54 (.fE [b8 0,aB 0] [(1,1,(.k (aB 4)))]),
 J 55 (.call (C 24) [(.t 53),(.t 54)]),
 M 52 55,
 J 56 (.ext 0 (.t 52)),
 J 57 (.ext 1 (.t 52)),
 M 12 56,
 M 13 57] 8)
(.seq
(F [M 59 1,
 J 60 (.fE [b8 0,aB 0] [(1,1,(.k (aB 9)))]),
 J 61 (.call (C 24) [(.t 59),(.t 60)]),
 M 58 61,
 J 62 (.ext 0 (.t 58)),
 J 63 (.ext 1 (.t 58)),
 M 14 62,
 M 15 63] 8)
(.seq
(F [J 64 (.fE [b8 0,aB 0] [(0,1,(.k (b8 1))),(1,1,(.k (aB 1)))]),
 J 65 (.oU 37 2 1 [b8 0,aB 0] [(0,2,(.t 64))]),
 M 16 65] 3)
(.seq
(F (M 66 2::
 M 67 16::
 J 68 (.call (C 29) [(.t 66),(.t 67)])::
 M 69 68::
 G 70 3 69 true::
 H 71 (.bin .eql (.t 70) (Z 0)) 69 true::
 J 72 (.pick (.t 69) (.t 71) (B false))::
 M 73 72::
 G 74 4 73 true::
 H 75 (.len (.t 74)) 73 true::
 H 76 (.bin .eql (.t 75) (Z 0)) 73 true::
 J 77 (.pick (.t 73) (.t 76) (B false))::
 M 78 77::
 G 79 5 78 true::
 H 80 (.bin .eql (.t 79) (Z 0)) 78 true::
 J 81 (.pick (.t 78) (.t 80) (B false))::
 M 82 81::
 G 83 6 82 true::
 H 84 (.len (.t 83)) 82 true::
 H 85 (.bin .eql (.t 84) (Z 0)) 82 true::
 J 86 (.pick (.t 82) (.t 85) (B false))::
 M 87 86::
 G 88 7 87 true::
 H 89 (.bin .eql (.t 88) (Z 0)) 87 true::
 J 90 (.pick (.t 87) (.t 89) (B false))::
 M 91 90::
 G 92 8 91 true::
 H 93 (.bin .eql (.t 92) (.k (.d (.int .i64 (-1))))) 91 true::
 J 94 (.pick (.t 91) (.t 93) (B false))::
 M 95 94::
 G 96 10 95 true::
 H 97 (.bin .eql (.t 96) (Z 0)) 95 true::
 J 98 (.pick (.t 95) (.t 97) (B false))::
 M 99 98::
 G 100 12 99 true::
 H 101 (.bin .eql (.t 100) (Z 1)) 99 true::
 J 102 (.pick (.t 99) (.t 101) (B false))::
 M 103 102::
 G 104 15 103 true::
 H 105 (.bin .eql (.t 104) (Z 7)) 103 true::
 J 106 (.pick (.t 103) (.t 105) (B false))::
 M 107 106::
 G 108 1 107 true::
 H 109 (.fE [b8 0,aB 0] [(1,1,(.k (aB 2)))]) 107 true::
 H 110 (.call (C 30) [(.t 108),(.t 109)]) 107 true::
 G 111 16 107 true::
 H 112 (.call (C 29) [(.t 110),(.t 111)]) 107 true::
 J 113 (.pick (.t 107) (.t 112) (B false))::
 M 114 113::
 G 115 1 114 true::
 G 116 16 114 true::
 H 117 (.ew 2 (.t 116) (Z 0)) 114 true::
 H 118 (.load (some 2) (.t 117)) 114 true::
 H 119 (.call (C 32) [(.t 115),(.t 118)]) 114 true::
 H 120 (.fE [b8 0,aB 0] [(1,1,(.k (aB 4)))]) 114 true::
 H 121 (.oU 37 2 1 [b8 0,aB 0] [(0,2,(.t 120))]) 114 true::
 H 122 (.call (C 29) [(.t 119),(.t 121)]) 114 true::
 J 123 (.pick (.t 114) (.t 122) (B false))::
 M 124 123::
 H 125 (.call (C 18) [(.k (.d .jt))]) 124 true::
 H 126 (.gX false 0 (.t 125)) 124 true::
 J 127 (.pick (.t 124) (.t 126) (B false))::
 M 0 127::[]) 63)
.ret))))))))))))
def rv:List RV:=[.tmp 0]
theorem enter:En Tryz.prog 16 128 s rv:=En.mk (c:= Tryz.f16.body.getD .ret) Tryz.func16 rfl (by kernel_rfl) (by kernel_rfl) (by kernel_rfl) (by kernel_rfl)
end law18_head
namespace ref10_Sort
abbrev f:Nat:=17
def s:bX:=(.seq
(F [J 2 (.mv (.k (.d .aU)))] 1)
(.seq
(F [J 3 (.mv (.k (.d .aU)))] 1)
(.seq
(.seq
(F [J 4 (.mv (Z 0))] 1)
(.block 0
(.loop
(.seq
(.seq
(F [M 8 4,
 M 9 0,
 J 10 (.len (.t 9)),
 J 11 (.bin .lss (.t 8) (.t 10))] 4)
(.cond (.t 11)
.skip
(.exit 0)))
(.seq
(.block 1
(.seq
(F [M 15 3,
 M 16 0,
 M 17 4,
 J 18 (.ew 29 (.t 16) (.t 17)),
 J 19 (.aV 0 (.t 18)),
 J 20 (.load (some 2) (.t 19)),
 J 21 (.call (C 22) [(.t 15),(.t 20)]),
 M 14 21,
 J 22 (.ext 0 (.t 14)),
 J 23 (.ext 1 (.t 14)),
 J 5 (.alloc 43 bU),
 N (.store 29 (.t 5) (.t 22)),
 M 6 23] 13)
(.seq
(.seq
(F [M 24 6] 1)
(.cond (.t 24)
(.exit 1)
.skip))
(.seq
(F [M 25 3,
 J 26 (.len (.t 25)),
 M 7 26] 3)
(.seq
(.block 2
(.loop
(.seq
(.seq
(.ey [M 27 7,
 J 28 (.bin .gtr (.t 27) (Z 0)),
 M 29 28,
 G 30 3 29 true,
 G 31 7 29 true,
 H 32 (.bin .sub (.t 31) (Z 1)) 29 true,
 H 33 (.ew 29 (.t 30) (.t 32)) 29 true,
 H 34 (.load (some 29) (.t 33)) 29 true,
 G 35 0 29 true,
 G 36 4 29 true,
 H 37 (.ew 29 (.t 35) (.t 36)) 29 true,
 H 38 (.load (some 29) (.t 37)) 29 true,
 H 39 (.call (C 63) [(.t 34),(.t 38)]) 29 true,
 H 40 (.bin .gtr (.t 39) (Z 0)) 29 true,
 J 41 (.pick (.t 29) (.t 40) (B false))] [0,
1,
3,
7,
7,
23,
63,
127,
7,
7,
775,
1799,
4095,
8191,
16383] true)
(.cond (.t 41)
.skip
(.exit 2)))
(.block 3
(F [M 42 7,
 J 43 (.bin .sub (.t 42) (Z 1)),
 M 7 43] 3)))))
(.ey (J 44 (.oU 43 29 0 [] [])::
 M 45 3::
 M 46 7::
 J 47 (.slc 29 (.t 45) none (some (.t 46)))::
 J 48 (.app 43 29 144 (.t 44) (.t 47))::
 M 49 0::
 M 50 4::
 J 51 (.ew 29 (.t 49) (.t 50))::
 J 52 (.load (some 29) (.t 51))::
 J 53 (.oU 43 29 1 bU [(0,29,(.t 52))])::
 J 54 (.app 43 29 144 (.t 48) (.t 53))::
 M 55 3::
 M 56 7::
 J 57 (.slc 29 (.t 55) (some (.t 56)) none)::
 J 58 (.app 43 29 144 (.t 54) (.t 57))::
 M 3 58::[]) (0::
0::
0::
6::
15::
0::
0::
96::
224::
480::
1023::
0::
0::
6144::
16383::
32767::[]) true))))))
(F [M 12 4,
 J 13 (.bin .add (.t 12) (Z 1)),
 M 4 13] 3))))))
(.seq
(F [M 59 3,
 M 2 59] 2)
.ret))))
def rv:List RV:=[.tmp 2]
theorem enter:En Tryz.prog 17 60 s rv:=En.mk (c:= Tryz.f17.body.getD .ret) Tryz.func17 rfl (by kernel_rfl) (by kernel_rfl) (by kernel_rfl) (by kernel_rfl)
end ref10_Sort
namespace revoke_New
abbrev f:Nat:=18
def s:bX:=(.seq
(F [J 2 (.mv (.k (.d .jt)))] 1)
(.seq
(.seq
(F [M 8 0,
 J 9 (.call (C 64) [(.t 8)]),
 J 10 (.gX false 0 (.t 9))] 3)
(.cond (.t 10)
(.seq
(F [J 2 (.mv (.k (.d .jt)))] 1)
.ret)
.skip))
(.seq
(F [M 11 0,
 J 12 (.zj),
 J 13 (.zj),
 J 14 (.zj),
 J 15 (.fE [(.d .jt),(.d .jl),(.d .jl),(.d .jl)] [(0,1,(.t 11)),(1,1,(.t 12)),(2,1,(.t 13)),(3,1,(.t 14))]),
 J 16 (.box 110 (.t 15)),
 M 3 16] 7)
(.seq
(.seq
(F [M 17 0,
 J 18 (.call (C 65) [(.t 17)]),
 J 19 (.len (.t 18)),
 J 20 (.mv (Z 0))] 4)
(.block 0
(.loop
(.seq
(F [J 21 (.bin .lss (.t 20) (.t 19))] 1)
(.seq
(.cond (.t 21)
.skip
(.exit 0))
(.seq
(.block 1
(.seq
(F [J 22 (.ew 2 (.t 18) (.t 20)),
 J 23 (.load (some 2) (.t 22)),
 J 5 (.alloc 37 [b8 0,aB 0]),
 N (.store 2 (.t 5) (.t 23))] 4)
(.seq
(.seq
(F [M 24 0,
 J 25 (.load (some 2) (.t 5)),
 J 26 (.call (C 66) [(.t 24),(.t 25)]),
 J 27 (.not (.t 26))] 4)
(.cond (.t 27)
(.exit 1)
.skip))
(.seq
(F [M 29 0,
 J 30 (.load (some 2) (.t 5)),
 J 31 (.call (C 67) [(.t 29),(.t 30)]),
 M 28 31,
 J 32 (.ext 0 (.t 28)),
 J 33 (.ext 1 (.t 28)),
 J 6 (.alloc 43 bU),
 N (.store 29 (.t 6) (.t 32)),
 M 7 33] 9)
(.seq
(.ey [M 34 3,
 J 35 (.d_ (.t 34)),
 J 36 (.aV 1 (.t 35)),
 J 37 (.load none (.t 36)),
 J 38 (.load (some 2) (.t 5)),
 J 39 (.load (some 29) (.t 6)),
 N (.sF [true,true] true (.t 37) (.t 38) (.t 39))] [0,
1,
3,
7,
0,
0,
63] true)
(.seq
(.ey [M 41 3,
 J 42 (.d_ (.t 41)),
 J 43 (.aV 2 (.t 42)),
 J 44 (.load none (.t 43)),
 J 45 (.load (some 2) (.t 5)),
 M 46 0,
 J 47 (.call (C 64) [(.t 46)]),
 J 48 (.aV 15 (.t 6)),
 J 49 (.load (some 2) (.t 48)),
 J 50 (.call (C 68) [(.t 47),(.t 49)]),
 M 40 50,
 J 51 (.ext 0 (.t 40)),
 J 52 (.ext 1 (.t 40)),
 N (.sF [true,true] true (.t 44) (.t 45) (.t 51))] [0,
1,
3,
7,
0,
0,
32,
0,
128,
480,
992,
2016,
2016,
4095] true)
(.seq
(.seq
(F [J 53 (.aV 14 (.t 6)),
 J 54 (.load none (.t 53)),
 J 55 (.bin .eql (.t 54) (.k (b8 0)))] 3)
(.cond (.t 55)
(.ey [M 56 3,
 J 57 (.d_ (.t 56)),
 J 58 (.aV 2 (.t 57)),
 J 59 (.load none (.t 58)),
 J 60 (.load (some 2) (.t 5)),
 N (.sF [true,true] true (.t 59) (.t 60) (.k (.d .aU)))] [0,
1,
3,
7,
0,
31] true)
.skip))
(.seq
(F [J 61 (.aV 14 (.t 6)),
 J 62 (.load none (.t 61)),
 J 63 (.bin .eql (.t 62) (.k (b8 2)))] 3)
(.cond (.t 63)
(.ey [M 64 3,
 J 65 (.d_ (.t 64)),
 J 66 (.aV 3 (.t 65)),
 J 67 (.load none (.t 66)),
 J 68 (.aV 21 (.t 6)),
 J 69 (.load (some 2) (.t 68)),
 J 71 (.load (some 2) (.t 5)),
 J 72 (.oU 37 2 1 [b8 0,aB 0] [(0,2,(.t 71))]),
 J 73 (.rj [true,true] true (.d .aU) (.t 67) (.t 69)),
 J 70 (.ext 0 (.t 73)),
 J 74 (.app 37 2 8 (.t 70) (.t 72)),
 J 75 (.ext 1 (.t 73)),
 N (.rm (.t 67) (.t 75) (.t 74))] [0,
1,
3,
7,
0,
16,
0,
64,
255,
511,
1023,
511,
4095] true)
.skip)))))))))
(F [J 76 (.bin .add (.t 20) (Z 1)),
 M 20 76] 2)))))))
(.seq
(F [M 77 3,
 M 2 77] 2)
.ret)))))
def rv:List RV:=[.tmp 2]
theorem enter:En Tryz.prog 18 78 s rv:=En.mk (c:= Tryz.f18.body.getD .ret) Tryz.func18 rfl (by kernel_rfl) (by kernel_rfl) (by kernel_rfl) (by kernel_rfl)
end revoke_New
namespace revoke_Index_Threats
abbrev f:Nat:=20
def s:bX:=(.seq
(F [J 3 (.box 37 (.t 1)),
 J 4 (.mv (.k (.d .aU))),
 J 5 (.mv (Z 0))] 3)
(.seq
(.seq
(F [M 9 0,
 J 10 (.load (some 2) (.t 3)),
 J 11 (.call (C 24) [(.t 9),(.t 10)]),
 M 8 11,
 J 12 (.ext 0 (.t 8)),
 J 13 (.ext 1 (.t 8)),
 M 6 12,
 M 7 13] 8)
(.seq
(F [M 14 7,
 J 15 (.bin .neq (.t 14) (Z 0))] 2)
(.cond (.t 15)
(.seq
(F [M 16 7,
 J 4 (.mv (.k (.d .aU))),
 M 5 16] 3)
.ret)
.skip)))
(.seq
(.ey [M 17 0,
 M 18 0,
 J 19 (.d_ (.t 18)),
 J 20 (.aV 1 (.t 19)),
 J 21 (.load none (.t 20)),
 J 22 (.load (some 2) (.t 3)),
 J 23 (.look [true,true] true (.agg bU) (.t 21) (.t 22) false),
 J 24 (.call (C 72) [(.t 17),(.t 23)]),
 J 25 (.call (C 71) [(.t 24),(C 73)]),
 M 4 25,
 J 5 (.mv (Z 0))] [0,
0,
2,
6,
14,
0,
62,
127,
255,
511,
1023] true)
.ret)))
def rv:List RV:=[.tmp 4,.tmp 5]
theorem enter:En Tryz.prog 20 26 s rv:=En.mk (c:= Tryz.f20.body.getD .ret) Tryz.func20 rfl (by kernel_rfl) (by kernel_rfl) (by kernel_rfl) (by kernel_rfl)
end revoke_Index_Threats
namespace revoke_Index_Level
abbrev f:Nat:=24
def s:bX:=(.seq
(F [J 3 (.box 37 (.t 1)),
 J 4 (.mv (Z 0)),
 J 5 (.mv (Z 0))] 3)
(.seq
(.seq
(F [M 8 0,
 J 9 (.call (C 74) [(.t 8)])] 2)
(.cond (.t 9)
(.seq
(F [J 4 (.mv (Z 0)),
 J 5 (.mv (Z 1))] 2)
.ret)
.skip))
(.seq
(.seq
(.ey [M 11 0,
 J 12 (.d_ (.t 11)),
 J 13 (.aV 1 (.t 12)),
 J 14 (.load none (.t 13)),
 J 15 (.load (some 2) (.t 3)),
 J 16 (.look [true,true] true (.agg bU) (.t 14) (.t 15) true),
 M 10 16,
 J 17 (.ext 0 (.t 10)),
 J 18 (.ext 1 (.t 10)),
 J 6 (.alloc 43 bU),
 N (.store 29 (.t 6) (.t 17)),
 M 7 18] [0,
1,
3,
7,
0,
31,
63,
127,
127,
0,
767,
2047] true)
(.seq
(F [M 19 7,
 J 20 (.not (.t 19))] 2)
(.cond (.t 20)
(.seq
(F [J 4 (.mv (Z 0)),
 J 5 (.mv (Z 7))] 2)
.ret)
.skip)))
(.seq
(.ey [M 21 0,
 J 22 (.d_ (.t 21)),
 J 23 (.aV 2 (.t 22)),
 J 24 (.load none (.t 23)),
 J 25 (.load (some 2) (.t 3)),
 J 26 (.look [true,true] true (.d .aU) (.t 24) (.t 25) false),
 J 27 (.len (.t 26)),
 J 28 (.bin .sub (.t 27) (Z 1)),
 M 4 28,
 J 5 (.mv (Z 0))] [0,
1,
3,
7,
0,
31,
63,
127,
255,
511] true)
.ret))))
def rv:List RV:=[.tmp 4,.tmp 5]
theorem enter:En Tryz.prog 24 29 s rv:=En.mk (c:= Tryz.f24.body.getD .ret) Tryz.func24 rfl (by kernel_rfl) (by kernel_rfl) (by kernel_rfl) (by kernel_rfl)
end revoke_Index_Level
namespace revoke_Index_Revokes
abbrev f:Nat:=30
def s:bX:=(.seq
(F [J 3 (.box 37 (.t 1)),
 J 4 (.mv (.k (.d .aU)))] 2)
(.seq
(.seq
(F [M 5 0,
 J 6 (.call (C 74) [(.t 5)])] 2)
(.cond (.t 6)
(.seq
(F [J 4 (.mv (.k (.d .aU)))] 1)
.ret)
.skip))
(.seq
(.ey [M 7 0,
 J 8 (.d_ (.t 7)),
 J 9 (.aV 3 (.t 8)),
 J 10 (.load none (.t 9)),
 J 11 (.load (some 2) (.t 3)),
 J 12 (.look [true,true] true (.d .aU) (.t 10) (.t 11) false),
 J 13 (.call (C 77) [(.t 12)]),
 M 4 13] [0,
1,
3,
7,
0,
31,
63,
127] true)
.ret)))
def rv:List RV:=[.tmp 4]
theorem enter:En Tryz.prog 30 14 s rv:=En.mk (c:= Tryz.f30.body.getD .ret) Tryz.func30 rfl (by kernel_rfl) (by kernel_rfl) (by kernel_rfl) (by kernel_rfl)
end revoke_Index_Revokes
namespace revoke_Index_Threatened
abbrev f:Nat:=32
def s:bX:=(.seq
(F [J 2 (.box 27 (.t 0)),
 J 3 (.box 37 (.t 1)),
 J 4 (.mv (.k (.d .aU)))] 3)
(.seq
(.seq
(F [J 6 (.load none (.t 2)),
 J 7 (.call (C 74) [(.t 6)])] 2)
(.cond (.t 7)
(.seq
(F [J 4 (.mv (.k (.d .aU)))] 1)
.ret)
.skip))
(.seq
(F [J 8 (.sE (.func 79) [] [(.t 2),(.t 3)]),
 M 5 8] 2)
(.seq
(F [M 9 5,
 J 10 (.call (C 80) [(.t 9),(C 81)]),
 M 4 10] 3)
.ret))))
def rv:List RV:=[.tmp 4]
theorem enter:En Tryz.prog 32 11 s rv:=En.mk (c:= Tryz.f32.body.getD .ret) Tryz.func32 rfl (by kernel_rfl) (by kernel_rfl) (by kernel_rfl) (by kernel_rfl)
end revoke_Index_Threatened
namespace ref04_Above
abbrev f:Nat:=46
def s:bX:=(.seq
(F [J 2 (.box 39 (.t 0)),
 J 3 (.box 39 (.t 1)),
 J 4 (.mv (B false))] 3)
(.seq
(.seq
(F [J 5 (.mv (Z 0))] 1)
(.block 0
(.loop
(.seq
(.seq
(F [M 6 5,
 J 7 (.bin .lss (.t 6) (Z 8))] 2)
(.cond (.t 7)
.skip
(.exit 0)))
(.seq
(.block 1
(.seq
(.ey [M 10 5,
 J 11 (.qk 8 1 (.t 2) (.t 10)),
 J 12 (.load none (.t 11)),
 M 13 5,
 J 14 (.qk 8 1 (.t 3) (.t 13)),
 J 15 (.load none (.t 14)),
 J 16 (.bin .lss (.t 12) (.t 15))] [0,
1,
3,
0,
8,
24,
63] true)
(.cond (.t 16)
(.seq
(F [J 4 (.mv (B false))] 1)
.ret)
.skip)))
(F [M 8 5,
 J 9 (.bin .add (.t 8) (Z 1)),
 M 5 9] 3))))))
(.seq
(F [J 4 (.mv (B true))] 1)
.ret)))
def rv:List RV:=[.tmp 4]
theorem enter:En Tryz.prog 46 17 s rv:=En.mk (c:= Tryz.f46.body.getD .ret) Tryz.func46 rfl (by kernel_rfl) (by kernel_rfl) (by kernel_rfl) (by kernel_rfl)
end ref04_Above
namespace ref05_Check
abbrev f:Nat:=60
def s:bX:=(.seq
(F [J 2 (.box 43 (.t 0)),
 J 4 (.mv (Z 0))] 2)
(.seq
(.seq
(F [M 7 1,
 J 8 (.bin .lss (.t 7) (Z 1)),
 M 9 8,
 G 10 1 9 false,
 H 11 (.bin .gtr (.t 10) (Z 8)) 9 false,
 J 12 (.pick (.t 9) (B true) (.t 11))] 6)
(.cond (.t 12)
(.seq
(F [J 4 (.mv (Z 2))] 1)
.ret)
.skip))
(.seq
(.seq
(.ey (J 13 (.aV 0 (.t 2))::
 J 14 (.aV 0 (.t 13))::
 J 15 (.load none (.t 14))::
 J 16 (.conv .i64 (.t 15))::
 M 17 1::
 J 18 (.bin .geq (.t 16) (.t 17))::
 M 19 18::
 H 20 (.aV 0 (.t 2)) 19 false::
 H 21 (.aV 1 (.t 20)) 19 false::
 H 22 (.load none (.t 21)) 19 false::
 H 23 (.bin .eql (.t 22) (.k (aB 0))) 19 false::
 J 24 (.pick (.t 19) (B true) (.t 23))::
 M 25 24::
 H 26 (.aV 0 (.t 2)) 25 false::
 H 27 (.aV 0 (.t 26)) 25 false::
 H 28 (.load none (.t 27)) 25 false::
 H 29 (.aV 2 (.t 2)) 25 false::
 H 30 (.qk 8 1 (.t 29) (.t 28)) 25 false::
 H 31 (.load none (.t 30)) 25 false::
 H 32 (.aV 0 (.t 2)) 25 false::
 H 33 (.aV 1 (.t 32)) 25 false::
 H 34 (.load none (.t 33)) 25 false::
 H 35 (.bin .sub (.t 34) (.k (aB 1))) 25 false::
 H 36 (.bin .neq (.t 31) (.t 35)) 25 false::
 J 37 (.pick (.t 25) (B true) (.t 36))::
 M 38 37::
 H 39 (.aV 10 (.t 2)) 38 false::
 H 40 (.load none (.t 39)) 38 false::
 H 41 (.bin .lss (.t 40) (.k (bL 1))) 38 false::
 J 42 (.pick (.t 38) (B true) (.t 41))::
 M 43 42::
 H 44 (.aV 10 (.t 2)) 43 false::
 H 45 (.load none (.t 44)) 43 false::
 H 46 (.bin .gtr (.t 45) (.k (bL 281474976710656))) 43 false::
 J 47 (.pick (.t 43) (B true) (.t 46))::
 M 48 47::
 H 49 (.aV 11 (.t 2)) 48 false::
 H 50 (.load none (.t 49)) 48 false::
 H 51 (.bin .eql (.t 50) (.k (aB 0))) 48 false::
 J 52 (.pick (.t 48) (B true) (.t 51))::
 M 53 52::
 H 54 (.aV 14 (.t 2)) 53 false::
 H 55 (.load none (.t 54)) 53 false::
 H 56 (.bin .gtr (.t 55) (.k (b8 8))) 53 false::
 J 57 (.pick (.t 53) (B true) (.t 56))::
 M 58 57::
 H 59 (.load (some 29) (.t 2)) 58 false::
 H 60 (.call (C 108) [(.t 59)]) 58 false::
 H 61 (.not (.t 60)) 58 false::
 J 62 (.pick (.t 58) (B true) (.t 61))::[]) (0::
1::
3::
7::
0::
31::
63::
127::
255::
511::
1023::
2047::
4095::
8191::
16383::
32767::
8191::
131071::
262143::
8191::
532479::
1581055::
3678207::
8388607::
16777215::
33554431::
67108863::
134217727::
268435455::
536870911::
1073741823::
2147483647::
4294967295::
8589934591::
17179869183::
34359738367::
68719476735::
137438953471::
274877906943::
549755813887::
1099511627775::
2199023255551::
4398046511103::
8796093022207::
17592186044415::
35184372088831::
70368744177663::
140737488355327::
281474976710655::
562949953421311::[]) true)
(.cond (.t 62)
(.seq
(F [J 4 (.mv (Z 5))] 1)
.ret)
.skip))
(.seq
(.seq
(F [M 63 1,
 M 5 63] 2)
(.block 0
(.loop
(.seq
(.seq
(F [M 64 5,
 J 65 (.bin .lss (.t 64) (Z 8))] 2)
(.cond (.t 65)
.skip
(.exit 0)))
(.seq
(.block 1
(.seq
(F [M 68 5,
 J 69 (.aV 2 (.t 2)),
 J 70 (.qk 8 1 (.t 69) (.t 68)),
 J 71 (.load none (.t 70)),
 J 72 (.bin .neq (.t 71) (.k (aB 0)))] 5)
(.cond (.t 72)
(.seq
(F [J 4 (.mv (Z 5))] 1)
.ret)
.skip)))
(F [M 66 5,
 J 67 (.bin .add (.t 66) (Z 1)),
 M 5 67] 3))))))
(.seq
(F [J 73 (.aV 14 (.t 2)),
 J 74 (.load none (.t 73)),
 J 75 (.call (C 109) [(.t 74)]),
 M 6 75] 4)
(.seq
(.seq
(F (J 76 (.aV 14 (.t 2))::
 J 77 (.load none (.t 76))::
 J 78 (.bin .eql (.t 77) (.k (b8 0)))::
 M 79 78::
 H 80 (.aV 12 (.t 2)) 79 true::
 H 81 (.load (some 2) (.t 80)) 79 true::
 H 82 (.aV 0 (.t 2)) 79 true::
 H 83 (.load (some 2) (.t 82)) 79 true::
 H 84 (.eqv true [true,true] (.t 81) (.t 83)) 79 true::
 J 85 (.pick (.t 79) (.t 84) (B false))::
 M 86 85::
 H 87 (.aV 14 (.t 2)) 86 false::
 H 88 (.load none (.t 87)) 86 false::
 H 89 (.bin .neq (.t 88) (.k (b8 0))) 86 false::
 G 90 89 86 false::
 H 91 (.load (some 29) (.t 2)) 90 true::
 H 92 (.aV 12 (.t 2)) 90 true::
 H 93 (.load (some 2) (.t 92)) 90 true::
 H 94 (.call (C 110) [(.t 91),(.t 93)]) 90 true::
 H 95 (.not (.t 94)) 90 true::
 H 96 (.pick (.t 90) (.t 95) (B false)) 86 false::
 J 97 (.pick (.t 86) (B true) (.t 96))::
 M 98 97::
 G 99 6 98 false::
 H 100 (.call (C 111) [(.t 99),(.k (b8 99))]) 98 false::
 G 101 100 98 false::
 H 102 (.load (some 29) (.t 2)) 101 true::
 H 103 (.aV 15 (.t 2)) 101 true::
 H 104 (.load (some 2) (.t 103)) 101 true::
 H 105 (.call (C 110) [(.t 102),(.t 104)]) 101 true::
 H 106 (.not (.t 105)) 101 true::
 H 107 (.pick (.t 101) (.t 106) (B false)) 98 false::
 J 108 (.pick (.t 98) (B true) (.t 107))::
 M 109 108::
 G 110 6 109 false::
 H 111 (.call (C 111) [(.t 110),(.k (b8 97))]) 109 false::
 G 112 111 109 false::
 H 113 (.load (some 29) (.t 2)) 112 true::
 H 114 (.aV 21 (.t 2)) 112 true::
 H 115 (.load (some 2) (.t 114)) 112 true::
 H 116 (.call (C 110) [(.t 113),(.t 115)]) 112 true::
 H 117 (.not (.t 116)) 112 true::
 H 118 (.pick (.t 112) (.t 117) (B false)) 109 false::
 J 119 (.pick (.t 109) (B true) (.t 118))::
 M 120 119::
 G 121 6 120 false::
 H 122 (.call (C 111) [(.t 121),(.k (b8 118))]) 120 false::
 G 123 122 120 false::
 H 124 (.load (some 29) (.t 2)) 123 true::
 H 125 (.aV 23 (.t 2)) 123 true::
 H 126 (.load (some 2) (.t 125)) 123 true::
 H 127 (.call (C 110) [(.t 124),(.t 126)]) 123 true::
 H 128 (.not (.t 127)) 123 true::
 H 129 (.pick (.t 123) (.t 128) (B false)) 120 false::
 J 130 (.pick (.t 120) (B true) (.t 129))::[]) 55)
(.cond (.t 130)
(.seq
(F [J 4 (.mv (Z 5))] 1)
.ret)
.skip))
(.seq
(.seq
(F (M 131 6::
 J 132 (.call (C 111) [(.t 131),(.k (b8 116))])::
 M 133 132::
 H 134 (.aV 17 (.t 2)) 133 true::
 H 135 (.load none (.t 134)) 133 true::
 H 136 (.bin .eql (.t 135) (.k (aB 0))) 133 true::
 G 137 136 133 true::
 H 138 (.aV 18 (.t 2)) 137 false::
 H 139 (.load none (.t 138)) 137 false::
 H 140 (.bin .lss (.t 139) (.k (b8 1))) 137 false::
 H 141 (.pick (.t 137) (B true) (.t 140)) 133 true::
 G 142 141 133 true::
 H 143 (.aV 18 (.t 2)) 142 false::
 H 144 (.load none (.t 143)) 142 false::
 H 145 (.bin .gtr (.t 144) (.k (b8 7))) 142 false::
 H 146 (.pick (.t 142) (B true) (.t 145)) 133 true::
 G 147 146 133 true::
 H 148 (.aV 19 (.t 2)) 147 false::
 H 149 (.load none (.t 148)) 147 false::
 H 150 (.bin .gtr (.t 149) (.k (b8 7))) 147 false::
 H 151 (.pick (.t 147) (B true) (.t 150)) 133 true::
 G 152 151 133 true::
 H 153 (.aV 20 (.t 2)) 152 false::
 H 154 (.load none (.t 153)) 152 false::
 H 155 (.bin .gtr (.t 154) (.k (bL 1099511627776))) 152 false::
 H 156 (.pick (.t 152) (B true) (.t 155)) 133 true::
 J 157 (.pick (.t 133) (.t 156) (B false))::
 M 158 157::
 G 159 6 158 false::
 H 160 (.call (C 111) [(.t 159),(.k (b8 113))]) 158 false::
 G 161 160 158 false::
 H 162 (.aV 26 (.t 2)) 161 true::
 H 163 (.load none (.t 162)) 161 true::
 H 164 (.bin .lss (.t 163) (.k (aB 1))) 161 true::
 G 165 164 161 true::
 H 166 (.aV 26 (.t 2)) 165 false::
 H 167 (.load none (.t 166)) 165 false::
 H 168 (.bin .gtr (.t 167) (.k (aB 65535))) 165 false::
 H 169 (.pick (.t 165) (B true) (.t 168)) 161 true::
 H 170 (.pick (.t 161) (.t 169) (B false)) 158 false::
 J 171 (.pick (.t 158) (B true) (.t 170))::
 M 172 171::
 H 173 (.aV 27 (.t 2)) 172 false::
 H 174 (.load none (.t 173)) 172 false::
 H 175 (.bin .gtr (.t 174) (.k (aB 16777215))) 172 false::
 J 176 (.pick (.t 172) (B true) (.t 175))::
 M 177 176::
 G 178 6 177 false::
 H 179 (.call (C 111) [(.t 178),(.k (b8 108))]) 177 false::
 G 180 179 177 false::
 H 181 (.load (some 29) (.t 2)) 180 true::
 H 182 (.call (C 112) [(.t 181)]) 180 true::
 H 183 (.not (.t 182)) 180 true::
 H 184 (.pick (.t 180) (.t 183) (B false)) 177 false::
 J 185 (.pick (.t 177) (B true) (.t 184))::[]) 55)
(.cond (.t 185)
(.seq
(F [J 4 (.mv (Z 5))] 1)
.ret)
.skip))
(.seq
(F [J 4 (.mv (Z 0))] 1)
.ret))))))))
def rv:List RV:=[.tmp 4]
theorem enter:En Tryz.prog 60 186 s rv:=En.mk (c:= Tryz.f60.body.getD .ret) Tryz.func60 rfl (by kernel_rfl) (by kernel_rfl) (by kernel_rfl) (by kernel_rfl)
end ref05_Check
namespace ref10_one
abbrev f:Nat:=61
def s:bX:=(.seq
(F [J 3 (.box 43 (.t 1)),
 J 4 (.mv (B false))] 2)
(.seq
(.seq
(F (M 7 0::
 J 8 (.aV 0 (.t 3))::
 J 9 (.load (some 2) (.t 8))::
 J 10 (.call (C 113) [(.t 7),(.t 9)])::
 J 11 (.bin .neq (.t 10) (Z 1))::
 M 12 11::
 H 13 (.aV 0 (.t 3)) 12 false::
 H 14 (.aV 1 (.t 13)) 12 false::
 H 15 (.load none (.t 14)) 12 false::
 H 16 (.bin .gtr (.t 15) (.k (aB 1))) 12 false::
 G 17 16 12 false::
 G 18 0 17 true::
 H 19 (.aV 0 (.t 3)) 17 true::
 H 20 (.aV 0 (.t 19)) 17 true::
 H 21 (.load none (.t 20)) 17 true::
 H 22 (.aV 0 (.t 3)) 17 true::
 H 23 (.aV 1 (.t 22)) 17 true::
 H 24 (.load none (.t 23)) 17 true::
 H 25 (.bin .sub (.t 24) (.k (aB 1))) 17 true::
 H 26 (.fE [b8 0,aB 0] [(0,1,(.t 21)),(1,1,(.t 25))]) 17 true::
 H 27 (.call (C 113) [(.t 18),(.t 26)]) 17 true::
 H 28 (.bin .neq (.t 27) (Z 1)) 17 true::
 H 29 (.pick (.t 17) (.t 28) (B false)) 12 false::
 J 30 (.pick (.t 12) (B true) (.t 29))::[]) 24)
(.cond (.t 30)
(.seq
(F [J 4 (.mv (B false))] 1)
.ret)
.skip))
(.seq
(.seq
(F [J 5 (.mv (Z 0))] 1)
(.block 0
(.loop
(.seq
(.seq
(F [M 31 5,
 J 32 (.bin .lss (.t 31) (Z 8))] 2)
(.cond (.t 32)
.skip
(.exit 0)))
(.seq
(.block 1
(.seq
(F (M 35 5::
 J 36 (.aV 2 (.t 3))::
 J 37 (.qk 8 1 (.t 36) (.t 35))::
 J 38 (.load none (.t 37))::
 J 39 (.bin .gtr (.t 38) (.k (aB 0)))::
 M 40 39::
 G 41 0 40 true::
 G 42 5 40 true::
 H 43 (.conv .u8 (.t 42)) 40 true::
 G 44 5 40 true::
 H 45 (.aV 2 (.t 3)) 40 true::
 H 46 (.qk 8 1 (.t 45) (.t 44)) 40 true::
 H 47 (.load none (.t 46)) 40 true::
 H 48 (.fE [b8 0,aB 0] [(0,1,(.t 43)),(1,1,(.t 47))]) 40 true::
 H 49 (.call (C 113) [(.t 41),(.t 48)]) 40 true::
 H 50 (.bin .neq (.t 49) (Z 1)) 40 true::
 J 51 (.pick (.t 40) (.t 50) (B false))::[]) 17)
(.cond (.t 51)
(.seq
(F [J 4 (.mv (B false))] 1)
.ret)
.skip)))
(F [M 33 5,
 J 34 (.bin .add (.t 33) (Z 1)),
 M 5 34] 3))))))
(.seq
(.seq
(F [J 6 (.mv (Z 0))] 1)
(.block 2
(.loop
(.seq
(.seq
(F [M 52 6,
 M 53 0,
 J 54 (.len (.t 53)),
 J 55 (.bin .lss (.t 52) (.t 54))] 4)
(.cond (.t 55)
.skip
(.exit 2)))
(.seq
(.block 3
(.seq
(.ey (M 58 0::
 M 59 6::
 J 60 (.ew 29 (.t 58) (.t 59))::
 J 61 (.load (some 29) (.t 60))::
 J 62 (.load (some 29) (.t 3))::
 J 63 (.call (C 23) [(.t 61),(.t 62)])::
 M 64 63::
 G 65 0 64 true::
 G 66 6 64 true::
 H 67 (.ew 29 (.t 65) (.t 66)) 64 true::
 H 68 (.aV 10 (.t 67)) 64 true::
 H 69 (.load none (.t 68)) 64 true::
 H 70 (.aV 10 (.t 3)) 64 true::
 H 71 (.load none (.t 70)) 64 true::
 H 72 (.bin .geq (.t 69) (.t 71)) 64 true::
 G 73 72 64 true::
 H 74 (.aV 2 (.t 3)) 73 false::
 H 75 (.load (some 8) (.t 74)) 73 false::
 G 76 0 73 false::
 G 77 6 73 false::
 H 78 (.ew 29 (.t 76) (.t 77)) 73 false::
 H 79 (.aV 2 (.t 78)) 73 false::
 H 80 (.load (some 8) (.t 79)) 73 false::
 H 81 (.call (C 46) [(.t 75),(.t 80)]) 73 false::
 H 82 (.not (.t 81)) 73 false::
 H 83 (.pick (.t 73) (B true) (.t 82)) 64 true::
 J 84 (.pick (.t 64) (.t 83) (B false))::[]) (0::
0::
3::
7::
0::
31::
63::
127::
127::
511::
1023::
2047::
127::
4223::
16383::
32767::
65535::
131071::
65535::
65535::
851967::
1900543::
3997695::
8388607::
16777215::
33554431::
67108863::[]) true)
(.cond (.t 84)
(.seq
(F [J 4 (.mv (B false))] 1)
.ret)
.skip)))
(F [M 56 6,
 J 57 (.bin .add (.t 56) (Z 1)),
 M 6 57] 3))))))
(.seq
(F [J 4 (.mv (B true))] 1)
.ret)))))
def rv:List RV:=[.tmp 4]
theorem enter:En Tryz.prog 61 85 s rv:=En.mk (c:= Tryz.f61.body.getD .ret) Tryz.func61 rfl (by kernel_rfl) (by kernel_rfl) (by kernel_rfl) (by kernel_rfl)
end ref10_one
namespace law18_row
abbrev f:Nat:=62
def s:bX:=(.seq
(F [J 0 (.mv (.k (.d .aU)))] 1)
(.seq
(F [J 2 (.fE [b8 0,aB 0] [(1,1,(.k (aB 1)))]),
 J 1 (.alloc 37 [b8 0,aB 0]),
 N (.store 2 (.t 1) (.t 2))] 3)
(.seq
(F (J 3 (.load (some 2) (.t 1))::
 J 4 (.load (some 2) (.t 1))::
 J 5 (.fE bU [(0,2,(.t 3)),(10,1,(.k (bL 1))),(11,1,(.k (aB 1))),(12,2,(.t 4))])::
 J 6 (.fE [b8 0,aB 0] [(1,1,(.k (aB 2)))])::
 J 7 (.fE z8 [(0,1,(.k (aB 1)))])::
 J 8 (.load (some 2) (.t 1))::
 J 9 (.load (some 2) (.t 1))::
 J 10 (.fE bU [(0,2,(.t 6)),(2,8,(.t 7)),(10,1,(.k (bL 2))),(11,1,(.k (aB 1))),(12,2,(.t 8)),(14,1,(.k (b8 1))),(15,2,(.t 9)),(17,1,(.k (aB 2))),(18,1,(.k (b8 2))),(20,1,(.k (bL 9)))])::
 J 11 (.fE [b8 0,aB 0] [(1,1,(.k (aB 3)))])::
 J 12 (.fE z8 [(0,1,(.k (aB 2)))])::
 J 13 (.load (some 2) (.t 1))::
 J 14 (.fE [b8 0,aB 0] [(1,1,(.k (aB 2)))])::
 J 15 (.fE bU [(0,2,(.t 11)),(2,8,(.t 12)),(10,1,(.k (bL 3))),(11,1,(.k (aB 2))),(12,2,(.t 13)),(14,1,(.k (b8 3))),(15,2,(.t 14)),(26,1,(.k (aB 1)))])::
 J 16 (.fE [b8 0,aB 0] [(1,1,(.k (aB 4)))])::
 J 17 (.fE z8 [(0,1,(.k (aB 3)))])::
 J 18 (.load (some 2) (.t 1))::
 J 19 (.fE [b8 0,aB 0] [(1,1,(.k (aB 2)))])::
 J 20 (.fE [b8 0,aB 0] [(1,1,(.k (aB 3)))])::
 J 21 (.fE bU [(0,2,(.t 16)),(2,8,(.t 17)),(10,1,(.k (bL 4))),(11,1,(.k (aB 2))),(12,2,(.t 18)),(14,1,(.k (b8 4))),(15,2,(.t 19)),(21,2,(.t 20)),(26,1,(.k (aB 2)))])::
 J 22 (.fE [b8 0,aB 0] [(0,1,(.k (b8 1))),(1,1,(.k (aB 1)))])::
 J 23 (.fE z8 [(0,1,(.k (aB 3)))])::
 J 24 (.load (some 2) (.t 1))::
 J 25 (.load (some 2) (.t 1))::
 J 26 (.fE [b8 0,aB 0] [(1,1,(.k (aB 2)))])::
 J 27 (.fE bU [(0,2,(.t 22)),(2,8,(.t 23)),(10,1,(.k (bL 4))),(11,1,(.k (aB 1))),(12,2,(.t 24)),(14,1,(.k (b8 2))),(15,2,(.t 25)),(21,2,(.t 26))])::
 J 28 (.oU 43 29 5 [b8 0,aB 0,aB 0,aB 0,aB 0,aB 0,aB 0,aB 0,aB 0,aB 0,bL 0,aB 0,b8 0,aB 0,b8 0,b8 0,aB 0,aB 0,b8 0,b8 0,bL 0,b8 0,aB 0,b8 0,aB 0,aB 0,aB 0,aB 0,(.d .aU),b8 0,aB 0,aB 0,aB 0,aB 0,aB 0,aB 0,aB 0,aB 0,aB 0,bL 0,aB 0,b8 0,aB 0,b8 0,b8 0,aB 0,aB 0,b8 0,b8 0,bL 0,b8 0,aB 0,b8 0,aB 0,aB 0,aB 0,aB 0,(.d .aU),b8 0,aB 0,aB 0,aB 0,aB 0,aB 0,aB 0,aB 0,aB 0,aB 0,bL 0,aB 0,b8 0,aB 0,b8 0,b8 0,aB 0,aB 0,b8 0,b8 0,bL 0,b8 0,aB 0,b8 0,aB 0,aB 0,aB 0,aB 0,(.d .aU),b8 0,aB 0,aB 0,aB 0,aB 0,aB 0,aB 0,aB 0,aB 0,aB 0,bL 0,aB 0,b8 0,aB 0,b8 0,b8 0,aB 0,aB 0,b8 0,b8 0,bL 0,b8 0,aB 0,b8 0,aB 0,aB 0,aB 0,aB 0,(.d .aU),b8 0,aB 0,aB 0,aB 0,aB 0,aB 0,aB 0,aB 0,aB 0,aB 0,bL 0,aB 0,b8 0,aB 0,b8 0,b8 0,aB 0,aB 0,b8 0,b8 0,bL 0,b8 0,aB 0,b8 0,aB 0,aB 0,aB 0,aB 0,(.d .aU)] [(0,29,(.t 5)),(29,29,(.t 10)),(58,29,(.t 15)),(87,29,(.t 21)),(116,29,(.t 27))])::
 M 0 28::[]) 27)
.ret)))
def rv:List RV:=[.tmp 0]
theorem enter:En Tryz.prog 62 29 s rv:=En.mk (c:= Tryz.f62.body.getD .ret) Tryz.func62 rfl (by kernel_rfl) (by kernel_rfl) (by kernel_rfl) (by kernel_rfl)
end law18_row
namespace ref10_Compare
abbrev f:Nat:=63
def s:bX:=(.seq
(F [J 2 (.box 43 (.t 0)),
 J 3 (.box 43 (.t 1)),
 J 4 (.mv (Z 0))] 3)
(.seq
(.seq
(F [J 5 (.aV 10 (.t 2)),
 J 6 (.load none (.t 5)),
 J 7 (.aV 10 (.t 3)),
 J 8 (.load none (.t 7)),
 J 9 (.bin .lss (.t 6) (.t 8))] 5)
(.cond (.t 9)
(.seq
(F [J 4 (.mv (.k (.d (.int .i64 (-1)))))] 1)
.ret)
.skip))
(.seq
(.seq
(F [J 10 (.aV 10 (.t 2)),
 J 11 (.load none (.t 10)),
 J 12 (.aV 10 (.t 3)),
 J 13 (.load none (.t 12)),
 J 14 (.bin .gtr (.t 11) (.t 13))] 5)
(.cond (.t 14)
(.seq
(F [J 4 (.mv (Z 1))] 1)
.ret)
.skip))
(.seq
(F [J 15 (.aV 0 (.t 2)),
 J 16 (.load (some 2) (.t 15)),
 J 17 (.aV 0 (.t 3)),
 J 18 (.load (some 2) (.t 17)),
 J 19 (.call (C 114) [(.t 16),(.t 18)]),
 M 4 19] 6)
.ret))))
def rv:List RV:=[.tmp 4]
theorem enter:En Tryz.prog 63 20 s rv:=En.mk (c:= Tryz.f63.body.getD .ret) Tryz.func63 rfl (by kernel_rfl) (by kernel_rfl) (by kernel_rfl) (by kernel_rfl)
end ref10_Compare
namespace revoke_sorted_api_Dot
abbrev f:Nat:=71
def s:bX:=(.seq
(F [J 3 (.box 123 (.t 1)),
 J 4 (.mv (.k (.d .aU)))] 2)
(.seq
(F [J 5 (.alloc 31 [(.d .aU)])] 1)
(.seq
(.seq
(F [M 7 0] 1)
(.block 0
(.mL (.t 7) [8]
(F [J 6 (.alloc 37 [b8 0,aB 0]),
 N (.store 2 (.t 6) (.t 8))] 2)
(.block 1
(.ey [J 9 (.load none (.t 5)),
 J 10 (.load none (.t 3)),
 J 11 (.load (some 2) (.t 6)),
 J 12 (.call (.t 10) [(.t 11)]),
 J 13 (.oU 37 2 1 [b8 0,aB 0] [(0,2,(.t 12))]),
 J 14 (.app 37 2 8 (.t 9) (.t 13)),
 N (.store 1 (.t 5) (.t 14))] [0,
0,
0,
6,
14,
31,
63] true)))))
(.seq
(F [J 15 (.load none (.t 5)),
 J 16 (.call (C 77) [(.t 15)]),
 M 4 16] 3)
.ret))))
def rv:List RV:=[.tmp 4]
theorem enter:En Tryz.prog 71 17 s rv:=En.mk (c:= Tryz.f71.body.getD .ret) Tryz.func71 rfl (by kernel_rfl) (by kernel_rfl) (by kernel_rfl) (by kernel_rfl)
end revoke_sorted_api_Dot
namespace revoke_Index_threats
abbrev f:Nat:=72
def s:bX:=(.seq
(F [J 2 (.box 27 (.t 0)),
 J 3 (.box 43 (.t 1)),
 J 4 (.mv (.k (.d .fS)))] 3)
(.seq
(F [J 5 (.sE (.func 136) [] [(.t 2),(.t 3)]),
 M 4 5] 2)
.ret))
def rv:List RV:=[.tmp 4]
theorem enter:En Tryz.prog 72 6 s rv:=En.mk (c:= Tryz.f72.body.getD .ret) Tryz.func72 rfl (by kernel_rfl) (by kernel_rfl) (by kernel_rfl) (by kernel_rfl)
end revoke_Index_threats
namespace revoke_Index_Threats_1
abbrev f:Nat:=73
def s:bX:=(.seq
(F [J 1 (.box 37 (.t 0)),
 J 2 (.alloc 37 [b8 0,aB 0])] 2)
(.seq
(F [J 3 (.load (some 2) (.t 1)),
 N (.store 2 (.t 2) (.t 3))] 2)
.ret))
def rv:List RV:=[.cell 2 (some 2)]
theorem enter:En Tryz.prog 73 4 s rv:=En.mk (c:= Tryz.f73.body.getD .ret) Tryz.func73 rfl (by kernel_rfl) (by kernel_rfl) (by kernel_rfl) (by kernel_rfl)
end revoke_Index_Threats_1
namespace revoke_Index_none
abbrev f:Nat:=74
def s:bX:=(.seq
(F [J 2 (.mv (B false))] 1)
(.seq
(F [M 3 0,
 J 4 (.gX false 0 (.t 3)),
 M 5 4,
 G 6 0 5 false,
 H 7 (.d_ (.t 6)) 5 false,
 H 8 (.aV 1 (.t 7)) 5 false,
 H 9 (.load none (.t 8)) 5 false,
 H 10 (.gX false 1 (.t 9)) 5 false,
 J 11 (.pick (.t 5) (B true) (.t 10)),
 M 2 11] 10)
.ret))
def rv:List RV:=[.tmp 2]
theorem enter:En Tryz.prog 74 12 s rv:=En.mk (c:= Tryz.f74.body.getD .ret) Tryz.func74 rfl (by kernel_rfl) (by kernel_rfl) (by kernel_rfl) (by kernel_rfl)
end revoke_Index_none
namespace revoke_Index_Threatened_1
abbrev f:Nat:=79
def s:bX:=(.seq
(F [J 3 (.box 101 (.t 0))] 1)
(.seq
(F [J 7 (.load none (.t 1)),
 J 8 (.d_ (.t 7)),
 J 9 (.aV 1 (.t 8)),
 J 10 (.load none (.t 9)),
 J 11 (.lI (.t 10))] 5)
(.block 0
(.loop
(.seq
(F [J 12 (.jY (.t 11)),
 J 13 (.ext 0 (.t 12))] 2)
(.seq
(.cond (.t 13)
.skip
(.exit 0))
(.block 1
(.seq
(F [J 14 (.mI (.t 11)),
 J 15 (.ext 1 (.t 14)),
 J 5 (.alloc 43 bU),
 N (.store 29 (.t 5) (.t 15))] 4)
(.seq
(F [J 16 (.load none (.t 1)),
 J 17 (.load (some 29) (.t 5)),
 J 18 (.call (C 72) [(.t 16),(.t 17)])] 3)
(.block 2
(.mL (.t 18) [19]
(F [J 6 (.alloc 37 [b8 0,aB 0]),
 N (.store 2 (.t 6) (.t 19))] 2)
(.block 3
(.seq
(F [J 20 (.load (some 2) (.t 6)),
 J 21 (.load (some 2) (.t 2)),
 J 22 (.eqv false [true,true] (.t 20) (.t 21)),
 M 23 22,
 H 24 (.load none (.t 3)) 23 true,
 H 25 (.load (some 29) (.t 5)) 23 true,
 H 26 (.call (.t 24) [(.t 25)]) 23 true,
 H 27 (.not (.t 26)) 23 true,
 J 28 (.pick (.t 23) (.t 27) (B false))] 9)
(.cond (.t 28)
.ret
.skip))))))))))))))
def rv:List RV:=[]
theorem enter:En Tryz.prog 79 29 s rv:=En.mk (c:= Tryz.f79.body.getD .ret) Tryz.func79 rfl (by kernel_rfl) (by kernel_rfl) (by kernel_rfl) (by kernel_rfl)
end revoke_Index_Threatened_1
namespace revoke_sorted_api_Op
abbrev f:Nat:=80
def s:bX:=(.seq
(F [J 3 (.box 130 (.t 1)),
 J 4 (.mv (.k (.d .aU)))] 2)
(.seq
(F [J 5 (.alloc 31 [(.d .aU)])] 1)
(.seq
(.seq
(F [M 7 0] 1)
(.block 0
(.mL (.t 7) [8]
(F [J 6 (.alloc 43 bU),
 N (.store 29 (.t 6) (.t 8))] 2)
(.block 1
(.ey [J 9 (.load none (.t 5)),
 J 10 (.load none (.t 3)),
 J 11 (.load (some 29) (.t 6)),
 J 12 (.call (.t 10) [(.t 11)]),
 J 13 (.oU 37 2 1 [b8 0,aB 0] [(0,2,(.t 12))]),
 J 14 (.app 37 2 8 (.t 9) (.t 13)),
 N (.store 1 (.t 5) (.t 14))] [0,
0,
0,
6,
14,
31,
63] true)))))
(.seq
(F [J 15 (.load none (.t 5)),
 J 16 (.call (C 77) [(.t 15)]),
 M 4 16] 3)
.ret))))
def rv:List RV:=[.tmp 4]
theorem enter:En Tryz.prog 80 17 s rv:=En.mk (c:= Tryz.f80.body.getD .ret) Tryz.func80 rfl (by kernel_rfl) (by kernel_rfl) (by kernel_rfl) (by kernel_rfl)
end revoke_sorted_api_Op
namespace revoke_Index_Threatened_2
abbrev f:Nat:=81
def s:bX:=(.seq
(F [J 1 (.box 43 (.t 0)),
 J 2 (.alloc 37 [b8 0,aB 0])] 2)
(.seq
(F [J 3 (.aV 0 (.t 1)),
 J 4 (.load (some 2) (.t 3)),
 N (.store 2 (.t 2) (.t 4))] 3)
.ret))
def rv:List RV:=[.cell 2 (some 2)]
theorem enter:En Tryz.prog 81 5 s rv:=En.mk (c:= Tryz.f81.body.getD .ret) Tryz.func81 rfl (by kernel_rfl) (by kernel_rfl) (by kernel_rfl) (by kernel_rfl)
end revoke_Index_Threatened_2
namespace ref05_zero
abbrev f:Nat:=108
def s:bX:=(.seq
(F [J 1 (.box 43 (.t 0)),
 J 2 (.mv (B false))] 2)
(.seq
(F [J 5 (.aV 14 (.t 1)),
 J 6 (.load none (.t 5)),
 J 7 (.call (C 109) [(.t 6)]),
 M 3 7] 4)
(.seq
(F [J 8 (.fE [b8 0,aB 0] []),
 J 4 (.alloc 37 [b8 0,aB 0]),
 N (.store 2 (.t 4) (.t 8))] 3)
(.seq
(F (M 9 3::
 J 10 (.call (C 111) [(.t 9),(.k (b8 99))])::
 M 11 10::
 H 12 (.aV 15 (.t 1)) 11 false::
 H 13 (.load (some 2) (.t 12)) 11 false::
 H 14 (.load (some 2) (.t 4)) 11 false::
 H 15 (.eqv false [true,true] (.t 13) (.t 14)) 11 false::
 J 16 (.pick (.t 11) (B true) (.t 15))::
 M 17 16::
 G 18 3 17 true::
 H 19 (.call (C 111) [(.t 18),(.k (b8 116))]) 17 true::
 G 20 19 17 true::
 H 21 (.aV 17 (.t 1)) 20 false::
 H 22 (.load none (.t 21)) 20 false::
 H 23 (.bin .eql (.t 22) (.k (aB 0))) 20 false::
 H 24 (.pick (.t 20) (B true) (.t 23)) 17 true::
 J 25 (.pick (.t 17) (.t 24) (B false))::
 M 26 25::
 G 27 3 26 true::
 H 28 (.call (C 111) [(.t 27),(.k (b8 114))]) 26 true::
 G 29 28 26 true::
 H 30 (.aV 18 (.t 1)) 29 false::
 H 31 (.load none (.t 30)) 29 false::
 H 32 (.bin .eql (.t 31) (.k (b8 0))) 29 false::
 H 33 (.pick (.t 29) (B true) (.t 32)) 26 true::
 J 34 (.pick (.t 26) (.t 33) (B false))::
 M 35 34::
 G 36 3 35 true::
 H 37 (.call (C 111) [(.t 36),(.k (b8 100))]) 35 true::
 G 38 37 35 true::
 H 39 (.aV 19 (.t 1)) 38 false::
 H 40 (.load none (.t 39)) 38 false::
 H 41 (.bin .eql (.t 40) (.k (b8 0))) 38 false::
 H 42 (.pick (.t 38) (B true) (.t 41)) 35 true::
 J 43 (.pick (.t 35) (.t 42) (B false))::
 M 44 43::
 G 45 3 44 true::
 H 46 (.call (C 111) [(.t 45),(.k (b8 112))]) 44 true::
 G 47 46 44 true::
 H 48 (.aV 20 (.t 1)) 47 false::
 H 49 (.load none (.t 48)) 47 false::
 H 50 (.bin .eql (.t 49) (.k (bL 0))) 47 false::
 H 51 (.pick (.t 47) (B true) (.t 50)) 44 true::
 J 52 (.pick (.t 44) (.t 51) (B false))::
 M 53 52::
 G 54 3 53 true::
 H 55 (.call (C 111) [(.t 54),(.k (b8 97))]) 53 true::
 G 56 55 53 true::
 H 57 (.aV 21 (.t 1)) 56 false::
 H 58 (.load (some 2) (.t 57)) 56 false::
 H 59 (.load (some 2) (.t 4)) 56 false::
 H 60 (.eqv false [true,true] (.t 58) (.t 59)) 56 false::
 H 61 (.pick (.t 56) (B true) (.t 60)) 53 true::
 J 62 (.pick (.t 53) (.t 61) (B false))::
 M 63 62::
 G 64 3 63 true::
 H 65 (.call (C 111) [(.t 64),(.k (b8 118))]) 63 true::
 G 66 65 63 true::
 H 67 (.aV 23 (.t 1)) 66 false::
 H 68 (.load (some 2) (.t 67)) 66 false::
 H 69 (.load (some 2) (.t 4)) 66 false::
 H 70 (.eqv false [true,true] (.t 68) (.t 69)) 66 false::
 H 71 (.pick (.t 66) (B true) (.t 70)) 63 true::
 J 72 (.pick (.t 63) (.t 71) (B false))::
 M 73 72::
 G 74 3 73 true::
 H 75 (.call (C 111) [(.t 74),(.k (b8 105))]) 73 true::
 G 76 75 73 true::
 H 77 (.aV 25 (.t 1)) 76 false::
 H 78 (.load none (.t 77)) 76 false::
 H 79 (.bin .eql (.t 78) (.k (aB 0))) 76 false::
 H 80 (.pick (.t 76) (B true) (.t 79)) 73 true::
 J 81 (.pick (.t 73) (.t 80) (B false))::
 M 82 81::
 G 83 3 82 true::
 H 84 (.call (C 111) [(.t 83),(.k (b8 113))]) 82 true::
 G 85 84 82 true::
 H 86 (.aV 26 (.t 1)) 85 false::
 H 87 (.load none (.t 86)) 85 false::
 H 88 (.bin .eql (.t 87) (.k (aB 0))) 85 false::
 H 89 (.pick (.t 85) (B true) (.t 88)) 82 true::
 J 90 (.pick (.t 82) (.t 89) (B false))::
 M 91 90::
 G 92 3 91 true::
 H 93 (.call (C 111) [(.t 92),(.k (b8 101))]) 91 true::
 G 94 93 91 true::
 H 95 (.aV 27 (.t 1)) 94 false::
 H 96 (.load none (.t 95)) 94 false::
 H 97 (.bin .eql (.t 96) (.k (aB 0))) 94 false::
 H 98 (.pick (.t 94) (B true) (.t 97)) 91 true::
 J 99 (.pick (.t 91) (.t 98) (B false))::
 M 100 99::
 G 101 3 100 true::
 H 102 (.call (C 111) [(.t 101),(.k (b8 108))]) 100 true::
 G 103 102 100 true::
 H 104 (.aV 28 (.t 1)) 103 false::
 H 105 (.load none (.t 104)) 103 false::
 H 106 (.len (.t 105)) 103 false::
 H 107 (.bin .eql (.t 106) (Z 0)) 103 false::
 H 108 (.pick (.t 103) (B true) (.t 107)) 100 true::
 J 109 (.pick (.t 100) (.t 108) (B false))::
 M 2 109::[]) 102)
.ret))))
def rv:List RV:=[.tmp 2]
theorem enter:En Tryz.prog 108 110 s rv:=En.mk (c:= Tryz.f108.body.getD .ret) Tryz.func108 rfl (by kernel_rfl) (by kernel_rfl) (by kernel_rfl) (by kernel_rfl)
end ref05_zero
namespace ref05_Has
abbrev f:Nat:=109
def s:bX:=(.seq
(F [J 2 (.mv (.k (.d (.str []))))] 1)
(.seq
(F [J 4 (.oU 9 1 9 [(.d (.str [])),(.d (.str [])),(.d (.str [])),(.d (.str [])),(.d (.str [])),(.d (.str [])),(.d (.str [])),(.d (.str [])),(.d (.str []))] [(0,1,(.k (.d (.str [])))),(1,1,(.k (.d (.str [99,116,114,100,112])))),(2,1,(.k (.d (.str [99,97])))),(3,1,(.k (.d (.str [99,105,113,101])))),(4,1,(.k (.d (.str [99,97,113])))),(5,1,(.k (.d (.str [99,97])))),(6,1,(.k (.d (.str [99,97,118])))),(7,1,(.k (.d (.str [99,97,118])))),(8,1,(.k (.d (.str [99,108]))))]),
 M 3 4] 2)
(.seq
(.seq
(F [M 5 0,
 J 6 (.conv .i64 (.t 5)),
 M 7 3,
 J 8 (.len (.t 7)),
 J 9 (.bin .geq (.t 6) (.t 8))] 5)
(.cond (.t 9)
(.seq
(F [J 2 (.mv (.k (.d (.str []))))] 1)
.ret)
.skip))
(.seq
(F [M 10 3,
 M 11 0,
 J 12 (.ew 1 (.t 10) (.t 11)),
 J 13 (.load none (.t 12)),
 M 2 13] 5)
.ret))))
def rv:List RV:=[.tmp 2]
theorem enter:En Tryz.prog 109 14 s rv:=En.mk (c:= Tryz.f109.body.getD .ret) Tryz.func109 rfl (by kernel_rfl) (by kernel_rfl) (by kernel_rfl) (by kernel_rfl)
end ref05_Has
namespace ref05_Covers
abbrev f:Nat:=110
def s:bX:=(.seq
(F [J 2 (.box 43 (.t 0)),
 J 3 (.box 37 (.t 1)),
 J 4 (.mv (B false))] 3)
(.seq
(.ey (J 5 (.aV 0 (.t 3))::
 J 6 (.load none (.t 5))::
 J 7 (.bin .lss (.t 6) (.k (b8 8)))::
 M 8 7::
 H 9 (.aV 1 (.t 3)) 8 true::
 H 10 (.load none (.t 9)) 8 true::
 H 11 (.bin .geq (.t 10) (.k (aB 1))) 8 true::
 J 12 (.pick (.t 8) (.t 11) (B false))::
 M 13 12::
 H 14 (.aV 0 (.t 3)) 13 true::
 H 15 (.load none (.t 14)) 13 true::
 H 16 (.aV 2 (.t 2)) 13 true::
 H 17 (.qk 8 1 (.t 16) (.t 15)) 13 true::
 H 18 (.load none (.t 17)) 13 true::
 H 19 (.aV 1 (.t 3)) 13 true::
 H 20 (.load none (.t 19)) 13 true::
 H 21 (.bin .geq (.t 18) (.t 20)) 13 true::
 J 22 (.pick (.t 13) (.t 21) (B false))::
 M 4 22::[]) (0::
1::
3::
7::
15::
31::
63::
127::
255::
511::
1023::
511::
4095::
8191::
511::
16895::
65535::
131071::
262143::[]) true)
.ret))
def rv:List RV:=[.tmp 4]
theorem enter:En Tryz.prog 110 23 s rv:=En.mk (c:= Tryz.f110.body.getD .ret) Tryz.func110 rfl (by kernel_rfl) (by kernel_rfl) (by kernel_rfl) (by kernel_rfl)
end ref05_Covers
namespace ref05_in
abbrev f:Nat:=111
def s:bX:=(.seq
(F [J 4 (.mv (B false))] 1)
(.seq
(.seq
(F [J 5 (.mv (Z 0))] 1)
(.block 0
(.loop
(.seq
(.seq
(F [M 6 5,
 M 7 0,
 J 8 (.lens (.t 7)),
 J 9 (.bin .lss (.t 6) (.t 8))] 4)
(.cond (.t 9)
.skip
(.exit 0)))
(.seq
(.block 1
(.seq
(F [M 12 0,
 M 13 5,
 J 14 (.EK (.t 12) (.t 13)),
 M 15 1,
 J 16 (.bin .eql (.t 14) (.t 15))] 5)
(.cond (.t 16)
(.seq
(F [J 4 (.mv (B true))] 1)
.ret)
.skip)))
(F [M 10 5,
 J 11 (.bin .add (.t 10) (Z 1)),
 M 5 11] 3))))))
(.seq
(F [J 4 (.mv (B false))] 1)
.ret)))
def rv:List RV:=[.tmp 4]
theorem enter:En Tryz.prog 111 17 s rv:=En.mk (c:= Tryz.f111.body.getD .ret) Tryz.func111 rfl (by kernel_rfl) (by kernel_rfl) (by kernel_rfl) (by kernel_rfl)
end ref05_in
namespace ref05_lines
abbrev f:Nat:=112
def s:bX:=(.seq
(F [J 1 (.box 43 (.t 0)),
 J 2 (.mv (B false))] 2)
(.seq
(.seq
(F [J 5 (.aV 28 (.t 1)),
 J 6 (.load none (.t 5)),
 J 7 (.len (.t 6)),
 J 8 (.bin .lss (.t 7) (Z 1)),
 M 9 8,
 H 10 (.aV 28 (.t 1)) 9 false,
 H 11 (.load none (.t 10)) 9 false,
 H 12 (.len (.t 11)) 9 false,
 H 13 (.bin .gtr (.t 12) (Z 16)) 9 false,
 J 14 (.pick (.t 9) (B true) (.t 13))] 10)
(.cond (.t 14)
(.seq
(F [J 2 (.mv (B false))] 1)
.ret)
.skip))
(.seq
(.seq
(F [J 3 (.mv (Z 0))] 1)
(.block 0
(.loop
(.seq
(.seq
(F [M 15 3,
 J 16 (.aV 28 (.t 1)),
 J 17 (.load none (.t 16)),
 J 18 (.len (.t 17)),
 J 19 (.bin .lss (.t 15) (.t 18))] 5)
(.cond (.t 19)
.skip
(.exit 0)))
(.seq
(.block 1
(.seq
(.seq
(.ey (J 22 (.load (some 29) (.t 1))::
 J 23 (.aV 28 (.t 1))::
 J 24 (.load none (.t 23))::
 M 25 3::
 J 26 (.ew 4 (.t 24) (.t 25))::
 J 27 (.aV 0 (.t 26))::
 J 28 (.load (some 2) (.t 27))::
 J 29 (.call (C 110) [(.t 22),(.t 28)])::
 J 30 (.not (.t 29))::
 M 31 30::
 H 32 (.load (some 29) (.t 1)) 31 false::
 H 33 (.aV 28 (.t 1)) 31 false::
 H 34 (.load none (.t 33)) 31 false::
 G 35 3 31 false::
 H 36 (.ew 4 (.t 34) (.t 35)) 31 false::
 H 37 (.aV 2 (.t 36)) 31 false::
 H 38 (.load (some 2) (.t 37)) 31 false::
 H 39 (.call (C 110) [(.t 32),(.t 38)]) 31 false::
 H 40 (.not (.t 39)) 31 false::
 J 41 (.pick (.t 31) (B true) (.t 40))::[]) (0::
0::
2::
0::
14::
30::
62::
127::
255::
511::
1023::
1023::
3071::
1023::
15359::
31743::
64511::
131071::
262143::
524287::[]) true)
(.cond (.t 41)
(.seq
(F [J 2 (.mv (B false))] 1)
.ret)
.skip))
(.seq
(F [J 4 (.mv (Z 0))] 1)
(.block 2
(.loop
(.seq
(.seq
(F [M 42 4,
 M 43 3,
 J 44 (.bin .lss (.t 42) (.t 43))] 3)
(.cond (.t 44)
.skip
(.exit 2)))
(.seq
(.block 3
(.seq
(.ey [J 47 (.aV 28 (.t 1)),
 J 48 (.load none (.t 47)),
 M 49 4,
 J 50 (.ew 4 (.t 48) (.t 49)),
 J 51 (.aV 0 (.t 50)),
 J 52 (.load (some 2) (.t 51)),
 J 53 (.aV 28 (.t 1)),
 J 54 (.load none (.t 53)),
 M 55 3,
 J 56 (.ew 4 (.t 54) (.t 55)),
 J 57 (.aV 0 (.t 56)),
 J 58 (.load (some 2) (.t 57)),
 J 59 (.eqv false [true,true] (.t 52) (.t 58))] [0,
1,
0,
7,
15,
31,
0,
64,
0,
448,
960,
1984,
4095] true)
(.cond (.t 59)
(.seq
(F [J 2 (.mv (B false))] 1)
.ret)
.skip)))
(F [M 45 4,
 J 46 (.bin .add (.t 45) (Z 1)),
 M 4 46] 3))))))))
(F [M 20 3,
 J 21 (.bin .add (.t 20) (Z 1)),
 M 3 21] 3))))))
(.seq
(F [J 2 (.mv (B true))] 1)
.ret))))
def rv:List RV:=[.tmp 2]
theorem enter:En Tryz.prog 112 60 s rv:=En.mk (c:= Tryz.f112.body.getD .ret) Tryz.func112 rfl (by kernel_rfl) (by kernel_rfl) (by kernel_rfl) (by kernel_rfl)
end ref05_lines
namespace ref10_there
abbrev f:Nat:=113
def s:bX:=(.seq
(F [J 3 (.box 37 (.t 1)),
 J 4 (.mv (Z 0))] 2)
(.seq
(F [J 5 (.mv (Z 0))] 1)
(.seq
(.seq
(F [J 6 (.mv (Z 0))] 1)
(.block 0
(.loop
(.seq
(.seq
(F [M 7 6,
 M 8 0,
 J 9 (.len (.t 8)),
 J 10 (.bin .lss (.t 7) (.t 9))] 4)
(.cond (.t 10)
.skip
(.exit 0)))
(.seq
(.block 1
(.seq
(.ey [M 13 0,
 M 14 6,
 J 15 (.ew 29 (.t 13) (.t 14)),
 J 16 (.aV 0 (.t 15)),
 J 17 (.load (some 2) (.t 16)),
 J 18 (.load (some 2) (.t 3)),
 J 19 (.eqv false [true,true] (.t 17) (.t 18))] [0,
0,
3,
7,
15,
0,
63] true)
(.cond (.t 19)
(F [M 20 5,
 J 21 (.bin .add (.t 20) (Z 1)),
 M 5 21] 3)
.skip)))
(F [M 11 6,
 J 12 (.bin .add (.t 11) (Z 1)),
 M 6 12] 3))))))
(.seq
(F [M 22 5,
 M 4 22] 2)
.ret))))
def rv:List RV:=[.tmp 4]
theorem enter:En Tryz.prog 113 23 s rv:=En.mk (c:= Tryz.f113.body.getD .ret) Tryz.func113 rfl (by kernel_rfl) (by kernel_rfl) (by kernel_rfl) (by kernel_rfl)
end ref10_there
namespace revoke_Index_threats_1
abbrev f:Nat:=136
def s:bX:=(.seq
(.ey [J 8 (.load none (.t 1)),
 J 9 (.d_ (.t 8)),
 J 10 (.aV 2 (.t 9)),
 J 11 (.load none (.t 10)),
 J 12 (.aV 0 (.t 2)),
 J 13 (.load (some 2) (.t 12)),
 J 14 (.look [true,true] true (.d .aU) (.t 11) (.t 13) false),
 J 15 (.len (.t 14)),
 J 16 (.mv (Z 0))] [0,
1,
3,
7,
0,
16,
63,
127,
0] true)
(.block 0
(.loop
(.seq
(F [J 17 (.bin .lss (.t 16) (.t 15))] 1)
(.seq
(.cond (.t 17)
.skip
(.exit 0))
(.seq
(.block 1
(.seq
(F [J 18 (.ew 2 (.t 14) (.t 16)),
 J 19 (.load (some 2) (.t 18)),
 J 5 (.alloc 37 [b8 0,aB 0]),
 N (.store 2 (.t 5) (.t 19))] 4)
(.seq
(.ey [J 20 (.load none (.t 1)),
 J 21 (.d_ (.t 20)),
 J 22 (.aV 3 (.t 21)),
 J 23 (.load none (.t 22)),
 J 24 (.load (some 2) (.t 5)),
 J 25 (.look [true,true] true (.d .aU) (.t 23) (.t 24) false),
 J 26 (.len (.t 25)),
 J 27 (.mv (Z 0))] [0,
1,
3,
7,
0,
31,
63,
0] true)
(.block 2
(.loop
(.seq
(F [J 28 (.bin .lss (.t 27) (.t 26))] 1)
(.seq
(.cond (.t 28)
.skip
(.exit 2))
(.seq
(.block 3
(.seq
(F [J 29 (.ew 2 (.t 25) (.t 27)),
 J 30 (.load (some 2) (.t 29)),
 J 7 (.alloc 37 [b8 0,aB 0]),
 N (.store 2 (.t 7) (.t 30))] 4)
(.seq
(.ey [J 31 (.load (some 29) (.t 2)),
 J 32 (.load none (.t 1)),
 J 33 (.d_ (.t 32)),
 J 34 (.aV 1 (.t 33)),
 J 35 (.load none (.t 34)),
 J 36 (.load (some 2) (.t 7)),
 J 37 (.look [true,true] true (.agg bU) (.t 35) (.t 36) false),
 J 38 (.call (C 137) [(.t 31),(.t 37)]),
 J 39 (.not (.t 38)),
 M 40 39,
 G 41 0 40 true,
 H 42 (.load (some 2) (.t 7)) 40 true,
 H 43 (.call (.t 41) [(.t 42)]) 40 true,
 H 44 (.not (.t 43)) 40 true,
 J 45 (.pick (.t 40) (.t 44) (B false))] [0,
0,
2,
6,
14,
0,
62,
127,
255,
511,
1023,
1023,
4095,
8191,
16383] true)
(.cond (.t 45)
.ret
.skip))))
(F [J 46 (.bin .add (.t 27) (Z 1)),
 M 27 46] 2)))))))))
(F [J 47 (.bin .add (.t 16) (Z 1)),
 M 16 47] 2)))))))
def rv:List RV:=[]
theorem enter:En Tryz.prog 136 48 s rv:=En.mk (c:= Tryz.f136.body.getD .ret) Tryz.func136 rfl (by kernel_rfl) (by kernel_rfl) (by kernel_rfl) (by kernel_rfl)
end revoke_Index_threats_1
end
end Go.Proofs.YtaelhkkjgfobhaaGreat
