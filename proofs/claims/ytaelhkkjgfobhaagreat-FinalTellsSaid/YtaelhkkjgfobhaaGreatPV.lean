/-
 The code of the functions in the small form, by program (gen.py); each is checked against the translation by the kernel.
-/
import Derived.Test.YtaelhkkjgfobhaaGreatChecked
import Derived.Test.YtaelhkkjgfobhaaGreatP4
set_option linter.unusedVariables false
set_option linter.unusedSimpArgs false
set_option linter.unusedSectionVars false
namespace Go.Proofs.YtaelhkkjgfobhaaGreat
open Go.Sl Go.Sl.Co Go.Proofs
section
theorem mixed:Tryz.prog.follows .mixedOrders=true:=by kernel_rfl
abbrev Kz:Nat:=4
abbrev k_:Nat:=22
abbrev Ey:Nat:=35
abbrev pG:Nat:=37
abbrev ku:Nat:=39
abbrev qb:Nat:=41
abbrev dh:Nat:=43
abbrev iY:Nat:=148
namespace ref10_Great
abbrev f:Nat:=14
def s:bP:=(S
(F [J 2 (.mv (B false))] 1)
(S
(F [J 3 (.mv (Z 0))] 1)
(S
(S
(F [J 4 (.mv (Z 0))] 1)
(.block 0
(.loop
(S
(S
(F [M 5 4,
 M 6 0,
 L 7 6,
 V 8 .lss 5 7,
 M 9 8,
 G 10 4 9 true,
 H 11 (.bin .lss (.t 10) (Z 100)) 9 true,
 U 12 9 11] 8)
(.cond (.t 12)
.skip
(.exit 0)))
(S
(.block 1
(F [M 15 3,
 M 16 0,
 M 17 4,
 I 18 29 16 17,
 D 19 28 18,
 T 20 19,
 L 21 20,
 V 22 .add 15 21,
 M 3 22] 9))
(F [M 13 4,
 Y 14 .add 13 1,
 M 4 14] 3))))))
(S
(F [M 23 0,
 L 24 23,
 Y 25 .gtr 24 80,
 M 26 25,
 G 27 3 26 false,
 H 28 (.bin .gtr (.t 27) (Z 300)) 26 false,
 J 29 (.pick (.t 26) (B true) (.t 28)),
 M 2 29] 8)
.ret))))
def rv:List RV:=[.tmp 2]
theorem enter:En Tryz.prog 14 30 s rv:=En.mk (c:=Tryz.f14.body.getD .ret) Tryz.func14
end ref10_Great
namespace shape_New
abbrev f:Nat:=19
def s:bP:=(S
(F [J 2 (.mv (.k (.d .j0)))] 1)
(S
(F [M 12 0,
 P 13 69 12,
 J 14 (.zZ),
 J 15 (.zZ),
 J 16 (.zZ),
 J 17 (.fL [(.d .j0),(.d .jj),(.d .jj),(.d .jj)] [(0,1,(.t 13)),(1,1,(.t 14)),(2,1,(.t 15)),(3,1,(.t 16))]),
 x 18 117 17,
 M 3 18] 8)
(S
(S
(F [M 19 0,
 L 20 19,
 J 21 (.mv (Z 0))] 3)
(.block 0
(.loop
(S
(F [V 22 .lss 21 20] 1)
(S
(.cond (.t 22)
.skip
(.exit 0))
(S
(.block 1
(S
(F [I 23 29 19 21,
 K 24 29 23,
 J 5 (.alloc 43 bF),
 W 29 5 24] 4)
(S
(.fm [M 26 3,
 A 27 26,
 D 28 1 27,
 T 29 28,
 D 30 0 5,
 K 31 2 30,
 J 32 (.look [true,true] true (.agg bF) (.t 29) (.t 31) true),
 M 25 32,
 E 33 0 25,
 E 34 1 25,
 J 6 (.alloc 43 bF),
 W 29 6 33,
 M 7 34] [0,
1,
3,
7,
0,
16,
63,
127,
255,
255,
0,
1535,
4095] true)
(S
(F [M 35 7,
 O 36 35] 2)
(.cond (.t 36)
(.fm [M 37 3,
 A 38 37,
 D 39 1 38,
 T 40 39,
 D 41 0 5,
 K 42 2 41,
 K 43 29 5,
 N (.qF [true,true] true (.t 40) (.t 42) (.t 43))] [0,
1,
3,
7,
0,
16,
0,
127] true)
.skip)))))
(F [Y 44 .add 21 1,
 M 21 44] 2)))))))
(S
(S
(F [M 45 3,
 A 46 45,
 D 47 1 46,
 T 48 47,
 J 49 (.mO (.t 48))] 5)
(.block 2
(.loop
(S
(F [J 50 (.lH (.t 49)),
 E 51 0 50] 2)
(S
(.cond (.t 51)
.skip
(.exit 2))
(.block 3
(S
(F [J 52 (.oo (.t 49)),
 E 53 0 52,
 E 54 1 52,
 J 8 (.alloc 37 [b8 0,av 0]),
 J 9 (.alloc 43 bF),
 W 2 8 53,
 W 29 9 54] 7)
(S
(F [D 55 14 9,
 T 56 55,
 J 57 (.bin .eql (.t 56) (.k (b8 3))),
 M 58 57,
 G 59 3 58 true,
 H 60 (.load (some 29) (.t 9)) 58 true,
 H 61 (.call (C 70) [(.t 59),(.t 60)]) 58 true,
 H 62 (.bin .eql (.t 61) (Z 0)) 58 true,
 U 63 58 62] 9)
(.cond (.t 63)
(.fm [M 64 3,
 A 65 64,
 D 66 2 65,
 T 67 66,
 K 68 2 8,
 N (.qF [true,true] true (.t 67) (.t 68) (Z 1))] [0,
1,
3,
7,
0,
31] true)
.skip)))))))))
(S
(S
(F [M 69 3,
 A 70 69,
 D 71 1 70,
 T 72 71,
 J 73 (.mO (.t 72))] 5)
(.block 4
(.loop
(S
(F [J 74 (.lH (.t 73)),
 E 75 0 74] 2)
(S
(.cond (.t 75)
.skip
(.exit 4))
(.block 5
(S
(F [J 76 (.oo (.t 73)),
 E 77 0 76,
 E 78 1 76,
 J 10 (.alloc 37 [b8 0,av 0]),
 J 11 (.alloc 43 bF),
 W 2 10 77,
 W 29 11 78] 7)
(S
(F [D 79 14 11,
 T 80 79,
 J 81 (.bin .eql (.t 80) (.k (b8 4))),
 M 82 81,
 G 83 3 82 true,
 H 84 (.load (some 29) (.t 11)) 82 true,
 H 85 (.call (C 70) [(.t 83),(.t 84)]) 82 true,
 H 86 (.bin .eql (.t 85) (Z 0)) 82 true,
 U 87 82 86] 9)
(.cond (.t 87)
(.fm [M 88 3,
 A 89 88,
 D 90 3 89,
 T 91 90,
 K 92 2 10,
 D 93 21 11,
 K 94 2 93,
 N (.qF [true,true] true (.t 91) (.t 92) (.t 94))] [0,
1,
3,
7,
0,
0,
32,
127] true)
.skip)))))))))
(S
(F [M 95 3,
 M 2 95] 2)
.ret))))))
def rv:List RV:=[.tmp 2]
theorem enter:En Tryz.prog 19 96 s rv:=En.mk (c:=Tryz.f19.body.getD .ret) Tryz.func19
end shape_New
namespace ref03_In
abbrev f:Nat:=21
def s:bP:=(S
(F [x 3 37 1,
 J 4 (.mv (B false))] 2)
(S
(S
(F [J 5 (.mv (Z 0))] 1)
(.block 0
(.loop
(S
(S
(F [M 6 5,
 M 7 0,
 L 8 7,
 V 9 .lss 6 8] 4)
(.cond (.t 9)
.skip
(.exit 0)))
(S
(.block 1
(S
(.fm [M 12 0,
 M 13 5,
 I 14 2 12 13,
 K 15 2 14,
 K 16 2 3,
 J 17 (.eqv false [true,true] (.t 15) (.t 16))] [0,
0,
3,
7,
0,
31] true)
(.cond (.t 17)
(S
(F [J 4 (.mv (B true))] 1)
.ret)
.skip)))
(F [M 10 5,
 Y 11 .add 10 1,
 M 5 11] 3))))))
(S
(F [J 4 (.mv (B false))] 1)
.ret)))
def rv:List RV:=[.tmp 4]
theorem enter:En Tryz.prog 21 18 s rv:=En.mk (c:=Tryz.f21.body.getD .ret) Tryz.func21
end ref03_In
namespace ref10_Find
abbrev f:Nat:=22
def s:bP:=(S
(F [x 3 37 1,
 J 4 (.alloc 43 bF),
 J 5 (.mv (B false))] 3)
(S
(S
(F [J 6 (.mv (Z 0))] 1)
(.block 0
(.loop
(S
(S
(F [M 7 6,
 M 8 0,
 L 9 8,
 V 10 .lss 7 9] 4)
(.cond (.t 10)
.skip
(.exit 0)))
(S
(.block 1
(S
(.fm [M 13 0,
 M 14 6,
 I 15 29 13 14,
 D 16 0 15,
 K 17 2 16,
 K 18 2 3,
 J 19 (.eqv false [true,true] (.t 17) (.t 18))] [0,
0,
3,
7,
15,
0,
63] true)
(.cond (.t 19)
(S
(F [M 20 0,
 M 21 6,
 I 22 29 20 21,
 K 23 29 22,
 W 29 4 23,
 J 5 (.mv (B true))] 6)
.ret)
.skip)))
(F [M 11 6,
 Y 12 .add 11 1,
 M 6 12] 3))))))
(S
(F [J 24 (.fL bF []),
 W 29 4 24,
 J 5 (.mv (B false))] 3)
.ret)))
def rv:List RV:=[.cell 4 (some 29),.tmp 5]
theorem enter:En Tryz.prog 22 25 s rv:=En.mk (c:=Tryz.f22.body.getD .ret) Tryz.func22
end ref10_Find
namespace ref10_Before
abbrev f:Nat:=23
def s:bP:=(S
(F [x 2 43 0,
 x 3 43 1,
 J 4 (.mv (B false))] 3)
(S
(F [D 5 2 3,
 K 6 8 5,
 D 7 0 2,
 K 8 2 7,
 Q 9 45 6 8,
 M 4 9] 6)
.ret))
def rv:List RV:=[.tmp 4]
theorem enter:En Tryz.prog 23 10 s rv:=En.mk (c:=Tryz.f23.body.getD .ret) Tryz.func23
end ref10_Before
namespace ref03_Same
abbrev f:Nat:=29
def s:bP:=(S
(F [J 4 (.mv (B false))] 1)
(S
(S
(F [M 6 0,
 L 7 6,
 M 8 1,
 L 9 8,
 V 10 .neq 7 9] 5)
(.cond (.t 10)
(S
(F [J 4 (.mv (B false))] 1)
.ret)
.skip))
(S
(S
(F [J 5 (.mv (Z 0))] 1)
(.block 0
(.loop
(S
(S
(F [M 11 5,
 M 12 0,
 L 13 12,
 V 14 .lss 11 13] 4)
(.cond (.t 14)
.skip
(.exit 0)))
(S
(.block 1
(S
(.fm [M 17 0,
 M 18 5,
 I 19 2 17 18,
 K 20 2 19,
 M 21 1,
 M 22 5,
 I 23 2 21 22,
 K 24 2 23,
 J 25 (.eqv true [true,true] (.t 20) (.t 24))] [0,
0,
3,
7,
0,
0,
48,
112,
255] true)
(.cond (.t 25)
(S
(F [J 4 (.mv (B false))] 1)
.ret)
.skip)))
(F [M 15 5,
 Y 16 .add 15 1,
 M 5 16] 3))))))
(S
(F [J 4 (.mv (B true))] 1)
.ret))))
def rv:List RV:=[.tmp 4]
theorem enter:En Tryz.prog 29 26 s rv:=En.mk (c:=Tryz.f29.body.getD .ret) Tryz.func29
end ref03_Same
namespace ref03_May
abbrev f:Nat:=41
def s:bP:=(S
(F [x 1 37 0,
 J 2 (.mv (B false))] 2)
(S
(F [D 3 0 1,
 T 4 3,
 J 5 (.bin .leq (.t 4) (.k (b8 7))),
 M 6 5,
 H 7 (.aX 1 (.t 1)) 6 true,
 H 8 (.load none (.t 7)) 6 true,
 H 9 (.bin .geq (.t 8) (.k (av 1))) 6 true,
 U 10 6 9,
 M 2 10] 9)
.ret))
def rv:List RV:=[.tmp 2]
theorem enter:En Tryz.prog 41 11 s rv:=En.mk (c:=Tryz.f41.body.getD .ret) Tryz.func41
end ref03_May
namespace ref04_Covers
abbrev f:Nat:=45
def s:bP:=(S
(F [x 2 39 0,
 x 3 37 1,
 J 4 (.mv (B false))] 3)
(S
(.fm [K 5 2 3,
 P 6 41 5,
 M 7 6,
 H 8 (.aX 1 (.t 3)) 7 true,
 H 9 (.load none (.t 8)) 7 true,
 H 10 (.aX 0 (.t 3)) 7 true,
 H 11 (.load none (.t 10)) 7 true,
 H 12 (.Cc 8 1 (.t 2) (.t 11)) 7 true,
 H 13 (.load none (.t 12)) 7 true,
 H 14 (.bin .leq (.t 9) (.t 13)) 7 true,
 U 15 7 14,
 M 4 15] [0,
1,
3,
7,
15,
7,
39,
103,
231,
511,
1023,
2047] true)
.ret))
def rv:List RV:=[.tmp 4]
theorem enter:En Tryz.prog 45 16 s rv:=En.mk (c:=Tryz.f45.body.getD .ret) Tryz.func45
end ref04_Covers
namespace ref17_Good
abbrev f:Nat:=52
def s:bP:=(S
(F [x 3 37 1,
 J 4 (.mv (B false))] 2)
(S
(F [M 8 0,
 K 9 2 3,
 Q 10 22 8 9,
 M 7 10,
 E 11 0 7,
 E 12 1 7,
 J 5 (.alloc 43 bF),
 W 29 5 11,
 M 6 12] 9)
(S
(F [M 13 6,
 M 14 13,
 G 15 0 14 true,
 H 16 (.load (some 29) (.t 5)) 14 true,
 H 17 (.call (C 100) [(.t 15),(.t 16)]) 14 true,
 H 18 (.bin .eql (.t 17) (Z 0)) 14 true,
 U 19 14 18,
 M 4 19] 8)
.ret)))
def rv:List RV:=[.tmp 4]
theorem enter:En Tryz.prog 52 20 s rv:=En.mk (c:=Tryz.f52.body.getD .ret) Tryz.func52
end ref17_Good
namespace shape_Shape_Tree
abbrev f:Nat:=64
def s:bP:=(S
(F [J 2 (.mv (.k (.d .j0)))] 1)
(S
(S
(F [M 3 0,
 P 4 115 3] 2)
(.cond (.t 4)
(S
(F [J 2 (.mv (.k (.d .j0)))] 1)
.ret)
.skip))
(S
(F [M 5 0,
 A 6 5,
 D 7 0 6,
 T 8 7,
 M 2 8] 5)
.ret)))
def rv:List RV:=[.tmp 2]
theorem enter:En Tryz.prog 64 9 s rv:=En.mk (c:=Tryz.f64.body.getD .ret) Tryz.func64
end shape_Shape_Tree
namespace shape_Shape_Dots
abbrev f:Nat:=65
def s:bP:=(S
(F [J 2 (.mv (.k (.d .aJ)))] 1)
(S
(S
(F [M 3 0,
 P 4 115 3] 2)
(.cond (.t 4)
(S
(F [J 2 (.mv (.k (.d .aJ)))] 1)
.ret)
.skip))
(S
(F [M 5 0,
 A 6 5,
 D 7 1 6,
 T 8 7,
 P 9 117 8,
 J 10 (.call (C 116) [(.t 9),(C 118)]),
 M 2 10] 7)
.ret)))
def rv:List RV:=[.tmp 2]
theorem enter:En Tryz.prog 65 11 s rv:=En.mk (c:=Tryz.f65.body.getD .ret) Tryz.func65
end shape_Shape_Dots
namespace shape_Shape_Good
abbrev f:Nat:=66
def s:bP:=(S
(F [x 3 37 1,
 J 4 (.mv (B false))] 2)
(S
(F [M 8 0,
 K 9 2 3,
 Q 10 67 8 9,
 M 7 10,
 E 11 0 7,
 E 12 1 7,
 J 5 (.alloc 43 bF),
 W 29 5 11,
 M 6 12] 9)
(S
(F [M 13 6,
 M 14 13,
 G 15 0 14 true,
 H 16 (.load (some 29) (.t 5)) 14 true,
 H 17 (.call (C 70) [(.t 15),(.t 16)]) 14 true,
 H 18 (.bin .eql (.t 17) (Z 0)) 14 true,
 U 19 14 18,
 M 4 19] 8)
.ret)))
def rv:List RV:=[.tmp 4]
theorem enter:En Tryz.prog 66 20 s rv:=En.mk (c:=Tryz.f66.body.getD .ret) Tryz.func66
end shape_Shape_Good
namespace shape_Shape_Op
abbrev f:Nat:=67
def s:bP:=(S
(F [x 3 37 1,
 J 4 (.alloc 43 bF),
 J 5 (.mv (B false))] 3)
(S
(S
(F [M 8 0,
 P 9 115 8] 2)
(.cond (.t 9)
(S
(F [J 10 (.fL bF []),
 W 29 4 10,
 J 5 (.mv (B false))] 3)
.ret)
.skip))
(S
(.fm [M 12 0,
 A 13 12,
 D 14 1 13,
 T 15 14,
 K 16 2 3,
 J 17 (.look [true,true] true (.agg bF) (.t 15) (.t 16) true),
 M 11 17,
 E 18 0 11,
 E 19 1 11,
 J 6 (.alloc 43 bF),
 W 29 6 18,
 M 7 19] [0,
1,
3,
7,
0,
31,
63,
127,
127,
0,
767,
2047] true)
(S
(F [D 20 28 6,
 T 21 20,
 P 22 104 21,
 D 23 28 6,
 W 1 23 22] 5)
(S
(F [K 24 29 6,
 M 25 7,
 W 29 4 24,
 M 5 25] 4)
.ret)))))
def rv:List RV:=[.cell 4 (some 29),.tmp 5]
theorem enter:En Tryz.prog 67 26 s rv:=En.mk (c:=Tryz.f67.body.getD .ret) Tryz.func67
end shape_Shape_Op
namespace tree_Tree_Chain
abbrev f:Nat:=68
def s:bP:=(S
(F [x 3 37 1,
 J 4 (.mv (.k (.d .aJ))),
 J 5 (.mv (Z 0))] 3)
(S
(S
(F [M 11 0,
 K 12 2 3,
 Q 13 119 11 12,
 M 10 13,
 E 14 0 10,
 E 15 1 10,
 J 6 (.alloc 158 [b8 0,av 0,b8 0,av 0,b8 0,av 0,av 0,b8 0,b8 0,bC 0,i6 0]),
 W 11 6 14,
 M 7 15] 9)
(S
(F [M 16 7,
 Y 17 .neq 16 0] 2)
(.cond (.t 17)
(S
(F [M 18 7,
 J 4 (.mv (.k (.d .aJ))),
 M 5 18] 3)
.ret)
.skip)))
(S
(F [J 8 (.alloc 31 [(.d .aJ)])] 1)
(S
(S
(F [M 19 0,
 K 20 2 3,
 Q 21 120 19 20] 3)
(.block 0
(.sn (.t 21) [22]
(F [J 9 (.alloc 158 [b8 0,av 0,b8 0,av 0,b8 0,av 0,av 0,b8 0,b8 0,bC 0,i6 0]),
 W 11 9 22] 2)
(.block 1
(F [T 23 8,
 D 24 0 9,
 K 25 2 24,
 J 26 (.lB 37 2 1 [b8 0,av 0] [(0,2,(.t 25))]),
 J 27 (.app 37 2 8 (.t 23) (.t 26)),
 W 1 8 27] 6)))))
(S
(F [T 28 8,
 M 4 28,
 J 5 (.mv (Z 0))] 3)
.ret)))))
def rv:List RV:=[.tmp 4,.tmp 5]
theorem enter:En Tryz.prog 68 29 s rv:=En.mk (c:=Tryz.f68.body.getD .ret) Tryz.func68
end tree_Tree_Chain
namespace tree_New
abbrev f:Nat:=69
def s:bP:=(S
(F [J 2 (.mv (.k (.d .j0)))] 1)
(S
(F [J 8 (.zZ),
 J 9 (.zZ),
 J 10 (.fL [(.d .jj),(.d .jj)] [(0,1,(.t 8)),(1,1,(.t 9))]),
 x 11 166 10,
 M 3 11] 5)
(S
(F [J 12 (.zZ),
 J 4 (.alloc 114 [(.d .jj)]),
 W 1 4 12] 3)
(S
(F [M 13 0,
 P 14 106 13,
 J 15 (.sQ (.func 122) [] [(.t 4)]),
 Q 16 121 14 15,
 M 5 16] 5)
(S
(S
(F [J 6 (.mv (B true))] 1)
(.block 0
(.loop
(S
(S
(F [M 17 6] 1)
(.cond (.t 17)
.skip
(.exit 0)))
(.block 1
(S
(F [M 18 5,
 L 19 18,
 M 7 19] 3)
(S
(F [M 20 5,
 M 21 3,
 J 22 (.sQ (.func 123) [(.t 21)] []),
 Q 23 121 20 22,
 M 5 23] 5)
(F [M 24 5,
 L 25 24,
 M 26 7,
 V 27 .lss 25 26,
 M 6 27] 5))))))))
(S
(F [M 28 3,
 M 2 28] 2)
.ret))))))
def rv:List RV:=[.tmp 2]
theorem enter:En Tryz.prog 69 29 s rv:=En.mk (c:=Tryz.f69.body.getD .ret) Tryz.func69
end tree_New
namespace shape_Shape_Why
abbrev f:Nat:=70
def s:bP:=(S
(F [x 2 29 0,
 x 3 43 1,
 J 4 (.mv (Z 0))] 3)
(S
(S
(F [T 10 2,
 P 11 115 10] 2)
(.cond (.t 11)
(S
(F [J 4 (.mv (Z 1))] 1)
.ret)
.skip))
(S
(F [T 13 2,
 D 14 15 3,
 K 15 2 14,
 K 16 29 3,
 R 17 124 13 15 16,
 M 12 17,
 E 18 0 12,
 E 19 1 12,
 J 5 (.alloc 158 [b8 0,av 0,b8 0,av 0,b8 0,av 0,av 0,b8 0,b8 0,bC 0,i6 0]),
 J 6 (.alloc 4 [(.d (.bool false))]),
 W 11 5 18,
 W 1 6 19] 12)
(S
(F [D 20 14 3,
 T 21 20,
 J 22 (.bin .eql (.t 21) (.k (b8 0))),
 J 7 (.alloc 4 [(.d (.bool false))]),
 W 1 7 22] 5)
(S
(S
(F (J 23 (.sQ (.func 125) [] [(.t 3)])::
 J 24 (.fL [i6 0,(.d .gL)] [(0,1,(Z 2)),(1,1,(.t 23))])::
 J 25 (.sQ (.func 126) [] [(.t 2),(.t 3)])::
 J 26 (.fL [i6 0,(.d .gL)] [(0,1,(Z 271)),(1,1,(.t 25))])::
 J 27 (.sQ (.func 128) [] [(.t 7),(.t 6)])::
 J 28 (.fL [i6 0,(.d .gL)] [(0,1,(Z 272)),(1,1,(.t 27))])::
 J 29 (.sQ (.func 129) [] [(.t 7),(.t 5),(.t 3)])::
 J 30 (.fL [i6 0,(.d .gL)] [(0,1,(Z 273)),(1,1,(.t 29))])::
 J 31 (.sQ (.func 130) [] [(.t 5),(.t 3)])::
 J 32 (.fL [i6 0,(.d .gL)] [(0,1,(Z 274)),(1,1,(.t 31))])::
 J 33 (.sQ (.func 132) [] [(.t 3),(.t 2)])::
 J 34 (.fL [i6 0,(.d .gL)] [(0,1,(Z 275)),(1,1,(.t 33))])::
 J 35 (.sQ (.func 134) [] [(.t 2),(.t 3)])::
 J 36 (.fL [i6 0,(.d .gL)] [(0,1,(Z 276)),(1,1,(.t 35))])::
 J 37 (.fL [i6 0,(.d .gL),i6 0,(.d .gL),i6 0,(.d .gL),i6 0,(.d .gL),i6 0,(.d .gL),i6 0,(.d .gL),i6 0,(.d .gL)] [(0,2,(.t 24)),(2,2,(.t 26)),(4,2,(.t 28)),(6,2,(.t 30)),(8,2,(.t 32)),(10,2,(.t 34)),(12,2,(.t 36))])::
 J 38 (.mv (Z 0))::[]) 16)
(.block 0
(.loop
(S
(F [Y 39 .lss 38 7] 1)
(S
(.cond (.t 39)
.skip
(.exit 0))
(S
(.block 1
(S
(F [J 40 (.index 7 2 true (.t 37) (.t 38)),
 J 9 (.alloc 171 [i6 0,(.d .gL)]),
 W 2 9 40] 3)
(S
(F [D 41 1 9,
 T 42 41,
 J 43 (.call (.t 42) [])] 3)
(.cond (.t 43)
(S
(F [D 44 0 9,
 T 45 44,
 M 4 45] 3)
.ret)
.skip))))
(F [Y 46 .add 38 1,
 M 38 46] 2)))))))
(S
(F [J 4 (.mv (Z 0))] 1)
.ret))))))
def rv:List RV:=[.tmp 4]
theorem enter:En Tryz.prog 70 47 s rv:=En.mk (c:=Tryz.f70.body.getD .ret) Tryz.func70
end shape_Shape_Why
namespace dot_Sort
abbrev f:Nat:=77
def s:bP:=(S
(F [J 2 (.mv (.k (.d .aJ)))] 1)
(S
(F [M 3 0,
 P 4 139 3,
 P 5 140 4,
 M 2 5] 4)
.ret))
def rv:List RV:=[.tmp 2]
theorem enter:En Tryz.prog 77 6 s rv:=En.mk (c:=Tryz.f77.body.getD .ret) Tryz.func77
end dot_Sort
namespace vector_Covers
abbrev f:Nat:=85
def s:bP:=(S
(F [x 2 39 0,
 x 3 37 1,
 J 4 (.mv (B false))] 3)
(S
(.fm [K 5 2 3,
 P 6 141 5,
 M 7 6,
 H 8 (.aX 0 (.t 3)) 7 true,
 H 9 (.load none (.t 8)) 7 true,
 H 10 (.Cc 8 1 (.t 2) (.t 9)) 7 true,
 H 11 (.load none (.t 10)) 7 true,
 H 12 (.aX 1 (.t 3)) 7 true,
 H 13 (.load none (.t 12)) 7 true,
 H 14 (.bin .geq (.t 11) (.t 13)) 7 true,
 U 15 7 14,
 M 4 15] [0,
1,
3,
7,
15,
31,
63,
7,
135,
511,
1023,
2047] true)
.ret))
def rv:List RV:=[.tmp 4]
theorem enter:En Tryz.prog 85 16 s rv:=En.mk (c:=Tryz.f85.body.getD .ret) Tryz.func85
end vector_Covers
namespace ref03_Sort
abbrev f:Nat:=87
def s:bP:=(S
(F [J 2 (.mv (.k (.d .aJ)))] 1)
(S
(F [J 3 (.mv (.k (.d .aJ)))] 1)
(S
(S
(F [J 4 (.mv (Z 0))] 1)
(.block 0
(.loop
(S
(S
(F [M 5 4,
 M 6 0,
 L 7 6,
 V 8 .lss 5 7] 4)
(.cond (.t 8)
.skip
(.exit 0)))
(S
(.block 1
(F [M 11 3,
 M 12 0,
 M 13 4,
 I 14 2 12 13,
 K 15 2 14,
 Q 16 142 11 15,
 M 3 16] 7))
(F [M 9 4,
 Y 10 .add 9 1,
 M 4 10] 3))))))
(S
(F [M 17 3,
 M 2 17] 2)
.ret))))
def rv:List RV:=[.tmp 2]
theorem enter:En Tryz.prog 87 18 s rv:=En.mk (c:=Tryz.f87.body.getD .ret) Tryz.func87
end ref03_Sort
namespace ref17_Why
abbrev f:Nat:=100
def s:bP:=(S
(F [x 3 43 1,
 J 4 (.mv (Z 0))] 2)
(S
(S
(F [D 7 14 3,
 T 8 7,
 J 9 (.bin .gtr (.t 8) (.k (b8 8)))] 3)
(.cond (.t 9)
(S
(F [J 4 (.mv (Z 2))] 1)
.ret)
.skip))
(S
(S
(F [M 10 0,
 K 11 29 3,
 Q 12 151 10 11,
 O 13 12] 4)
(.cond (.t 13)
(S
(F [J 4 (.mv (Z 271))] 1)
.ret)
.skip))
(S
(S
(F [D 14 14 3,
 T 15 14,
 J 16 (.bin .eql (.t 15) (.k (b8 0)))] 3)
(.cond (.t 16)
(S
(F [J 4 (.mv (Z 0))] 1)
.ret)
.skip))
(S
(F [M 18 0,
 D 19 15 3,
 K 20 2 19,
 K 21 29 3,
 R 22 152 18 20 21,
 M 17 22,
 E 23 0 17,
 E 24 1 17,
 J 5 (.alloc 158 [b8 0,av 0,b8 0,av 0,b8 0,av 0,av 0,b8 0,b8 0,bC 0,i6 0]),
 W 11 5 23,
 M 6 24] 11)
(S
(S
(F [M 25 6,
 O 26 25] 2)
(.cond (.t 26)
(S
(F [J 4 (.mv (Z 272))] 1)
.ret)
.skip))
(S
(S
(F [D 27 6 5,
 T 28 27,
 D 29 11 3,
 T 30 29,
 V 31 .neq 28 30] 5)
(.cond (.t 31)
(S
(F [J 4 (.mv (Z 273))] 1)
.ret)
.skip))
(S
(S
(.fm [D 32 7 5,
 T 33 32,
 D 34 14 3,
 T 35 34,
 P 36 153 35,
 V 37 .quo 33 36,
 J 38 (.bin .rem (.t 37) (.k (b8 2))),
 J 39 (.bin .neq (.t 38) (.k (b8 1)))] [0,
1,
0,
4,
12,
31,
63,
127] true)
(.cond (.t 39)
(S
(F [J 4 (.mv (Z 274))] 1)
.ret)
.skip))
(S
(S
(F [D 40 14 3,
 T 41 40,
 J 42 (.bin .eql (.t 41) (.k (b8 1))),
 M 43 42,
 G 44 0 43 true,
 H 45 (.load (some 29) (.t 3)) 43 true,
 H 46 (.call (C 154) [(.t 44),(.t 45)]) 43 true,
 H 47 (.bin .neq (.t 46) (Z 0)) 43 true,
 U 48 43 47] 9)
(.cond (.t 48)
(S
(F [J 4 (.mv (Z 275))] 1)
.ret)
.skip))
(S
(S
(F [M 49 0,
 K 50 29 3,
 Q 51 155 49 50,
 O 52 51] 4)
(.cond (.t 52)
(S
(F [J 4 (.mv (Z 276))] 1)
.ret)
.skip))
(S
(F [J 4 (.mv (Z 0))] 1)
.ret)))))))))))
def rv:List RV:=[.tmp 4]
theorem enter:En Tryz.prog 100 53 s rv:=En.mk (c:=Tryz.f100.body.getD .ret) Tryz.func100
end ref17_Why
namespace slices_Clone_Lapi_Claim_api_Claim
abbrev f:Nat:=104
def s:bP:=(S
(F [J 2 (.mv (.k (.d .aJ)))] 1)
(S
(S
(F [M 3 0,
 J 4 (.kG false 3 (.t 3))] 2)
(.cond (.t 4)
(S
(F [J 2 (.mv (.k (.d .aJ)))] 1)
.ret)
.skip))
(S
(F [J 5 (.lB 148 4 0 [] []),
 M 6 0,
 J 7 (.app 148 4 16 (.t 5) (.t 6)),
 M 2 7] 4)
.ret)))
def rv:List RV:=[.tmp 2]
theorem enter:En Tryz.prog 104 8 s rv:=En.mk (c:=Tryz.f104.body.getD .ret) Tryz.func104
end slices_Clone_Lapi_Claim_api_Claim
namespace slices_Clone_Lapi_Op_api_Op
abbrev f:Nat:=106
def s:bP:=(S
(F [J 2 (.mv (.k (.d .aJ)))] 1)
(S
(S
(F [M 3 0,
 J 4 (.kG false 3 (.t 3))] 2)
(.cond (.t 4)
(S
(F [J 2 (.mv (.k (.d .aJ)))] 1)
.ret)
.skip))
(S
(F [J 5 (.lB 43 29 0 [] []),
 M 6 0,
 J 7 (.app 43 29 144 (.t 5) (.t 6)),
 M 2 7] 4)
.ret)))
def rv:List RV:=[.tmp 2]
theorem enter:En Tryz.prog 106 8 s rv:=En.mk (c:=Tryz.f106.body.getD .ret) Tryz.func106
end slices_Clone_Lapi_Op_api_Op
namespace ref03_Compare
abbrev f:Nat:=114
def s:bP:=(S
(F [x 2 37 0,
 x 3 37 1,
 J 4 (.mv (Z 0))] 3)
(S
(.fm (D 7 0 2::
 T 8 7::
 J 9 (.conv .i64 (.t 8))::
 Y 10 .mul 9 8589934592::
 D 11 1 2::
 T 12 11::
 J 13 (.conv .i64 (.t 12))::
 V 14 .add 10 13::
 D 15 0 3::
 T 16 15::
 J 17 (.conv .i64 (.t 16))::
 Y 18 .mul 17 8589934592::
 D 19 1 3::
 T 20 19::
 J 21 (.conv .i64 (.t 20))::
 V 22 .add 18 21::
 M 5 14::
 M 6 22::[]) (0::
1::
3::
7::
0::
16::
48::
127::
0::
256::
768::
1792::
0::
4096::
12288::
32512::
255::
131071::[]) true)
(S
(S
(F [M 23 5,
 M 24 6,
 V 25 .lss 23 24] 3)
(.cond (.t 25)
(S
(F [J 4 (.mv (.k (.d (.int .i64 (-1)))))] 1)
.ret)
.skip))
(S
(S
(F [M 26 5,
 M 27 6,
 V 28 .gtr 26 27] 3)
(.cond (.t 28)
(S
(F [J 4 (.mv (Z 1))] 1)
.ret)
.skip))
(S
(F [J 4 (.mv (Z 0))] 1)
.ret)))))
def rv:List RV:=[.tmp 4]
theorem enter:En Tryz.prog 114 29 s rv:=En.mk (c:=Tryz.f114.body.getD .ret) Tryz.func114
end ref03_Compare
namespace shape_Shape_none
abbrev f:Nat:=115
def s:bP:=(S
(F [J 2 (.mv (B false))] 1)
(S
(F [M 3 0,
 J 4 (.kG false 0 (.t 3)),
 M 5 4,
 G 6 0 5 false,
 H 7 (.dR (.t 6)) 5 false,
 H 8 (.aX 1 (.t 7)) 5 false,
 H 9 (.load none (.t 8)) 5 false,
 H 10 (.kG false 1 (.t 9)) 5 false,
 J 11 (.pick (.t 5) (B true) (.t 10)),
 M 2 11] 10)
.ret))
def rv:List RV:=[.tmp 2]
theorem enter:En Tryz.prog 115 12 s rv:=En.mk (c:=Tryz.f115.body.getD .ret) Tryz.func115
end shape_Shape_none
namespace slices_SortedFunc_api_Dot
abbrev f:Nat:=116
def s:bP:=(S
(F [J 4 (.mv (.k (.d .aJ)))] 1)
(S
(F [M 6 0,
 P 7 159 6,
 M 5 7] 3)
(S
(F [M 8 5,
 M 9 1,
 Q 10 160 8 9] 3)
(S
(F [M 11 5,
 M 4 11] 2)
.ret))))
def rv:List RV:=[.tmp 4]
theorem enter:En Tryz.prog 116 12 s rv:=En.mk (c:=Tryz.f116.body.getD .ret) Tryz.func116
end slices_SortedFunc_api_Dot
namespace maps_Keys_map_api_Dot_api_Op_api_Dot_api_Op
abbrev f:Nat:=117
def s:bP:=(S
(F [x 1 107 0,
 J 2 (.mv (.k (.d .gL)))] 2)
(S
(F [J 3 (.sQ (.func 161) [] [(.t 1)]),
 M 2 3] 2)
.ret))
def rv:List RV:=[.tmp 2]
theorem enter:En Tryz.prog 117 4 s rv:=En.mk (c:=Tryz.f117.body.getD .ret) Tryz.func117
end maps_Keys_map_api_Dot_api_Op_api_Dot_api_Op
namespace dot_Compare
abbrev f:Nat:=118
def s:bP:=(S
(F [x 2 37 0,
 x 3 37 1,
 J 4 (.mv (Z 0))] 3)
(S
(.fm [D 5 0 2,
 T 6 5,
 D 7 0 3,
 T 8 7,
 Q 9 148 6 8,
 D 10 1 2,
 T 11 10,
 D 12 1 3,
 T 13 12,
 Q 14 149 11 13,
 J 15 (.lB 3 1 2 [i6 0,i6 0] [(0,1,(.t 9)),(1,1,(.t 14))]),
 P 16 146 15,
 M 4 16] [0,
1,
0,
4,
15,
0,
32,
0,
128,
511,
1023,
2047,
4095] true)
.ret))
def rv:List RV:=[.tmp 4]
theorem enter:En Tryz.prog 118 17 s rv:=En.mk (c:=Tryz.f118.body.getD .ret) Tryz.func118
end dot_Compare
namespace tree_Tree_Get
abbrev f:Nat:=119
def s:bP:=(S
(F [x 3 37 1,
 J 4 (.alloc 158 [b8 0,av 0,b8 0,av 0,b8 0,av 0,av 0,b8 0,b8 0,bC 0,i6 0]),
 J 5 (.mv (Z 0))] 3)
(S
(S
(F [M 8 0,
 P 9 162 8] 2)
(.cond (.t 9)
(S
(F [J 10 (.fL [b8 0,av 0,b8 0,av 0,b8 0,av 0,av 0,b8 0,b8 0,bC 0,i6 0] []),
 W 11 4 10,
 J 5 (.mv (Z 1))] 3)
.ret)
.skip))
(S
(.fm [M 12 0,
 A 13 12,
 D 14 0 13,
 T 15 14,
 K 16 2 3,
 J 17 (.look [true,true] true (.agg [b8 0,av 0,b8 0,av 0,b8 0,av 0,av 0,b8 0,b8 0,bC 0,i6 0]) (.t 15) (.t 16) true),
 M 11 17,
 E 18 0 11,
 E 19 1 11,
 J 6 (.alloc 158 [b8 0,av 0,b8 0,av 0,b8 0,av 0,av 0,b8 0,b8 0,bC 0,i6 0]),
 W 11 6 18,
 M 7 19] [0,
1,
3,
7,
0,
31,
63,
127,
127,
0,
767,
2047] true)
(S
(S
(F [M 20 7,
 O 21 20] 2)
(.cond (.t 21)
(S
(F [J 22 (.fL [b8 0,av 0,b8 0,av 0,b8 0,av 0,av 0,b8 0,b8 0,bC 0,i6 0] []),
 W 11 4 22,
 J 5 (.mv (Z 7))] 3)
.ret)
.skip))
(S
(F [K 23 11 6,
 W 11 4 23,
 J 5 (.mv (Z 0))] 3)
.ret)))))
def rv:List RV:=[.cell 4 (some 11),.tmp 5]
theorem enter:En Tryz.prog 119 24 s rv:=En.mk (c:=Tryz.f119.body.getD .ret) Tryz.func119
end tree_Tree_Get
namespace tree_Tree_up
abbrev f:Nat:=120
def s:bP:=(S
(F [x 2 105 0,
 x 3 37 1,
 J 4 (.mv (.k (.d .gL)))] 3)
(S
(F [J 5 (.sQ (.func 163) [] [(.t 2),(.t 3)]),
 M 4 5] 2)
.ret))
def rv:List RV:=[.tmp 4]
theorem enter:En Tryz.prog 120 6 s rv:=En.mk (c:=Tryz.f120.body.getD .ret) Tryz.func120
end tree_Tree_up
namespace slices_DeleteFunc_Lapi_Op_api_Op
abbrev f:Nat:=121
def s:bP:=(S
(F [J 4 (.mv (.k (.d .aJ)))] 1)
(S
(F [M 8 0,
 M 9 1,
 Q 10 164 8 9,
 M 5 10] 4)
(S
(S
(F [M 11 5,
 J 12 (.bin .eql (.t 11) (.k (.d (.int .i64 (-1)))))] 2)
(.cond (.t 12)
(S
(F [M 13 0,
 M 4 13] 2)
.ret)
.skip))
(S
(S
(F [M 14 5,
 Y 15 .add 14 1,
 M 6 15] 3)
(.block 0
(.loop
(S
(S
(F [M 16 6,
 M 17 0,
 L 18 17,
 V 19 .lss 16 18] 4)
(.cond (.t 19)
.skip
(.exit 0)))
(S
(.block 1
(S
(F [M 22 0,
 M 23 6,
 I 24 29 22 23,
 K 25 29 24,
 J 7 (.alloc 43 bF),
 W 29 7 25] 6)
(S
(F [M 26 1,
 K 27 29 7,
 J 28 (.call (.t 26) [(.t 27)]),
 O 29 28] 4)
(.cond (.t 29)
(S
(F [M 30 0,
 M 31 5,
 K 32 29 7,
 I 33 29 30 31,
 W 29 33 32] 5)
(F [M 34 5,
 Y 35 .add 34 1,
 M 5 35] 3))
.skip))))
(F [M 20 6,
 Y 21 .add 20 1,
 M 6 21] 3))))))
(S
(F [M 36 0,
 M 37 5,
 J 38 (.slc 29 (.t 36) (some (.t 37)) none),
 N (.LK 29 bF (.t 38))] 4)
(S
(F [M 39 0,
 M 40 5,
 J 41 (.slc 29 (.t 39) none (some (.t 40))),
 M 4 41] 4)
.ret))))))
def rv:List RV:=[.tmp 4]
theorem enter:En Tryz.prog 121 42 s rv:=En.mk (c:=Tryz.f121.body.getD .ret) Tryz.func121
end slices_DeleteFunc_Lapi_Op_api_Op
namespace tree_New_1
abbrev f:Nat:=122
def s:bP:=(S
(F [x 2 43 0,
 J 3 (.mv (B false))] 2)
(S
(.fm [T 4 1,
 D 5 0 2,
 K 6 2 5,
 J 7 (.look [true,true] true (i6 0) (.t 4) (.t 6) false),
 Y 8 .add 7 1,
 J 9 (.sR [true,true] true (i6 0) (.t 4) (.t 6)),
 E 10 1 9,
 N (.sS (.t 4) (.t 10) (.t 8))] [0,
0,
2,
7,
15,
7,
39,
127] true)
(S
(F [T 11 1,
 D 12 0 2,
 K 13 2 12,
 J 14 (.look [true,true] true (i6 0) (.t 11) (.t 13) false),
 Y 15 .gtr 14 1,
 M 16 15,
 H 17 (.aX 14 (.t 2)) 16 false,
 H 18 (.load none (.t 17)) 16 false,
 H 19 (.bin .gtr (.t 18) (.k (b8 1))) 16 false,
 J 20 (.pick (.t 16) (B true) (.t 19)),
 M 3 20] 11)
.ret)))
def rv:List RV:=[.tmp 3]
theorem enter:En Tryz.prog 122 21 s rv:=En.mk (c:=Tryz.f122.body.getD .ret) Tryz.func122
end tree_New_1
namespace tree_Tree_put
abbrev f:Nat:=123
def s:bP:=(S
(F [x 3 43 1,
 J 4 (.mv (B false))] 2)
(S
(F [D 6 0 3,
 K 7 2 6,
 D 8 0 3,
 K 9 2 8,
 D 10 11 3,
 T 11 10,
 J 12 (.fL [b8 0,av 0,b8 0,av 0,b8 0,av 0,av 0,b8 0,b8 0,bC 0,i6 0] [(0,2,(.t 7)),(2,2,(.t 9)),(6,1,(.t 11)),(7,1,(.k (b8 7))),(8,1,(.k (b8 8))),(9,1,(.k (bC 1099511627776)))]),
 J 5 (.alloc 158 [b8 0,av 0,b8 0,av 0,b8 0,av 0,av 0,b8 0,b8 0,bC 0,i6 0]),
 W 11 5 12] 9)
(S
(.block 0
(S
(F (D 14 14 3::
 T 15 14::
 J 16 (.bin .eql (.t 15) (.k (b8 0)))::
 M 17 16::
 H 18 (.aX 12 (.t 3)) 17 true::
 H 19 (.load (some 2) (.t 18)) 17 true::
 H 20 (.aX 0 (.t 3)) 17 true::
 H 21 (.load (some 2) (.t 20)) 17 true::
 H 22 (.eqv true [true,true] (.t 19) (.t 21)) 17 true::
 U 23 17 22::
 M 24 23::
 H 25 (.aX 14 (.t 3)) 24 false::
 H 26 (.load none (.t 25)) 24 false::
 H 27 (.bin .eql (.t 26) (.k (b8 1))) 24 false::
 G 28 27 24 false::
 G 29 0 28 true::
 H 30 (.load (some 29) (.t 3)) 28 true::
 H 31 (.call (C 133) [(.t 29),(.t 30)]) 28 true::
 H 32 (.bin .neq (.t 31) (Z 0)) 28 true::
 H 33 (.pick (.t 28) (.t 32) (B false)) 24 false::
 J 34 (.pick (.t 24) (B true) (.t 33))::
 M 13 34::[]) 22)
(.cond (.t 13)
(S
(F [J 4 (.mv (B false))] 1)
.ret)
(S
(F [D 36 14 3,
 T 37 36,
 J 38 (.bin .eql (.t 37) (.k (b8 1))),
 M 35 38] 4)
(.cond (.t 35)
(.fm (D 39 0 3::
 K 40 2 39::
 D 41 12 3::
 K 42 2 41::
 D 43 15 3::
 K 44 2 43::
 D 45 17 3::
 T 46 45::
 D 47 18 3::
 T 48 47::
 D 49 19 3::
 T 50 49::
 D 51 20 3::
 T 52 51::
 M 53 0::
 A 54 53::
 D 55 0 54::
 T 56 55::
 D 57 15 3::
 K 58 2 57::
 J 59 (.look [true,true] true (.agg [b8 0,av 0,b8 0,av 0,b8 0,av 0,av 0,b8 0,b8 0,bC 0,i6 0]) (.t 56) (.t 58) false)::
 J 60 (.field 10 none (.t 59))::
 Y 61 .add 60 1::
 J 62 (.fL [b8 0,av 0,b8 0,av 0,b8 0,av 0,av 0,b8 0,b8 0,bC 0,i6 0] [(0,2,(.t 40)),(2,2,(.t 42)),(4,2,(.t 44)),(6,1,(.t 46)),(7,1,(.t 48)),(8,1,(.t 50)),(9,1,(.t 52)),(10,1,(.t 61))])::
 W 11 5 62::[]) (0::
1::
0::
4::
0::
16::
0::
64::
0::
256::
0::
1024::
0::
4096::
0::
16384::
49152::
114688::
0::
262144::
1032192::
2080768::
4177920::
8388607::
16777215::[]) true)
.skip)))))
(S
(.fm (M 63 0::
 A 64 63::
 D 65 0 64::
 T 66 65::
 D 67 0 3::
 K 68 2 67::
 M 69 0::
 A 70 69::
 D 71 1 70::
 T 72 71::
 D 73 0 3::
 K 74 2 73::
 K 75 11 5::
 K 76 29 3::
 J 77 (.sR [true,true] true (.agg [b8 0,av 0,b8 0,av 0,b8 0,av 0,av 0,b8 0,b8 0,bC 0,i6 0]) (.t 66) (.t 68))::
 E 78 1 77::
 N (.sS (.t 66) (.t 78) (.t 75))::
 J 79 (.sR [true,true] true (.agg bF) (.t 72) (.t 74))::
 E 80 1 79::
 N (.sS (.t 72) (.t 80) (.t 76))::[]) (0::
1::
3::
7::
0::
16::
0::
64::
192::
448::
0::
1024::
0::
0::
1023::
17407::
54271::
122879::
253951::
524287::[]) true)
(S
(F [J 4 (.mv (B true))] 1)
.ret)))))
def rv:List RV:=[.tmp 4]
theorem enter:En Tryz.prog 123 81 s rv:=En.mk (c:=Tryz.f123.body.getD .ret) Tryz.func123
end tree_Tree_put
namespace shape_Shape_cred
abbrev f:Nat:=124
def s:bP:=(S
(F [x 4 37 1,
 x 5 43 2,
 J 6 (.alloc 158 [b8 0,av 0,b8 0,av 0,b8 0,av 0,av 0,b8 0,b8 0,bC 0,i6 0]),
 J 7 (.mv (B false))] 4)
(S
(.fm [M 11 0,
 A 12 11,
 D 13 0 12,
 T 14 13,
 K 15 2 4,
 Q 16 119 14 15,
 M 10 16,
 E 17 0 10,
 E 18 1 10,
 J 8 (.alloc 158 [b8 0,av 0,b8 0,av 0,b8 0,av 0,av 0,b8 0,b8 0,bC 0,i6 0]),
 W 11 8 17,
 M 9 18] [0,
1,
3,
7,
0,
31,
63,
127,
127,
0,
767,
2047] true)
(S
(.fm (K 19 11 8::
 M 20 9::
 Y 21 .eql 20 0::
 M 22 21::
 H 23 (.aX 2 (.t 8)) 22 true::
 H 24 (.load (some 2) (.t 23)) 22 true::
 H 25 (.aX 12 (.t 5)) 22 true::
 H 26 (.load (some 2) (.t 25)) 22 true::
 H 27 (.eqv false [true,true] (.t 24) (.t 26)) 22 true::
 U 28 22 27::
 M 29 28::
 G 30 0 29 true::
 H 31 (.load (some 2) (.t 4)) 29 true::
 H 32 (.load (some 29) (.t 5)) 29 true::
 H 33 (.call (C 165) [(.t 30),(.t 31),(.t 32)]) 29 true::
 U 34 29 33::
 W 11 6 19::
 M 7 34::[]) (0::
0::
2::
6::
14::
30::
14::
78::
254::
510::
1022::
2046::
2046::
2046::
16382::
32766::
32767::
131071::[]) true)
.ret)))
def rv:List RV:=[.cell 6 (some 11),.tmp 7]
theorem enter:En Tryz.prog 124 35 s rv:=En.mk (c:=Tryz.f124.body.getD .ret) Tryz.func124
end shape_Shape_cred
namespace shape_Shape_Why_1
abbrev f:Nat:=125
def s:bP:=(S
(F [J 1 (.mv (B false))] 1)
(S
(F [D 2 14 0,
 T 3 2,
 J 4 (.bin .gtr (.t 3) (.k (b8 8))),
 M 1 4] 4)
.ret))
def rv:List RV:=[.tmp 1]
theorem enter:En Tryz.prog 125 5 s rv:=En.mk (c:=Tryz.f125.body.getD .ret) Tryz.func125
end shape_Shape_Why_1
namespace shape_Shape_Why_2
abbrev f:Nat:=126
def s:bP:=(S
(F [J 2 (.mv (B false))] 1)
(S
(F [T 3 0,
 K 4 29 1,
 Q 5 127 3 4,
 O 6 5,
 M 2 6] 5)
.ret))
def rv:List RV:=[.tmp 2]
theorem enter:En Tryz.prog 126 7 s rv:=En.mk (c:=Tryz.f126.body.getD .ret) Tryz.func126
end shape_Shape_Why_2
namespace shape_Shape_cart
abbrev f:Nat:=127
def s:bP:=(S
(F [x 3 43 1,
 J 4 (.mv (B false))] 2)
(S
(.fm [M 8 0,
 A 9 8,
 D 10 1 9,
 T 11 10,
 D 12 12 3,
 K 13 2 12,
 J 14 (.look [true,true] true (.agg bF) (.t 11) (.t 13) true),
 M 7 14,
 E 15 0 7,
 E 16 1 7,
 J 5 (.alloc 43 bF),
 W 29 5 15,
 M 6 16] [0,
1,
3,
7,
0,
16,
63,
127,
255,
255,
0,
1535,
4095] true)
(S
(S
(F [D 17 14 3,
 T 18 17,
 J 19 (.bin .eql (.t 18) (.k (b8 0)))] 3)
(.cond (.t 19)
(S
(F [D 20 12 3,
 K 21 2 20,
 D 22 0 3,
 K 23 2 22,
 J 24 (.eqv false [true,true] (.t 21) (.t 23)),
 M 4 24] 6)
.ret)
.skip))
(S
(F (M 25 6::
 M 26 25::
 H 27 (.aX 14 (.t 5)) 26 true::
 H 28 (.load none (.t 27)) 26 true::
 H 29 (.bin .eql (.t 28) (.k (b8 0))) 26 true::
 U 30 26 29::
 M 31 30::
 H 32 (.aX 12 (.t 5)) 31 true::
 H 33 (.load (some 2) (.t 32)) 31 true::
 H 34 (.aX 0 (.t 5)) 31 true::
 H 35 (.load (some 2) (.t 34)) 31 true::
 H 36 (.eqv false [true,true] (.t 33) (.t 35)) 31 true::
 U 37 31 36::
 M 38 37::
 H 39 (.load (some 29) (.t 5)) 38 true::
 H 40 (.load (some 29) (.t 3)) 38 true::
 H 41 (.call (C 137) [(.t 39),(.t 40)]) 38 true::
 U 42 38 41::
 M 4 42::[]) 19)
.ret))))
def rv:List RV:=[.tmp 4]
theorem enter:En Tryz.prog 127 43 s rv:=En.mk (c:=Tryz.f127.body.getD .ret) Tryz.func127
end shape_Shape_cart
namespace shape_Shape_Why_3
abbrev f:Nat:=128
def s:bP:=(S
(F [J 2 (.mv (B false))] 1)
(S
(F [T 3 0,
 O 4 3,
 M 5 4,
 H 6 (.load none (.t 1)) 5 true,
 H 7 (.not (.t 6)) 5 true,
 U 8 5 7,
 M 2 8] 7)
.ret))
def rv:List RV:=[.tmp 2]
theorem enter:En Tryz.prog 128 9 s rv:=En.mk (c:=Tryz.f128.body.getD .ret) Tryz.func128
end shape_Shape_Why_3
namespace shape_Shape_Why_4
abbrev f:Nat:=129
def s:bP:=(S
(F [J 3 (.mv (B false))] 1)
(S
(F [T 4 0,
 O 5 4,
 M 6 5,
 H 7 (.aX 6 (.t 1)) 6 true,
 H 8 (.load none (.t 7)) 6 true,
 H 9 (.aX 11 (.t 2)) 6 true,
 H 10 (.load none (.t 9)) 6 true,
 H 11 (.bin .neq (.t 8) (.t 10)) 6 true,
 U 12 6 11,
 M 3 12] 10)
.ret))
def rv:List RV:=[.tmp 3]
theorem enter:En Tryz.prog 129 13 s rv:=En.mk (c:=Tryz.f129.body.getD .ret) Tryz.func129
end shape_Shape_Why_4
namespace shape_Shape_Why_5
abbrev f:Nat:=130
def s:bP:=(S
(F [J 2 (.mv (B false))] 1)
(S
(.fm [D 3 7 0,
 T 4 3,
 D 5 14 1,
 T 6 5,
 P 7 131 6,
 V 8 .and 4 7,
 D 9 14 1,
 T 10 9,
 P 11 131 10,
 V 12 .neq 8 11,
 M 2 12] [0,
1,
0,
4,
12,
31,
0,
64,
220,
511,
1023] true)
.ret))
def rv:List RV:=[.tmp 2]
theorem enter:En Tryz.prog 130 13 s rv:=En.mk (c:=Tryz.f130.body.getD .ret) Tryz.func130
end shape_Shape_Why_5
namespace shape_Needs
abbrev f:Nat:=131
def s:bP:=(S
(F [J 2 (.mv (.k (b8 0)))] 1)
(S
(F [J 4 (.fL [b8 0,b8 0,b8 0,b8 0,b8 0,b8 0,b8 0,b8 0,b8 0] [(1,1,(.k (b8 1))),(2,1,(.k (b8 1))),(3,1,(.k (b8 2))),(4,1,(.k (b8 2))),(5,1,(.k (b8 2))),(6,1,(.k (b8 4))),(7,1,(.k (b8 4))),(8,1,(.k (b8 2)))]),
 J 3 (.alloc 195 [b8 0,b8 0,b8 0,b8 0,b8 0,b8 0,b8 0,b8 0,b8 0]),
 W 9 3 4] 3)
(S
(S
(F [M 5 0,
 J 6 (.conv .i64 (.t 5)),
 Y 7 .geq 6 9] 3)
(.cond (.t 7)
(S
(F [J 2 (.mv (.k (b8 0)))] 1)
.ret)
.skip))
(S
(F [M 8 0,
 J 9 (.Cc 9 1 (.t 3) (.t 8)),
 T 10 9,
 M 2 10] 4)
.ret))))
def rv:List RV:=[.tmp 2]
theorem enter:En Tryz.prog 131 11 s rv:=En.mk (c:=Tryz.f131.body.getD .ret) Tryz.func131
end shape_Needs
namespace shape_Shape_Why_6
abbrev f:Nat:=132
def s:bP:=(S
(F [J 2 (.mv (B false))] 1)
(S
(.fm [D 3 14 0,
 T 4 3,
 J 5 (.bin .eql (.t 4) (.k (b8 1))),
 M 6 5,
 H 7 (.load none (.t 1)) 6 true,
 H 8 (.dR (.t 7)) 6 true,
 H 9 (.aX 0 (.t 8)) 6 true,
 H 10 (.load none (.t 9)) 6 true,
 H 11 (.load (some 29) (.t 0)) 6 true,
 H 12 (.call (C 133) [(.t 10),(.t 11)]) 6 true,
 H 13 (.bin .neq (.t 12) (Z 0)) 6 true,
 U 14 6 13,
 M 2 14] [0,
1,
3,
7,
15,
31,
63,
127,
15,
511,
1023,
2047,
4095] true)
.ret))
def rv:List RV:=[.tmp 2]
theorem enter:En Tryz.prog 132 15 s rv:=En.mk (c:=Tryz.f132.body.getD .ret) Tryz.func132
end shape_Shape_Why_6
namespace tree_Tree_Why
abbrev f:Nat:=133
def s:bP:=(S
(F [x 2 105 0,
 x 3 43 1,
 J 4 (.mv (Z 0))] 3)
(S
(S
(F [T 9 2,
 P 10 162 9] 2)
(.cond (.t 10)
(S
(F [J 4 (.mv (Z 1))] 1)
.ret)
.skip))
(S
(.fm [T 12 2,
 A 13 12,
 D 14 0 13,
 T 15 14,
 D 16 15 3,
 K 17 2 16,
 J 18 (.look [true,true] true (.agg [b8 0,av 0,b8 0,av 0,b8 0,av 0,av 0,b8 0,b8 0,bC 0,i6 0]) (.t 15) (.t 17) true),
 M 11 18,
 E 19 0 11,
 E 20 1 11,
 J 5 (.alloc 158 [b8 0,av 0,b8 0,av 0,b8 0,av 0,av 0,b8 0,b8 0,bC 0,i6 0]),
 J 6 (.alloc 4 [(.d (.bool false))]),
 W 11 5 19,
 W 1 6 20] [0,
1,
3,
7,
0,
16,
63,
127,
255,
255,
0,
0,
3583,
8191] true)
(S
(S
(F [J 21 (.sQ (.func 166) [] [(.t 3)]),
 J 22 (.fL [i6 0,(.d .gL)] [(0,1,(Z 2)),(1,1,(.t 21))]),
 J 23 (.sQ (.func 167) [] [(.t 6),(.t 5),(.t 3),(.t 2)]),
 J 24 (.fL [i6 0,(.d .gL)] [(0,1,(Z 272)),(1,1,(.t 23))]),
 J 25 (.sQ (.func 168) [] [(.t 5),(.t 3)]),
 J 26 (.fL [i6 0,(.d .gL)] [(0,1,(Z 273)),(1,1,(.t 25))]),
 J 27 (.sQ (.func 169) [] [(.t 5)]),
 J 28 (.fL [i6 0,(.d .gL)] [(0,1,(Z 274)),(1,1,(.t 27))]),
 J 29 (.sQ (.func 170) [] [(.t 3),(.t 5)]),
 J 30 (.fL [i6 0,(.d .gL)] [(0,1,(Z 275)),(1,1,(.t 29))]),
 J 31 (.fL [i6 0,(.d .gL),i6 0,(.d .gL),i6 0,(.d .gL),i6 0,(.d .gL),i6 0,(.d .gL)] [(0,2,(.t 22)),(2,2,(.t 24)),(4,2,(.t 26)),(6,2,(.t 28)),(8,2,(.t 30))]),
 J 32 (.mv (Z 0))] 12)
(.block 0
(.loop
(S
(F [Y 33 .lss 32 5] 1)
(S
(.cond (.t 33)
.skip
(.exit 0))
(S
(.block 1
(S
(F [J 34 (.index 5 2 true (.t 31) (.t 32)),
 J 8 (.alloc 197 [i6 0,(.d .gL)]),
 W 2 8 34] 3)
(S
(F [D 35 1 8,
 T 36 35,
 J 37 (.call (.t 36) [])] 3)
(.cond (.t 37)
(S
(F [D 38 0 8,
 T 39 38,
 M 4 39] 3)
.ret)
.skip))))
(F [Y 40 .add 32 1,
 M 32 40] 2)))))))
(S
(F [J 4 (.mv (Z 0))] 1)
.ret)))))
def rv:List RV:=[.tmp 4]
theorem enter:En Tryz.prog 133 41 s rv:=En.mk (c:=Tryz.f133.body.getD .ret) Tryz.func133
end tree_Tree_Why
namespace shape_Shape_Why_7
abbrev f:Nat:=134
def s:bP:=(S
(F [J 2 (.mv (B false))] 1)
(S
(F [T 3 0,
 K 4 29 1,
 Q 5 135 3 4,
 O 6 5,
 M 2 6] 5)
.ret))
def rv:List RV:=[.tmp 2]
theorem enter:En Tryz.prog 134 7 s rv:=En.mk (c:=Tryz.f134.body.getD .ret) Tryz.func134
end shape_Shape_Why_7
namespace shape_Shape_target
abbrev f:Nat:=135
def s:bP:=(S
(F [x 2 29 0,
 x 3 43 1,
 J 4 (.mv (B false))] 3)
(S
(S
(F [D 7 14 3,
 T 8 7] 2)
(.block 0
(S
(F [J 10 (.bin .eql (.t 8) (.k (b8 2))),
 M 9 10] 2)
(.cond (.t 9)
(S
(F [T 12 2,
 D 13 21 3,
 K 14 2 13,
 K 15 29 3,
 R 16 124 12 14 15,
 M 11 16,
 E 17 0 11,
 E 18 1 11,
 J 5 (.alloc 158 [b8 0,av 0,b8 0,av 0,b8 0,av 0,av 0,b8 0,b8 0,bC 0,i6 0]),
 W 11 5 17,
 M 6 18] 11)
(S
(.fm [M 19 6,
 M 20 19,
 H 21 (.load none (.t 2)) 20 true,
 H 22 (.dR (.t 21)) 20 true,
 H 23 (.aX 0 (.t 22)) 20 true,
 H 24 (.load none (.t 23)) 20 true,
 H 25 (.aX 15 (.t 3)) 20 true,
 H 26 (.load (some 2) (.t 25)) 20 true,
 H 27 (.aX 21 (.t 3)) 20 true,
 H 28 (.load (some 2) (.t 27)) 20 true,
 H 29 (.call (C 171) [(.t 24),(.t 26),(.t 28)]) 20 true,
 U 30 20 29,
 M 4 30] [0,
1,
3,
7,
15,
31,
3,
67,
3,
259,
1023,
2047,
4095] true)
.ret))
(S
(S
(F [J 32 (.bin .eql (.t 8) (.k (b8 4))),
 M 31 32] 2)
(.cond (.t 31)
.skip
(F [J 33 (.bin .eql (.t 8) (.k (b8 5))),
 M 31 33] 2)))
(.cond (.t 31)
(S
(F [T 34 2,
 D 35 21 3,
 K 36 2 35,
 K 37 29 3,
 R 38 172 34 36 37,
 M 4 38] 6)
.ret)
(S
(S
(F [J 40 (.bin .eql (.t 8) (.k (b8 6))),
 M 39 40] 2)
(.cond (.t 39)
.skip
(F [J 41 (.bin .eql (.t 8) (.k (b8 7))),
 M 39 41] 2)))
(.cond (.t 39)
(S
(F [T 42 2,
 D 43 21 3,
 K 44 2 43,
 D 45 23 3,
 K 46 2 45,
 J 47 (.fL [b8 0,av 0,b8 0,av 0] [(0,2,(.t 44)),(2,2,(.t 46))]),
 K 48 29 3,
 R 49 173 42 47 48,
 M 4 49] 9)
.ret)
(S
(F [J 51 (.bin .eql (.t 8) (.k (b8 8))),
 M 50 51] 2)
(.cond (.t 50)
(S
(F [D 52 28 3,
 T 53 52,
 J 54 (.sQ (.func 175) [] [(.t 2),(.t 3)]),
 Q 55 174 53 54,
 O 56 55,
 M 4 56] 6)
.ret)
.skip))))))))))
(S
(F [J 4 (.mv (B true))] 1)
.ret)))
def rv:List RV:=[.tmp 4]
theorem enter:En Tryz.prog 135 57 s rv:=En.mk (c:=Tryz.f135.body.getD .ret) Tryz.func135
end shape_Shape_target
namespace order_Before
abbrev f:Nat:=137
def s:bP:=(S
(F [x 2 43 0,
 x 3 43 1,
 J 4 (.mv (B false))] 3)
(S
(F [D 5 2 3,
 K 6 8 5,
 D 7 0 2,
 K 8 2 7,
 Q 9 85 6 8,
 M 4 9] 6)
.ret))
def rv:List RV:=[.tmp 4]
theorem enter:En Tryz.prog 137 10 s rv:=En.mk (c:=Tryz.f137.body.getD .ret) Tryz.func137
end order_Before
namespace ref16_Chain
abbrev f:Nat:=138
def s:bP:=(S
(F [x 3 37 1,
 J 4 (.mv (.k (.d .aJ))),
 J 5 (.mv (Z 0))] 3)
(S
(F [M 10 0,
 K 11 2 3,
 Q 12 176 10 11,
 M 9 12,
 E 13 0 9,
 E 14 1 9,
 J 6 (.alloc 158 [b8 0,av 0,b8 0,av 0,b8 0,av 0,av 0,b8 0,b8 0,bC 0,i6 0]),
 W 11 6 13,
 M 7 14] 9)
(S
(S
(F [M 15 7,
 O 16 15] 2)
(.cond (.t 16)
(S
(F [J 4 (.mv (.k (.d .aJ))),
 J 5 (.mv (Z 7))] 2)
.ret)
.skip))
(S
(F [K 17 2 3,
 J 18 (.lB 37 2 1 [b8 0,av 0] [(0,2,(.t 17))]),
 M 8 18] 3)
(S
(.block 0
(.loop
(S
(S
(F [D 19 10 6,
 T 20 19,
 Y 21 .gtr 20 0] 3)
(.cond (.t 21)
.skip
(.exit 0)))
(.block 1
(S
(F [M 22 8,
 D 23 4 6,
 K 24 2 23,
 J 25 (.lB 37 2 1 [b8 0,av 0] [(0,2,(.t 24))]),
 J 26 (.app 37 2 8 (.t 22) (.t 25)),
 M 8 26] 6)
(F [M 28 0,
 D 29 4 6,
 K 30 2 29,
 Q 31 176 28 30,
 M 27 31,
 E 32 0 27,
 E 33 1 27,
 W 11 6 32] 8))))))
(S
(F [M 34 8,
 M 4 34,
 J 5 (.mv (Z 0))] 3)
.ret))))))
def rv:List RV:=[.tmp 4,.tmp 5]
theorem enter:En Tryz.prog 138 35 s rv:=En.mk (c:=Tryz.f138.body.getD .ret) Tryz.func138
end ref16_Chain
namespace dot_setOf
abbrev f:Nat:=139
def s:bP:=(S
(F [J 2 (.mv (.k (.d .jj)))] 1)
(S
(F [J 6 (.zZ),
 M 3 6] 2)
(S
(S
(F [M 7 0,
 L 8 7,
 J 9 (.mv (Z 0))] 3)
(.block 0
(.loop
(S
(F [V 10 .lss 9 8] 1)
(S
(.cond (.t 10)
.skip
(.exit 0))
(S
(.block 1
(S
(F [I 11 2 7 9,
 K 12 2 11,
 J 5 (.alloc 37 [b8 0,av 0]),
 W 2 5 12] 4)
(F [M 13 3,
 K 14 2 5,
 N (.qF [true,true] true (.t 13) (.t 14) (Z 1))] 3)))
(F [Y 15 .add 9 1,
 M 9 15] 2)))))))
(S
(F [M 16 3,
 M 2 16] 2)
.ret))))
def rv:List RV:=[.tmp 2]
theorem enter:En Tryz.prog 139 17 s rv:=En.mk (c:=Tryz.f139.body.getD .ret) Tryz.func139
end dot_setOf
namespace dot_set_list
abbrev f:Nat:=140
def s:bP:=(S
(F [J 2 (.mv (.k (.d .aJ)))] 1)
(S
(F [M 3 0,
 P 4 177 3,
 J 5 (.call (C 116) [(.t 4),(C 118)]),
 M 2 5] 4)
.ret))
def rv:List RV:=[.tmp 2]
theorem enter:En Tryz.prog 140 6 s rv:=En.mk (c:=Tryz.f140.body.getD .ret) Tryz.func140
end dot_set_list
namespace dot_May
abbrev f:Nat:=141
def s:bP:=(S
(F [x 1 37 0,
 J 2 (.mv (B false))] 2)
(S
(F [D 3 0 1,
 T 4 3,
 J 5 (.bin .lss (.t 4) (.k (b8 8))),
 M 6 5,
 H 7 (.aX 1 (.t 1)) 6 true,
 H 8 (.load none (.t 7)) 6 true,
 H 9 (.bin .gtr (.t 8) (.k (av 0))) 6 true,
 U 10 6 9,
 M 2 10] 9)
.ret))
def rv:List RV:=[.tmp 2]
theorem enter:En Tryz.prog 141 11 s rv:=En.mk (c:=Tryz.f141.body.getD .ret) Tryz.func141
end dot_May
namespace ref03_with
abbrev f:Nat:=142
def s:bP:=(S
(F [x 3 37 1,
 J 4 (.mv (.k (.d .aJ)))] 2)
(S
(S
(F [M 7 0,
 K 8 2 3,
 Q 9 21 7 8] 3)
(.cond (.t 9)
(S
(F [M 10 0,
 M 4 10] 2)
.ret)
.skip))
(S
(F [J 5 (.mv (.k (.d .aJ)))] 1)
(S
(F [J 6 (.mv (Z 0))] 1)
(S
(.block 0
(.loop
(S
(S
(.fm [M 11 6,
 M 12 0,
 L 13 12,
 V 14 .lss 11 13,
 M 15 14,
 G 16 0 15 true,
 G 17 6 15 true,
 H 18 (.eD 2 (.t 16) (.t 17)) 15 true,
 H 19 (.load (some 2) (.t 18)) 15 true,
 H 20 (.load (some 2) (.t 3)) 15 true,
 H 21 (.call (C 114) [(.t 19),(.t 20)]) 15 true,
 H 22 (.bin .lss (.t 21) (Z 0)) 15 true,
 U 23 15 22] [0,
0,
2,
7,
15,
31,
31,
127,
255,
31,
1023,
2047,
4095] true)
(.cond (.t 23)
.skip
(.exit 0)))
(.block 1
(S
(F [M 24 5,
 M 25 0,
 M 26 6,
 I 27 2 25 26,
 K 28 2 27,
 J 29 (.lB 37 2 1 [b8 0,av 0] [(0,2,(.t 28))]),
 J 30 (.app 37 2 8 (.t 24) (.t 29)),
 M 5 30] 8)
(F [M 31 6,
 Y 32 .add 31 1,
 M 6 32] 3))))))
(S
(F [M 33 5,
 K 34 2 3,
 J 35 (.lB 37 2 1 [b8 0,av 0] [(0,2,(.t 34))]),
 J 36 (.app 37 2 8 (.t 33) (.t 35)),
 M 5 36] 5)
(S
(F [M 37 5,
 M 38 0,
 M 39 6,
 J 40 (.slc 2 (.t 38) (some (.t 39)) none),
 J 41 (.app 37 2 8 (.t 37) (.t 40)),
 M 4 41] 6)
.ret)))))))
def rv:List RV:=[.tmp 4]
theorem enter:En Tryz.prog 142 42 s rv:=En.mk (c:=Tryz.f142.body.getD .ret) Tryz.func142
end ref03_with
namespace cmp_Or_int
abbrev f:Nat:=146
def s:bP:=(S
(F [J 2 (.mv (Z 0))] 1)
(S
(F [J 3 (.mv (Z 0))] 1)
(S
(S
(F [M 6 0,
 L 7 6,
 J 8 (.mv (Z 0))] 3)
(.block 0
(.loop
(S
(F [V 9 .lss 8 7] 1)
(S
(.cond (.t 9)
.skip
(.exit 0))
(S
(.block 1
(S
(F [I 10 1 6 8,
 T 11 10,
 M 5 11] 3)
(S
(F [M 12 5,
 M 13 3,
 V 14 .neq 12 13] 3)
(.cond (.t 14)
(S
(F [M 15 5,
 M 2 15] 2)
.ret)
.skip))))
(F [Y 16 .add 8 1,
 M 8 16] 2)))))))
(S
(F [M 17 3,
 M 2 17] 2)
.ret))))
def rv:List RV:=[.tmp 2]
theorem enter:En Tryz.prog 146 18 s rv:=En.mk (c:=Tryz.f146.body.getD .ret) Tryz.func146
end cmp_Or_int
namespace cmp_Compare_uint8
abbrev f:Nat:=148
def s:bP:=(S
(F [J 4 (.mv (Z 0))] 1)
(S
(F [M 7 0,
 P 8 179 7,
 M 5 8] 3)
(S
(F [M 9 1,
 P 10 179 9,
 M 6 10] 3)
(S
(S
(F [M 11 5] 1)
(.cond (.t 11)
(S
(S
(F [M 12 6] 1)
(.cond (.t 12)
(S
(F [J 4 (.mv (Z 0))] 1)
.ret)
.skip))
(S
(F [J 4 (.mv (.k (.d (.int .i64 (-1)))))] 1)
.ret))
.skip))
(S
(S
(F [M 13 6] 1)
(.cond (.t 13)
(S
(F [J 4 (.mv (Z 1))] 1)
.ret)
.skip))
(S
(S
(F [M 14 0,
 M 15 1,
 V 16 .lss 14 15] 3)
(.cond (.t 16)
(S
(F [J 4 (.mv (.k (.d (.int .i64 (-1)))))] 1)
.ret)
.skip))
(S
(S
(F [M 17 0,
 M 18 1,
 V 19 .gtr 17 18] 3)
(.cond (.t 19)
(S
(F [J 4 (.mv (Z 1))] 1)
.ret)
.skip))
(S
(F [J 4 (.mv (Z 0))] 1)
.ret))))))))
def rv:List RV:=[.tmp 4]
theorem enter:En Tryz.prog 148 20 s rv:=En.mk (c:=Tryz.f148.body.getD .ret) Tryz.func148
end cmp_Compare_uint8
namespace cmp_Compare_uint32
abbrev f:Nat:=149
def s:bP:=(S
(F [J 4 (.mv (Z 0))] 1)
(S
(F [M 7 0,
 P 8 180 7,
 M 5 8] 3)
(S
(F [M 9 1,
 P 10 180 9,
 M 6 10] 3)
(S
(S
(F [M 11 5] 1)
(.cond (.t 11)
(S
(S
(F [M 12 6] 1)
(.cond (.t 12)
(S
(F [J 4 (.mv (Z 0))] 1)
.ret)
.skip))
(S
(F [J 4 (.mv (.k (.d (.int .i64 (-1)))))] 1)
.ret))
.skip))
(S
(S
(F [M 13 6] 1)
(.cond (.t 13)
(S
(F [J 4 (.mv (Z 1))] 1)
.ret)
.skip))
(S
(S
(F [M 14 0,
 M 15 1,
 V 16 .lss 14 15] 3)
(.cond (.t 16)
(S
(F [J 4 (.mv (.k (.d (.int .i64 (-1)))))] 1)
.ret)
.skip))
(S
(S
(F [M 17 0,
 M 18 1,
 V 19 .gtr 17 18] 3)
(.cond (.t 19)
(S
(F [J 4 (.mv (Z 1))] 1)
.ret)
.skip))
(S
(F [J 4 (.mv (Z 0))] 1)
.ret))))))))
def rv:List RV:=[.tmp 4]
theorem enter:En Tryz.prog 149 20 s rv:=En.mk (c:=Tryz.f149.body.getD .ret) Tryz.func149
end cmp_Compare_uint32
namespace ref17_cart
abbrev f:Nat:=151
def s:bP:=(S
(F [x 3 43 1,
 J 4 (.mv (B false))] 2)
(S
(S
(F [D 7 14 3,
 T 8 7,
 J 9 (.bin .eql (.t 8) (.k (b8 0)))] 3)
(.cond (.t 9)
(S
(F [D 10 12 3,
 K 11 2 10,
 D 12 0 3,
 K 13 2 12,
 J 14 (.eqv false [true,true] (.t 11) (.t 13)),
 M 4 14] 6)
.ret)
.skip))
(S
(F [M 16 0,
 D 17 12 3,
 K 18 2 17,
 Q 19 22 16 18,
 M 15 19,
 E 20 0 15,
 E 21 1 15,
 J 5 (.alloc 43 bF),
 W 29 5 20,
 M 6 21] 10)
(S
(F (M 22 6::
 M 23 22::
 H 24 (.aX 14 (.t 5)) 23 true::
 H 25 (.load none (.t 24)) 23 true::
 H 26 (.bin .eql (.t 25) (.k (b8 0))) 23 true::
 U 27 23 26::
 M 28 27::
 H 29 (.aX 12 (.t 5)) 28 true::
 H 30 (.load (some 2) (.t 29)) 28 true::
 H 31 (.aX 12 (.t 3)) 28 true::
 H 32 (.load (some 2) (.t 31)) 28 true::
 H 33 (.eqv false [true,true] (.t 30) (.t 32)) 28 true::
 U 34 28 33::
 M 35 34::
 H 36 (.load (some 29) (.t 5)) 35 true::
 H 37 (.load (some 29) (.t 3)) 35 true::
 H 38 (.call (C 23) [(.t 36),(.t 37)]) 35 true::
 U 39 35 38::
 M 4 39::[]) 19)
.ret))))
def rv:List RV:=[.tmp 4]
theorem enter:En Tryz.prog 151 40 s rv:=En.mk (c:=Tryz.f151.body.getD .ret) Tryz.func151
end ref17_cart
namespace ref17_cred
abbrev f:Nat:=152
def s:bP:=(S
(F [x 4 37 1,
 x 5 43 2,
 J 6 (.alloc 158 [b8 0,av 0,b8 0,av 0,b8 0,av 0,av 0,b8 0,b8 0,bC 0,i6 0]),
 J 7 (.mv (B false))] 4)
(S
(F [M 11 0,
 K 12 2 4,
 Q 13 176 11 12,
 M 10 13,
 E 14 0 10,
 E 15 1 10,
 J 8 (.alloc 158 [b8 0,av 0,b8 0,av 0,b8 0,av 0,av 0,b8 0,b8 0,bC 0,i6 0]),
 W 11 8 14,
 M 9 15] 9)
(S
(.fm (K 16 11 8::
 M 17 9::
 M 18 17::
 H 19 (.aX 2 (.t 8)) 18 true::
 H 20 (.load (some 2) (.t 19)) 18 true::
 H 21 (.aX 12 (.t 5)) 18 true::
 H 22 (.load (some 2) (.t 21)) 18 true::
 H 23 (.eqv false [true,true] (.t 20) (.t 22)) 18 true::
 U 24 18 23::
 M 25 24::
 G 26 0 25 true::
 H 27 (.load (some 2) (.t 4)) 25 true::
 H 28 (.load (some 29) (.t 5)) 25 true::
 H 29 (.call (C 181) [(.t 26),(.t 27),(.t 28)]) 25 true::
 U 30 25 29::
 W 11 6 16::
 M 7 30::[]) (0::
0::
2::
6::
14::
6::
38::
126::
254::
510::
1022::
1022::
1022::
8190::
16382::
16383::
65535::[]) true)
.ret)))
def rv:List RV:=[.cell 6 (some 11),.tmp 7]
theorem enter:En Tryz.prog 152 31 s rv:=En.mk (c:=Tryz.f152.body.getD .ret) Tryz.func152
end ref17_cred
namespace ref17_Needs
abbrev f:Nat:=153
def s:bP:=(S
(F [J 2 (.mv (.k (b8 0)))] 1)
(S
(S
(F [M 3 0] 1)
(.block 0
(S
(S
(F [J 5 (.bin .eql (.t 3) (.k (b8 1))),
 M 4 5] 2)
(.cond (.t 4)
.skip
(F [J 6 (.bin .eql (.t 3) (.k (b8 2))),
 M 4 6] 2)))
(.cond (.t 4)
(S
(F [J 2 (.mv (.k (b8 1)))] 1)
.ret)
(S
(S
(F [J 8 (.bin .eql (.t 3) (.k (b8 3))),
 M 7 8] 2)
(.cond (.t 7)
.skip
(S
(F [J 9 (.bin .eql (.t 3) (.k (b8 4))),
 M 7 9] 2)
(.cond (.t 7)
.skip
(S
(F [J 10 (.bin .eql (.t 3) (.k (b8 5))),
 M 7 10] 2)
(.cond (.t 7)
.skip
(F [J 11 (.bin .eql (.t 3) (.k (b8 8))),
 M 7 11] 2)))))))
(.cond (.t 7)
(S
(F [J 2 (.mv (.k (b8 2)))] 1)
.ret)
(S
(S
(F [J 13 (.bin .eql (.t 3) (.k (b8 6))),
 M 12 13] 2)
(.cond (.t 12)
.skip
(F [J 14 (.bin .eql (.t 3) (.k (b8 7))),
 M 12 14] 2)))
(.cond (.t 12)
(S
(F [J 2 (.mv (.k (b8 4)))] 1)
.ret)
.skip))))))))
(S
(F [J 2 (.mv (.k (b8 0)))] 1)
.ret)))
def rv:List RV:=[.tmp 2]
theorem enter:En Tryz.prog 153 15 s rv:=En.mk (c:=Tryz.f153.body.getD .ret) Tryz.func153
end ref17_Needs
namespace ref16_Why
abbrev f:Nat:=154
def s:bP:=(S
(F [x 3 43 1,
 J 4 (.mv (Z 0))] 2)
(S
(F [M 8 0,
 K 9 29 3,
 J 10 (.call (C 182) [(.t 8),(.t 9),(Z 11)]),
 M 7 10,
 E 11 0 7,
 E 12 1 7,
 J 5 (.alloc 158 [b8 0,av 0,b8 0,av 0,b8 0,av 0,av 0,b8 0,b8 0,bC 0,i6 0]),
 W 11 5 11,
 M 6 12] 9)
(S
(F [M 13 6,
 M 4 13] 2)
.ret)))
def rv:List RV:=[.tmp 4]
theorem enter:En Tryz.prog 154 14 s rv:=En.mk (c:=Tryz.f154.body.getD .ret) Tryz.func154
end ref16_Why
namespace ref17_target
abbrev f:Nat:=155
def s:bP:=(S
(F [x 3 43 1,
 J 4 (.mv (B false))] 2)
(S
(S
(F [D 8 14 3,
 T 9 8] 2)
(.block 0
(S
(F [J 11 (.bin .eql (.t 9) (.k (b8 2))),
 M 10 11] 2)
(.cond (.t 10)
(S
(F [M 13 0,
 D 14 21 3,
 K 15 2 14,
 K 16 29 3,
 R 17 152 13 15 16,
 M 12 17,
 E 18 0 12,
 E 19 1 12,
 J 5 (.alloc 158 [b8 0,av 0,b8 0,av 0,b8 0,av 0,av 0,b8 0,b8 0,bC 0,i6 0]),
 W 11 5 18,
 M 6 19] 11)
(S
(F [M 20 6,
 M 21 20,
 G 22 0 21 true,
 H 23 (.aX 15 (.t 3)) 21 true,
 H 24 (.load (some 2) (.t 23)) 21 true,
 H 25 (.aX 21 (.t 3)) 21 true,
 H 26 (.load (some 2) (.t 25)) 21 true,
 H 27 (.call (C 183) [(.t 22),(.t 24),(.t 26)]) 21 true,
 U 28 21 27,
 M 4 28] 10)
.ret))
(S
(S
(F [J 30 (.bin .eql (.t 9) (.k (b8 4))),
 M 29 30] 2)
(.cond (.t 29)
.skip
(F [J 31 (.bin .eql (.t 9) (.k (b8 5))),
 M 29 31] 2)))
(.cond (.t 29)
(S
(F [M 32 0,
 D 33 21 3,
 K 34 2 33,
 D 35 12 3,
 K 36 2 35,
 R 37 184 32 34 36,
 M 38 37,
 G 39 0 38 true,
 H 40 (.aX 21 (.t 3)) 38 true,
 H 41 (.load (some 2) (.t 40)) 38 true,
 H 42 (.load (some 29) (.t 3)) 38 true,
 H 43 (.call (C 181) [(.t 39),(.t 41),(.t 42)]) 38 true,
 U 44 38 43,
 M 4 44] 14)
.ret)
(S
(S
(F [J 46 (.bin .eql (.t 9) (.k (b8 6))),
 M 45 46] 2)
(.cond (.t 45)
.skip
(F [J 47 (.bin .eql (.t 9) (.k (b8 7))),
 M 45 47] 2)))
(.cond (.t 45)
(S
(F [M 48 0,
 D 49 21 3,
 K 50 2 49,
 D 51 23 3,
 K 52 2 51,
 K 53 29 3,
 J 54 (.call (C 185) [(.t 48),(.t 50),(.t 52),(.t 53)]),
 M 4 54] 8)
.ret)
(S
(F [J 56 (.bin .eql (.t 9) (.k (b8 8))),
 M 55 56] 2)
(.cond (.t 55)
(S
(F [J 7 (.mv (Z 0))] 1)
(.block 1
(.loop
(S
(S
(F [M 57 7,
 D 58 28 3,
 T 59 58,
 L 60 59,
 V 61 .lss 57 60] 5)
(.cond (.t 61)
.skip
(.exit 1)))
(S
(.block 2
(S
(.fm (M 64 0::
 D 65 28 3::
 T 66 65::
 M 67 7::
 I 68 4 66 67::
 D 69 0 68::
 K 70 2 69::
 D 71 28 3::
 T 72 71::
 M 73 7::
 I 74 4 72 73::
 D 75 2 74::
 K 76 2 75::
 K 77 29 3::
 J 78 (.call (C 185) [(.t 64),(.t 70),(.t 76),(.t 77)])::
 O 79 78::[]) (0::
0::
2::
0::
14::
30::
62::
0::
128::
0::
896::
1920::
3968::
0::
16383::
32767::[]) true)
(.cond (.t 79)
(S
(F [J 4 (.mv (B false))] 1)
.ret)
.skip)))
(F [M 62 7,
 Y 63 .add 62 1,
 M 7 63] 3))))))
.skip))))))))))
(S
(F [J 4 (.mv (B true))] 1)
.ret)))
def rv:List RV:=[.tmp 4]
theorem enter:En Tryz.prog 155 80 s rv:=En.mk (c:=Tryz.f155.body.getD .ret) Tryz.func155
end ref17_target
namespace slices_Collect_api_Dot
abbrev f:Nat:=159
def s:bP:=(S
(F [J 2 (.mv (.k (.d .aJ)))] 1)
(S
(F [M 3 0,
 J 4 (.call (C 189) [(.k (.d .aJ)),(.t 3)]),
 M 2 4] 3)
.ret))
def rv:List RV:=[.tmp 2]
theorem enter:En Tryz.prog 159 5 s rv:=En.mk (c:=Tryz.f159.body.getD .ret) Tryz.func159
end slices_Collect_api_Dot
namespace slices_SortFunc_Lapi_Dot_api_Dot
abbrev f:Nat:=160
end slices_SortFunc_Lapi_Dot_api_Dot
namespace maps_Keys_map_api_Dot_api_Op_api_Dot_api_Op_1
abbrev f:Nat:=161
def s:bP:=(S
(F [T 4 1,
 J 5 (.mO (.t 4))] 2)
(.block 0
(.loop
(S
(F [J 6 (.lH (.t 5)),
 E 7 0 6] 2)
(S
(.cond (.t 7)
.skip
(.exit 0))
(.block 1
(S
(F [J 8 (.oo (.t 5)),
 E 9 0 8,
 J 3 (.alloc 37 [b8 0,av 0]),
 W 2 3 9] 4)
(S
(F [M 10 0,
 K 11 2 3,
 J 12 (.call (.t 10) [(.t 11)]),
 O 13 12] 4)
(.cond (.t 13)
.ret
.skip)))))))))
def rv:List RV:=[]
theorem enter:En Tryz.prog 161 14 s rv:=En.mk (c:=Tryz.f161.body.getD .ret) Tryz.func161
end maps_Keys_map_api_Dot_api_Op_api_Dot_api_Op_1
namespace tree_Tree_none
abbrev f:Nat:=162
def s:bP:=(S
(F [J 2 (.mv (B false))] 1)
(S
(F [M 3 0,
 J 4 (.kG false 0 (.t 3)),
 M 5 4,
 G 6 0 5 false,
 H 7 (.dR (.t 6)) 5 false,
 H 8 (.aX 0 (.t 7)) 5 false,
 H 9 (.load none (.t 8)) 5 false,
 H 10 (.kG false 1 (.t 9)) 5 false,
 J 11 (.pick (.t 5) (B true) (.t 10)),
 M 2 11] 10)
.ret))
def rv:List RV:=[.tmp 2]
theorem enter:En Tryz.prog 162 12 s rv:=En.mk (c:=Tryz.f162.body.getD .ret) Tryz.func162
end tree_Tree_none
namespace tree_Tree_up_1
abbrev f:Nat:=163
def s:bP:=(S
(.fm [T 7 1,
 A 8 7,
 D 9 0 8,
 T 10 9,
 K 11 2 2,
 J 12 (.look [true,true] true (.agg [b8 0,av 0,b8 0,av 0,b8 0,av 0,av 0,b8 0,b8 0,bC 0,i6 0]) (.t 10) (.t 11) true),
 M 6 12,
 E 13 0 6,
 E 14 1 6,
 J 4 (.alloc 158 [b8 0,av 0,b8 0,av 0,b8 0,av 0,av 0,b8 0,b8 0,bC 0,i6 0]),
 W 11 4 13,
 M 5 14] [0,
1,
3,
7,
0,
31,
63,
127,
127,
0,
767,
2047] true)
(.block 0
(.loop
(S
(S
(F [M 15 5,
 M 16 15,
 G 17 0 16 true,
 H 18 (.load (some 11) (.t 4)) 16 true,
 H 19 (.call (.t 17) [(.t 18)]) 16 true,
 U 20 16 19,
 M 21 20,
 H 22 (.aX 10 (.t 4)) 21 true,
 H 23 (.load none (.t 22)) 21 true,
 H 24 (.bin .gtr (.t 23) (Z 0)) 21 true,
 U 25 21 24] 11)
(.cond (.t 25)
.skip
(.exit 0)))
(S
(.block 1
(.fm [T 27 1,
 A 28 27,
 D 29 0 28,
 T 30 29,
 D 31 4 4,
 K 32 2 31,
 J 33 (.look [true,true] true (.agg [b8 0,av 0,b8 0,av 0,b8 0,av 0,av 0,b8 0,b8 0,bC 0,i6 0]) (.t 30) (.t 32) true),
 M 26 33,
 E 34 0 26,
 E 35 1 26,
 W 11 4 34,
 M 5 35] [0,
1,
3,
7,
0,
16,
63,
127,
255,
255,
511,
2047] true))
(S
(F [K 36 11 4] 1)
(F [J 4 (.alloc 158 [b8 0,av 0,b8 0,av 0,b8 0,av 0,av 0,b8 0,b8 0,bC 0,i6 0]),
 W 11 4 36] 2)))))))
def rv:List RV:=[]
theorem enter:En Tryz.prog 163 37 s rv:=En.mk (c:=Tryz.f163.body.getD .ret) Tryz.func163
end tree_Tree_up_1
namespace slices_IndexFunc_Lapi_Op_api_Op
abbrev f:Nat:=164
def s:bP:=(S
(F [J 4 (.mv (Z 0))] 1)
(S
(S
(F [M 6 0,
 L 7 6,
 J 8 (.mv (Z 0))] 3)
(.block 0
(.loop
(S
(F [V 9 .lss 8 7] 1)
(S
(.cond (.t 9)
.skip
(.exit 0))
(S
(.block 1
(S
(F [M 10 8,
 M 5 10] 2)
(S
(F [M 11 1,
 M 12 0,
 M 13 5,
 I 14 29 12 13,
 K 15 29 14,
 J 16 (.call (.t 11) [(.t 15)])] 6)
(.cond (.t 16)
(S
(F [M 17 5,
 M 4 17] 2)
.ret)
.skip))))
(F [Y 18 .add 8 1,
 M 8 18] 2)))))))
(S
(F [J 4 (.mv (.k (.d (.int .i64 (-1)))))] 1)
.ret)))
def rv:List RV:=[.tmp 4]
theorem enter:En Tryz.prog 164 19 s rv:=En.mk (c:=Tryz.f164.body.getD .ret) Tryz.func164
end slices_IndexFunc_Lapi_Op_api_Op
namespace shape_Shape_before
abbrev f:Nat:=165
def s:bP:=(S
(F [x 4 37 1,
 x 5 43 2,
 J 6 (.mv (B false))] 3)
(S
(.fm [M 10 0,
 A 11 10,
 D 12 1 11,
 T 13 12,
 K 14 2 4,
 J 15 (.look [true,true] true (.agg bF) (.t 13) (.t 14) true),
 M 9 15,
 E 16 0 9,
 E 17 1 9,
 J 7 (.alloc 43 bF),
 W 29 7 16,
 M 8 17] [0,
1,
3,
7,
0,
31,
63,
127,
127,
0,
767,
2047] true)
(S
(F [M 18 8,
 M 19 18,
 H 20 (.load (some 29) (.t 7)) 19 true,
 H 21 (.load (some 29) (.t 5)) 19 true,
 H 22 (.call (C 137) [(.t 20),(.t 21)]) 19 true,
 U 23 19 22,
 M 6 23] 7)
.ret)))
def rv:List RV:=[.tmp 6]
theorem enter:En Tryz.prog 165 24 s rv:=En.mk (c:=Tryz.f165.body.getD .ret) Tryz.func165
end shape_Shape_before
namespace tree_Tree_Why_1
abbrev f:Nat:=166
def s:bP:=(S
(F [J 1 (.mv (B false))] 1)
(S
(F [D 2 14 0,
 T 3 2,
 J 4 (.bin .neq (.t 3) (.k (b8 1))),
 M 1 4] 4)
.ret))
def rv:List RV:=[.tmp 1]
theorem enter:En Tryz.prog 166 5 s rv:=En.mk (c:=Tryz.f166.body.getD .ret) Tryz.func166
end tree_Tree_Why_1
namespace tree_Tree_Why_2
abbrev f:Nat:=167
def s:bP:=(S
(F [J 4 (.mv (B false))] 1)
(S
(.fm (T 5 0::
 O 6 5::
 M 7 6::
 H 8 (.aX 2 (.t 1)) 7 false::
 H 9 (.load (some 2) (.t 8)) 7 false::
 H 10 (.aX 12 (.t 2)) 7 false::
 H 11 (.load (some 2) (.t 10)) 7 false::
 H 12 (.eqv true [true,true] (.t 9) (.t 11)) 7 false::
 J 13 (.pick (.t 7) (B true) (.t 12))::
 M 14 13::
 H 15 (.load none (.t 3)) 14 false::
 H 16 (.dR (.t 15)) 14 false::
 H 17 (.aX 1 (.t 16)) 14 false::
 H 18 (.load none (.t 17)) 14 false::
 H 19 (.aX 15 (.t 2)) 14 false::
 H 20 (.load (some 2) (.t 19)) 14 false::
 H 21 (.look [true,true] true (.agg bF) (.t 18) (.t 20) false) 14 false::
 H 22 (.load (some 29) (.t 2)) 14 false::
 H 23 (.call (C 137) [(.t 21),(.t 22)]) 14 false::
 H 24 (.not (.t 23)) 14 false::
 J 25 (.pick (.t 14) (B true) (.t 24))::
 M 4 25::[]) (0::
1::
3::
7::
15::
7::
39::
127::
255::
511::
1023::
2047::
4095::
8191::
1023::
17407::
65535::
1023::
262143::
524287::
1048575::
2097151::[]) true)
.ret))
def rv:List RV:=[.tmp 4]
theorem enter:En Tryz.prog 167 26 s rv:=En.mk (c:=Tryz.f167.body.getD .ret) Tryz.func167
end tree_Tree_Why_2
namespace tree_Tree_Why_3
abbrev f:Nat:=168
def s:bP:=(S
(F [J 2 (.mv (B false))] 1)
(S
(F [D 3 6 0,
 T 4 3,
 D 5 11 1,
 T 6 5,
 V 7 .neq 4 6,
 M 2 7] 6)
.ret))
def rv:List RV:=[.tmp 2]
theorem enter:En Tryz.prog 168 8 s rv:=En.mk (c:=Tryz.f168.body.getD .ret) Tryz.func168
end tree_Tree_Why_3
namespace tree_Tree_Why_4
abbrev f:Nat:=169
def s:bP:=(S
(F [J 1 (.mv (B false))] 1)
(S
(F [D 2 7 0,
 T 3 2,
 J 4 (.bin .and (.t 3) (.k (b8 1))),
 J 5 (.bin .eql (.t 4) (.k (b8 0))),
 M 1 5] 5)
.ret))
def rv:List RV:=[.tmp 1]
theorem enter:En Tryz.prog 169 6 s rv:=En.mk (c:=Tryz.f169.body.getD .ret) Tryz.func169
end tree_Tree_Why_4
namespace tree_Tree_Why_5
abbrev f:Nat:=170
def s:bP:=(S
(F [J 2 (.mv (B false))] 1)
(S
(F (D 3 18 0::
 T 4 3::
 J 5 (.bin .eql (.t 4) (.k (b8 0)))::
 M 6 5::
 H 7 (.aX 18 (.t 0)) 6 false::
 H 8 (.load none (.t 7)) 6 false::
 H 9 (.aX 7 (.t 1)) 6 false::
 H 10 (.load none (.t 9)) 6 false::
 H 11 (.bin .andNot (.t 8) (.t 10)) 6 false::
 H 12 (.bin .neq (.t 11) (.k (b8 0))) 6 false::
 J 13 (.pick (.t 6) (B true) (.t 12))::
 M 14 13::
 H 15 (.aX 17 (.t 0)) 14 false::
 H 16 (.load none (.t 15)) 14 false::
 H 17 (.bin .eql (.t 16) (.k (av 0))) 14 false::
 J 18 (.pick (.t 14) (B true) (.t 17))::
 M 19 18::
 H 20 (.aX 19 (.t 0)) 19 false::
 H 21 (.load none (.t 20)) 19 false::
 H 22 (.aX 8 (.t 1)) 19 false::
 H 23 (.load none (.t 22)) 19 false::
 H 24 (.bin .geq (.t 21) (.t 23)) 19 false::
 J 25 (.pick (.t 19) (B true) (.t 24))::
 M 26 25::
 H 27 (.aX 20 (.t 0)) 26 false::
 H 28 (.load none (.t 27)) 26 false::
 H 29 (.aX 9 (.t 1)) 26 false::
 H 30 (.load none (.t 29)) 26 false::
 H 31 (.bin .gtr (.t 28) (.t 30)) 26 false::
 J 32 (.pick (.t 26) (B true) (.t 31))::
 M 2 32::[]) 31)
.ret))
def rv:List RV:=[.tmp 2]
theorem enter:En Tryz.prog 170 33 s rv:=En.mk (c:=Tryz.f170.body.getD .ret) Tryz.func170
end tree_Tree_Why_5
namespace tree_Tree_Above
abbrev f:Nat:=171
def s:bP:=(S
(F [x 4 37 1,
 x 5 37 2,
 J 6 (.alloc 4 [(.d (.bool false))])] 3)
(S
(S
(F [M 8 0,
 P 9 162 8,
 M 10 9,
 H 11 (.load (some 2) (.t 4)) 10 false,
 H 12 (.load (some 2) (.t 5)) 10 false,
 H 13 (.eqv false [true,true] (.t 11) (.t 12)) 10 false,
 J 14 (.pick (.t 10) (B true) (.t 13))] 7)
(.cond (.t 14)
(S
(F [N (.store 1 (.t 6) (B false))] 1)
.ret)
.skip))
(S
(S
(F [M 15 0,
 K 16 2 5,
 Q 17 120 15 16] 3)
(.block 0
(.sn (.t 17) [18]
(F [J 7 (.alloc 158 [b8 0,av 0,b8 0,av 0,b8 0,av 0,av 0,b8 0,b8 0,bC 0,i6 0]),
 W 11 7 18] 2)
(.block 1
(S
(F [D 19 0 7,
 K 20 2 19,
 K 21 2 4,
 J 22 (.eqv false [true,true] (.t 20) (.t 21))] 4)
(.cond (.t 22)
(S
(F [N (.store 1 (.t 6) (B true))] 1)
.ret)
.skip))))))
(S
(F [N (.store 1 (.t 6) (B false))] 1)
.ret))))
def rv:List RV:=[.cell 6 none]
theorem enter:En Tryz.prog 171 23 s rv:=En.mk (c:=Tryz.f171.body.getD .ret) Tryz.func171
end tree_Tree_Above
namespace shape_Shape_line
abbrev f:Nat:=172
def s:bP:=(S
(F [x 4 37 1,
 x 5 43 2,
 J 6 (.mv (B false))] 3)
(S
(.fm (M 7 0::
 A 8 7::
 D 9 2 8::
 T 10 9::
 K 11 2 4::
 J 12 (.look [true,true] true (i6 0) (.t 10) (.t 11) false)::
 Y 13 .gtr 12 0::
 M 14 13::
 G 15 0 14 true::
 H 16 (.dR (.t 15)) 14 true::
 H 17 (.aX 1 (.t 16)) 14 true::
 H 18 (.load none (.t 17)) 14 true::
 H 19 (.load (some 2) (.t 4)) 14 true::
 H 20 (.look [true,true] true (.agg bF) (.t 18) (.t 19) false) 14 true::
 H 21 (.field 12 (some 2) (.t 20)) 14 true::
 H 22 (.aX 12 (.t 5)) 14 true::
 H 23 (.load (some 2) (.t 22)) 14 true::
 H 24 (.eqv false [true,true] (.t 21) (.t 23)) 14 true::
 U 25 14 24::
 M 26 25::
 G 27 0 26 true::
 H 28 (.load (some 2) (.t 4)) 26 true::
 H 29 (.load (some 29) (.t 5)) 26 true::
 H 30 (.call (C 165) [(.t 27),(.t 28),(.t 29)]) 26 true::
 U 31 26 30::
 M 6 31::[]) (0::
1::
3::
7::
0::
31::
63::
127::
255::
511::
1023::
2047::
255::
8191::
16383::
255::
33023::
131071::
262143::
524287::
1048575::
1048575::
1048575::
8388607::
16777215::
33554431::[]) true)
.ret))
def rv:List RV:=[.tmp 6]
theorem enter:En Tryz.prog 172 32 s rv:=En.mk (c:=Tryz.f172.body.getD .ret) Tryz.func172
end shape_Shape_line
namespace shape_Shape_claim
abbrev f:Nat:=173
def s:bP:=(S
(F [x 4 148 1,
 x 5 43 2,
 J 6 (.mv (B false))] 3)
(S
(.fm [M 10 0,
 A 11 10,
 D 12 3 11,
 T 13 12,
 D 14 2 4,
 K 15 2 14,
 J 16 (.look [true,true] true (.agg [b8 0,av 0]) (.t 13) (.t 15) true),
 M 9 16,
 E 17 0 9,
 E 18 1 9,
 J 7 (.alloc 37 [b8 0,av 0]),
 W 2 7 17,
 M 8 18] [0,
1,
3,
7,
0,
16,
63,
127,
255,
255,
0,
1535,
4095] true)
(S
(F (M 19 0::
 D 20 0 4::
 K 21 2 20::
 K 22 29 5::
 R 23 172 19 21 22::
 M 24 23::
 H 25 (.aX 2 (.t 4)) 24 true::
 H 26 (.load (some 2) (.t 25)) 24 true::
 H 27 (.aX 0 (.t 4)) 24 true::
 H 28 (.load (some 2) (.t 27)) 24 true::
 H 29 (.eqv false [true,true] (.t 26) (.t 28)) 24 true::
 G 30 29 24 true::
 G 31 8 30 false::
 G 32 31 30 false::
 H 33 (.load (some 2) (.t 7)) 32 true::
 H 34 (.aX 0 (.t 4)) 32 true::
 H 35 (.load (some 2) (.t 34)) 32 true::
 H 36 (.eqv false [true,true] (.t 33) (.t 35)) 32 true::
 H 37 (.pick (.t 32) (.t 36) (B false)) 30 false::
 G 38 37 30 false::
 G 39 0 38 true::
 H 40 (.aX 2 (.t 4)) 38 true::
 H 41 (.load (some 2) (.t 40)) 38 true::
 H 42 (.load (some 29) (.t 5)) 38 true::
 H 43 (.call (C 165) [(.t 39),(.t 41),(.t 42)]) 38 true::
 H 44 (.pick (.t 38) (.t 43) (B false)) 30 false::
 H 45 (.pick (.t 30) (B true) (.t 44)) 24 true::
 U 46 24 45::
 M 6 46::[]) 29)
.ret)))
def rv:List RV:=[.tmp 6]
theorem enter:En Tryz.prog 173 47 s rv:=En.mk (c:=Tryz.f173.body.getD .ret) Tryz.func173
end shape_Shape_claim
namespace slices_ContainsFunc_Lapi_Claim_api_Claim
abbrev f:Nat:=174
def s:bP:=(S
(F [J 4 (.mv (B false))] 1)
(S
(F [M 5 0,
 M 6 1,
 Q 7 192 5 6,
 Y 8 .geq 7 0,
 M 4 8] 5)
.ret))
def rv:List RV:=[.tmp 4]
theorem enter:En Tryz.prog 174 9 s rv:=En.mk (c:=Tryz.f174.body.getD .ret) Tryz.func174
end slices_ContainsFunc_Lapi_Claim_api_Claim
namespace shape_Shape_target_1
abbrev f:Nat:=175
def s:bP:=(S
(F [x 3 148 0,
 J 4 (.mv (B false))] 2)
(S
(F [T 5 1,
 K 6 4 3,
 K 7 29 2,
 R 8 173 5 6 7,
 O 9 8,
 M 4 9] 6)
.ret))
def rv:List RV:=[.tmp 4]
theorem enter:En Tryz.prog 175 10 s rv:=En.mk (c:=Tryz.f175.body.getD .ret) Tryz.func175
end shape_Shape_target_1
namespace ref16_Get
abbrev f:Nat:=176
def s:bP:=(S
(F [x 3 37 1,
 J 4 (.alloc 158 [b8 0,av 0,b8 0,av 0,b8 0,av 0,av 0,b8 0,b8 0,bC 0,i6 0]),
 J 5 (.mv (B false))] 3)
(S
(F [M 6 0,
 K 7 2 3,
 J 8 (.call (C 193) [(.t 6),(.t 7),(Z 10)]),
 E 9 0 8,
 E 10 1 8,
 W 11 4 9,
 M 5 10] 7)
.ret))
def rv:List RV:=[.cell 4 (some 11),.tmp 5]
theorem enter:En Tryz.prog 176 11 s rv:=En.mk (c:=Tryz.f176.body.getD .ret) Tryz.func176
end ref16_Get
namespace maps_Keys_dot_set_api_Dot_int
abbrev f:Nat:=177
def s:bP:=(S
(F [x 1 174 0,
 J 2 (.mv (.k (.d .gL)))] 2)
(S
(F [J 3 (.sQ (.func 194) [] [(.t 1)]),
 M 2 3] 2)
.ret))
def rv:List RV:=[.tmp 2]
theorem enter:En Tryz.prog 177 4 s rv:=En.mk (c:=Tryz.f177.body.getD .ret) Tryz.func177
end maps_Keys_dot_set_api_Dot_int
namespace cmp_isNaN_uint8
abbrev f:Nat:=179
def s:bP:=(S
(F [J 2 (.mv (B false))] 1)
(S
(F [M 3 0,
 M 4 0,
 V 5 .neq 3 4,
 M 2 5] 4)
.ret))
def rv:List RV:=[.tmp 2]
theorem enter:En Tryz.prog 179 6 s rv:=En.mk (c:=Tryz.f179.body.getD .ret) Tryz.func179
end cmp_isNaN_uint8
namespace cmp_isNaN_uint32
abbrev f:Nat:=180
def s:bP:=(S
(F [J 2 (.mv (B false))] 1)
(S
(F [M 3 0,
 M 4 0,
 V 5 .neq 3 4,
 M 2 5] 4)
.ret))
def rv:List RV:=[.tmp 2]
theorem enter:En Tryz.prog 180 6 s rv:=En.mk (c:=Tryz.f180.body.getD .ret) Tryz.func180
end cmp_isNaN_uint32
namespace ref17_before
abbrev f:Nat:=181
def s:bP:=(S
(F [x 4 37 1,
 x 5 43 2,
 J 6 (.mv (B false))] 3)
(S
(F [M 10 0,
 K 11 2 4,
 Q 12 22 10 11,
 M 9 12,
 E 13 0 9,
 E 14 1 9,
 J 7 (.alloc 43 bF),
 W 29 7 13,
 M 8 14] 9)
(S
(F [M 15 8,
 M 16 15,
 H 17 (.load (some 29) (.t 7)) 16 true,
 H 18 (.load (some 29) (.t 5)) 16 true,
 H 19 (.call (C 23) [(.t 17),(.t 18)]) 16 true,
 U 20 16 19,
 M 6 20] 7)
.ret)))
def rv:List RV:=[.tmp 6]
theorem enter:En Tryz.prog 181 21 s rv:=En.mk (c:=Tryz.f181.body.getD .ret) Tryz.func181
end ref17_before
namespace ref16_why
abbrev f:Nat:=182
def s:bP:=(S
(F [x 4 43 1,
 J 6 (.alloc 158 [b8 0,av 0,b8 0,av 0,b8 0,av 0,av 0,b8 0,b8 0,bC 0,i6 0]),
 J 7 (.mv (Z 0))] 3)
(S
(S
(F [D 12 14 4,
 T 13 12,
 J 14 (.bin .neq (.t 13) (.k (b8 1)))] 3)
(.cond (.t 14)
(S
(F [J 15 (.fL [b8 0,av 0,b8 0,av 0,b8 0,av 0,av 0,b8 0,b8 0,bC 0,i6 0] []),
 W 11 6 15,
 J 7 (.mv (Z 2))] 3)
.ret)
.skip))
(S
(F [M 17 0,
 D 18 15 4,
 K 19 2 18,
 M 20 2,
 Y 21 .sub 20 1,
 R 22 193 17 19 21,
 M 16 22,
 E 23 0 16,
 E 24 1 16,
 J 8 (.alloc 158 [b8 0,av 0,b8 0,av 0,b8 0,av 0,av 0,b8 0,b8 0,bC 0,i6 0]),
 W 11 8 23,
 M 9 24] 12)
(S
(F [M 26 0,
 D 27 15 4,
 K 28 2 27,
 Q 29 22 26 28,
 M 25 29,
 E 30 0 25,
 E 31 1 25,
 J 10 (.alloc 43 bF),
 W 29 10 30,
 M 11 31] 10)
(S
(S
(F [M 32 9,
 O 33 32,
 M 34 33,
 H 35 (.aX 2 (.t 8)) 34 false,
 H 36 (.load (some 2) (.t 35)) 34 false,
 H 37 (.aX 12 (.t 4)) 34 false,
 H 38 (.load (some 2) (.t 37)) 34 false,
 H 39 (.eqv true [true,true] (.t 36) (.t 38)) 34 false,
 J 40 (.pick (.t 34) (B true) (.t 39)),
 M 41 40,
 H 42 (.load (some 29) (.t 10)) 41 false,
 H 43 (.load (some 29) (.t 4)) 41 false,
 H 44 (.call (C 23) [(.t 42),(.t 43)]) 41 false,
 H 45 (.not (.t 44)) 41 false,
 J 46 (.pick (.t 41) (B true) (.t 45))] 15)
(.cond (.t 46)
(S
(F [K 47 11 8,
 W 11 6 47,
 J 7 (.mv (Z 272))] 3)
.ret)
.skip))
(S
(S
(F [D 48 6 8,
 T 49 48,
 D 50 11 4,
 T 51 50,
 V 52 .neq 49 51] 5)
(.cond (.t 52)
(S
(F [K 53 11 8,
 W 11 6 53,
 J 7 (.mv (Z 273))] 3)
.ret)
.skip))
(S
(S
(F [D 54 7 8,
 T 55 54,
 J 56 (.call (C 195) [(.t 55),(.k (b8 1))]),
 O 57 56] 4)
(.cond (.t 57)
(S
(F [K 58 11 8,
 W 11 6 58,
 J 7 (.mv (Z 274))] 3)
.ret)
.skip))
(S
(S
(F (D 59 18 4::
 T 60 59::
 D 61 7 8::
 T 62 61::
 Q 63 196 60 62::
 O 64 63::
 M 65 64::
 H 66 (.aX 17 (.t 4)) 65 false::
 H 67 (.load none (.t 66)) 65 false::
 H 68 (.bin .eql (.t 67) (.k (av 0))) 65 false::
 J 69 (.pick (.t 65) (B true) (.t 68))::
 M 70 69::
 H 71 (.aX 19 (.t 4)) 70 false::
 H 72 (.load none (.t 71)) 70 false::
 H 73 (.aX 8 (.t 8)) 70 false::
 H 74 (.load none (.t 73)) 70 false::
 H 75 (.bin .geq (.t 72) (.t 74)) 70 false::
 J 76 (.pick (.t 70) (B true) (.t 75))::
 M 77 76::
 H 78 (.aX 20 (.t 4)) 77 false::
 H 79 (.load none (.t 78)) 77 false::
 H 80 (.aX 9 (.t 8)) 77 false::
 H 81 (.load none (.t 80)) 77 false::
 H 82 (.bin .gtr (.t 79) (.t 81)) 77 false::
 J 83 (.pick (.t 77) (B true) (.t 82))::[]) 25)
(.cond (.t 83)
(S
(F [K 84 11 8,
 W 11 6 84,
 J 7 (.mv (Z 275))] 3)
.ret)
.skip))
(S
(F [K 85 11 8,
 W 11 6 85,
 J 7 (.mv (Z 0))] 3)
.ret)))))))))
def rv:List RV:=[.cell 6 (some 11),.tmp 7]
theorem enter:En Tryz.prog 182 86 s rv:=En.mk (c:=Tryz.f182.body.getD .ret) Tryz.func182
end ref16_why
namespace ref16_Above
abbrev f:Nat:=183
def s:bP:=(S
(F [x 4 37 1,
 x 5 37 2,
 J 6 (.mv (B false))] 3)
(S
(F [M 10 0,
 K 11 2 5,
 Q 12 138 10 11,
 M 9 12,
 E 13 0 9,
 E 14 1 9,
 M 7 13,
 M 8 14] 8)
(S
(S
(F [M 15 8,
 Y 16 .neq 15 0] 2)
(.cond (.t 16)
(S
(F [J 6 (.mv (B false))] 1)
.ret)
.skip))
(S
(F [K 17 2 4,
 K 18 2 5,
 J 19 (.eqv true [true,true] (.t 17) (.t 18)),
 M 20 19,
 G 21 7 20 true,
 H 22 (.load (some 2) (.t 4)) 20 true,
 H 23 (.call (C 21) [(.t 21),(.t 22)]) 20 true,
 U 24 20 23,
 M 6 24] 9)
.ret))))
def rv:List RV:=[.tmp 6]
theorem enter:En Tryz.prog 183 25 s rv:=En.mk (c:=Tryz.f183.body.getD .ret) Tryz.func183
end ref16_Above
namespace ref17_Line
abbrev f:Nat:=184
def s:bP:=(S
(F [x 4 37 1,
 x 5 37 2,
 J 6 (.mv (B false))] 3)
(S
(F [M 10 0,
 K 11 2 4,
 Q 12 22 10 11,
 M 9 12,
 E 13 0 9,
 E 14 1 9,
 J 7 (.alloc 43 bF),
 W 29 7 13,
 M 8 14] 9)
(S
(F (M 15 8::
 M 16 15::
 H 17 (.aX 14 (.t 7)) 16 true::
 H 18 (.load none (.t 17)) 16 true::
 H 19 (.bin .eql (.t 18) (.k (b8 3))) 16 true::
 U 20 16 19::
 M 21 20::
 H 22 (.aX 12 (.t 7)) 21 true::
 H 23 (.load (some 2) (.t 22)) 21 true::
 H 24 (.load (some 2) (.t 5)) 21 true::
 H 25 (.eqv false [true,true] (.t 23) (.t 24)) 21 true::
 U 26 21 25::
 M 27 26::
 G 28 0 27 true::
 H 29 (.load (some 29) (.t 7)) 27 true::
 H 30 (.call (C 100) [(.t 28),(.t 29)]) 27 true::
 H 31 (.bin .eql (.t 30) (Z 0)) 27 true::
 U 32 27 31::
 M 6 32::[]) 19)
.ret)))
def rv:List RV:=[.tmp 6]
theorem enter:En Tryz.prog 184 33 s rv:=En.mk (c:=Tryz.f184.body.getD .ret) Tryz.func184
end ref17_Line
namespace ref17_version
abbrev f:Nat:=185
def s:bP:=(S
(F [x 5 37 1,
 x 6 37 2,
 x 7 43 3,
 J 8 (.mv (B false))] 4)
(S
(S
(F [M 11 0,
 K 12 2 5,
 D 13 12 7,
 K 14 2 13,
 R 15 184 11 12 14,
 O 16 15,
 M 17 16,
 G 18 0 17 false,
 H 19 (.load (some 2) (.t 5)) 17 false,
 H 20 (.load (some 29) (.t 7)) 17 false,
 H 21 (.call (C 181) [(.t 18),(.t 19),(.t 20)]) 17 false,
 H 22 (.not (.t 21)) 17 false,
 J 23 (.pick (.t 17) (B true) (.t 22))] 13)
(.cond (.t 23)
(S
(F [J 8 (.mv (B false))] 1)
.ret)
.skip))
(S
(S
(F [K 24 2 6,
 K 25 2 5,
 J 26 (.eqv false [true,true] (.t 24) (.t 25))] 3)
(.cond (.t 26)
(S
(F [J 8 (.mv (B true))] 1)
.ret)
.skip))
(S
(F [M 28 0,
 K 29 2 6,
 Q 30 22 28 29,
 M 27 30,
 E 31 0 27,
 E 32 1 27,
 J 9 (.alloc 43 bF),
 W 29 9 31,
 M 10 32] 9)
(S
(F (M 33 10::
 M 34 33::
 H 35 (.aX 14 (.t 9)) 34 true::
 H 36 (.load none (.t 35)) 34 true::
 H 37 (.bin .eql (.t 36) (.k (b8 4))) 34 true::
 U 38 34 37::
 M 39 38::
 H 40 (.aX 21 (.t 9)) 39 true::
 H 41 (.load (some 2) (.t 40)) 39 true::
 H 42 (.load (some 2) (.t 5)) 39 true::
 H 43 (.eqv false [true,true] (.t 41) (.t 42)) 39 true::
 U 44 39 43::
 M 45 44::
 G 46 0 45 true::
 H 47 (.load (some 2) (.t 6)) 45 true::
 H 48 (.load (some 29) (.t 7)) 45 true::
 H 49 (.call (C 181) [(.t 46),(.t 47),(.t 48)]) 45 true::
 U 50 45 49::
 M 51 50::
 G 52 0 51 true::
 H 53 (.load (some 29) (.t 9)) 51 true::
 H 54 (.call (C 100) [(.t 52),(.t 53)]) 51 true::
 H 55 (.bin .eql (.t 54) (Z 0)) 51 true::
 U 56 51 55::
 M 8 56::[]) 25)
.ret)))))
def rv:List RV:=[.tmp 8]
theorem enter:En Tryz.prog 185 57 s rv:=En.mk (c:=Tryz.f185.body.getD .ret) Tryz.func185
end ref17_version
namespace slices_AppendSeq_Lapi_Dot_api_Dot
abbrev f:Nat:=189
def s:bP:=(S
(F [x 2 31 0,
 J 4 (.mv (.k (.d .aJ)))] 2)
(S
(S
(F [M 6 1] 1)
(.block 0
(.sn (.t 6) [7]
(F [J 5 (.alloc 37 [b8 0,av 0]),
 W 2 5 7] 2)
(.block 1
(F [T 8 2,
 K 9 2 5,
 J 10 (.lB 37 2 1 [b8 0,av 0] [(0,2,(.t 9))]),
 J 11 (.app 37 2 8 (.t 8) (.t 10)),
 W 1 2 11] 5)))))
(S
(F [T 12 2,
 M 4 12] 2)
.ret)))
def rv:List RV:=[.tmp 4]
theorem enter:En Tryz.prog 189 13 s rv:=En.mk (c:=Tryz.f189.body.getD .ret) Tryz.func189
end slices_AppendSeq_Lapi_Dot_api_Dot
namespace slices_IndexFunc_Lapi_Claim_api_Claim
abbrev f:Nat:=192
def s:bP:=(S
(F [J 4 (.mv (Z 0))] 1)
(S
(S
(F [M 6 0,
 L 7 6,
 J 8 (.mv (Z 0))] 3)
(.block 0
(.loop
(S
(F [V 9 .lss 8 7] 1)
(S
(.cond (.t 9)
.skip
(.exit 0))
(S
(.block 1
(S
(F [M 10 8,
 M 5 10] 2)
(S
(F [M 11 1,
 M 12 0,
 M 13 5,
 I 14 4 12 13,
 K 15 4 14,
 J 16 (.call (.t 11) [(.t 15)])] 6)
(.cond (.t 16)
(S
(F [M 17 5,
 M 4 17] 2)
.ret)
.skip))))
(F [Y 18 .add 8 1,
 M 8 18] 2)))))))
(S
(F [J 4 (.mv (.k (.d (.int .i64 (-1)))))] 1)
.ret)))
def rv:List RV:=[.tmp 4]
theorem enter:En Tryz.prog 192 19 s rv:=En.mk (c:=Tryz.f192.body.getD .ret) Tryz.func192
end slices_IndexFunc_Lapi_Claim_api_Claim
namespace ref16_get
abbrev f:Nat:=193
def s:bP:=(S
(F [x 4 37 1,
 J 6 (.alloc 158 [b8 0,av 0,b8 0,av 0,b8 0,av 0,av 0,b8 0,b8 0,bC 0,i6 0]),
 J 7 (.mv (B false))] 3)
(S
(F [M 13 0,
 K 14 2 4,
 Q 15 22 13 14,
 M 12 15,
 E 16 0 12,
 E 17 1 12,
 J 8 (.alloc 43 bF),
 W 29 8 16,
 M 9 17] 9)
(S
(S
(F [M 18 9,
 O 19 18,
 M 20 19,
 G 21 2 20 false,
 H 22 (.bin .eql (.t 21) (Z 0)) 20 false,
 J 23 (.pick (.t 20) (B true) (.t 22))] 6)
(.cond (.t 23)
(S
(F [J 24 (.fL [b8 0,av 0,b8 0,av 0,b8 0,av 0,av 0,b8 0,b8 0,bC 0,i6 0] []),
 W 11 6 24,
 J 7 (.mv (B false))] 3)
.ret)
.skip))
(S
(S
(F [D 25 14 8,
 T 26 25,
 J 27 (.bin .eql (.t 26) (.k (b8 0)))] 3)
(.cond (.t 27)
(S
(.fm [K 28 2 4,
 K 29 2 4,
 D 30 11 8,
 T 31 30,
 J 32 (.fL [b8 0,av 0,b8 0,av 0,b8 0,av 0,av 0,b8 0,b8 0,bC 0,i6 0] [(0,2,(.t 28)),(2,2,(.t 29)),(6,1,(.t 31)),(7,1,(.k (b8 7))),(8,1,(.k (b8 8))),(9,1,(.k (bC 1099511627776)))]),
 D 33 12 8,
 K 34 2 33,
 K 35 2 4,
 J 36 (.eqv false [true,true] (.t 34) (.t 35)),
 W 11 6 32,
 M 7 36] [0,
0,
0,
4,
15,
0,
32,
0,
224,
31,
1023] true)
.ret)
.skip))
(S
(F [M 38 0,
 K 39 29 8,
 M 40 2,
 R 41 182 38 39 40,
 M 37 41,
 E 42 0 37,
 E 43 1 37,
 J 10 (.alloc 158 [b8 0,av 0,b8 0,av 0,b8 0,av 0,av 0,b8 0,b8 0,bC 0,i6 0]),
 W 11 10 42,
 M 11 43] 10)
(S
(S
(F [M 44 11,
 Y 45 .neq 44 0] 2)
(.cond (.t 45)
(S
(F [J 46 (.fL [b8 0,av 0,b8 0,av 0,b8 0,av 0,av 0,b8 0,b8 0,bC 0,i6 0] []),
 W 11 6 46,
 J 7 (.mv (B false))] 3)
.ret)
.skip))
(S
(F (K 47 2 4::
 D 48 12 8::
 K 49 2 48::
 D 50 15 8::
 K 51 2 50::
 D 52 17 8::
 T 53 52::
 D 54 18 8::
 T 55 54::
 D 56 19 8::
 T 57 56::
 D 58 20 8::
 T 59 58::
 D 60 10 10::
 T 61 60::
 Y 62 .add 61 1::
 J 63 (.fL [b8 0,av 0,b8 0,av 0,b8 0,av 0,av 0,b8 0,b8 0,bC 0,i6 0] [(0,2,(.t 47)),(2,2,(.t 49)),(4,2,(.t 51)),(6,1,(.t 53)),(7,1,(.t 55)),(8,1,(.t 57)),(9,1,(.t 59)),(10,1,(.t 62))])::
 W 11 6 63::
 J 7 (.mv (B true))::[]) 19)
.ret)))))))
def rv:List RV:=[.cell 6 (some 11),.tmp 7]
theorem enter:En Tryz.prog 193 64 s rv:=En.mk (c:=Tryz.f193.body.getD .ret) Tryz.func193
end ref16_get
namespace maps_Keys_dot_set_api_Dot_int_1
abbrev f:Nat:=194
def s:bP:=(S
(F [T 4 1,
 J 5 (.mO (.t 4))] 2)
(.block 0
(.loop
(S
(F [J 6 (.lH (.t 5)),
 E 7 0 6] 2)
(S
(.cond (.t 7)
.skip
(.exit 0))
(.block 1
(S
(F [J 8 (.oo (.t 5)),
 E 9 0 8,
 J 3 (.alloc 37 [b8 0,av 0]),
 W 2 3 9] 4)
(S
(F [M 10 0,
 K 11 2 3,
 J 12 (.call (.t 10) [(.t 11)]),
 O 13 12] 4)
(.cond (.t 13)
.ret
.skip)))))))))
def rv:List RV:=[]
theorem enter:En Tryz.prog 194 14 s rv:=En.mk (c:=Tryz.f194.body.getD .ret) Tryz.func194
end maps_Keys_dot_set_api_Dot_int_1
namespace ref16_has
abbrev f:Nat:=195
def s:bP:=(S
(F [J 4 (.mv (B false))] 1)
(S
(F [M 5 0,
 M 6 1,
 V 7 .quo 5 6,
 J 8 (.bin .rem (.t 7) (.k (b8 2))),
 J 9 (.bin .eql (.t 8) (.k (b8 1))),
 M 4 9] 6)
.ret))
def rv:List RV:=[.tmp 4]
theorem enter:En Tryz.prog 195 10 s rv:=En.mk (c:=Tryz.f195.body.getD .ret) Tryz.func195
end ref16_has
namespace ref16_within
abbrev f:Nat:=196
def s:bP:=(S
(F [J 4 (.mv (B false))] 1)
(S
(S
(F [M 6 0,
 J 7 (.bin .eql (.t 6) (.k (b8 0)))] 2)
(.cond (.t 7)
(S
(F [J 4 (.mv (B false))] 1)
.ret)
.skip))
(S
(S
(F [J 5 (.mv (Z 1))] 1)
(.block 0
(.loop
(S
(S
(F [M 8 5,
 Y 9 .lss 8 256] 2)
(.cond (.t 9)
.skip
(.exit 0)))
(S
(.block 1
(S
(F [M 12 0,
 M 13 5,
 J 14 (.conv .u8 (.t 13)),
 Q 15 195 12 14,
 M 16 15,
 G 17 1 16 true,
 G 18 5 16 true,
 H 19 (.conv .u8 (.t 18)) 16 true,
 H 20 (.call (C 195) [(.t 17),(.t 19)]) 16 true,
 H 21 (.not (.t 20)) 16 true,
 U 22 16 21] 11)
(.cond (.t 22)
(S
(F [J 4 (.mv (B false))] 1)
.ret)
.skip)))
(F [M 10 5,
 J 11 (.bin .mul (Z 2) (.t 10)),
 M 5 11] 3))))))
(S
(F [J 4 (.mv (B true))] 1)
.ret))))
def rv:List RV:=[.tmp 4]
theorem enter:En Tryz.prog 196 23 s rv:=En.mk (c:=Tryz.f196.body.getD .ret) Tryz.func196
end ref16_within
end
section
namespace revoke_New
abbrev f:Nat:=18
def s:bP:=(S
(F [J 2 (.mv (.k (.d .j0)))] 1)
(S
(S
(F [M 8 0,
 P 9 64 8,
 J 10 (.kG false 0 (.t 9))] 3)
(.cond (.t 10)
(S
(F [J 2 (.mv (.k (.d .j0)))] 1)
.ret)
.skip))
(S
(F [M 11 0,
 J 12 (.zZ),
 J 13 (.zZ),
 J 14 (.zZ),
 J 15 (.fL [(.d .j0),(.d .jj),(.d .jj),(.d .jj)] [(0,1,(.t 11)),(1,1,(.t 12)),(2,1,(.t 13)),(3,1,(.t 14))]),
 x 16 110 15,
 M 3 16] 7)
(S
(S
(F [M 17 0,
 P 18 65 17,
 L 19 18,
 J 20 (.mv (Z 0))] 4)
(.block 0
(.loop
(S
(F [V 21 .lss 20 19] 1)
(S
(.cond (.t 21)
.skip
(.exit 0))
(S
(.block 1
(S
(F [I 22 2 18 20,
 K 23 2 22,
 J 5 (.alloc 37 [b8 0,av 0]),
 W 2 5 23] 4)
(S
(S
(F [M 24 0,
 K 25 2 5,
 Q 26 66 24 25,
 O 27 26] 4)
(.cond (.t 27)
(.exit 1)
.skip))
(S
(F [M 29 0,
 K 30 2 5,
 Q 31 67 29 30,
 M 28 31,
 E 32 0 28,
 E 33 1 28,
 J 6 (.alloc 43 bF),
 W 29 6 32,
 M 7 33] 9)
(S
(.fm [M 34 3,
 A 35 34,
 D 36 1 35,
 T 37 36,
 K 38 2 5,
 K 39 29 6,
 N (.qF [true,true] true (.t 37) (.t 38) (.t 39))] [0,
1,
3,
7,
0,
0,
63] true)
(S
(.fm [M 41 3,
 A 42 41,
 D 43 2 42,
 T 44 43,
 K 45 2 5,
 M 46 0,
 P 47 64 46,
 D 48 15 6,
 K 49 2 48,
 Q 50 68 47 49,
 M 40 50,
 E 51 0 40,
 E 52 1 40,
 N (.qF [true,true] true (.t 44) (.t 45) (.t 51))] [0,
1,
3,
7,
0,
0,
32,
0,
128,
480,
992,
2016,
2016,
4095] true)
(S
(S
(F [D 53 14 6,
 T 54 53,
 J 55 (.bin .eql (.t 54) (.k (b8 0)))] 3)
(.cond (.t 55)
(.fm [M 56 3,
 A 57 56,
 D 58 2 57,
 T 59 58,
 K 60 2 5,
 N (.qF [true,true] true (.t 59) (.t 60) (.k (.d .aJ)))] [0,
1,
3,
7,
0,
31] true)
.skip))
(S
(F [D 61 14 6,
 T 62 61,
 J 63 (.bin .eql (.t 62) (.k (b8 2)))] 3)
(.cond (.t 63)
(.fm [M 64 3,
 A 65 64,
 D 66 3 65,
 T 67 66,
 D 68 21 6,
 K 69 2 68,
 K 71 2 5,
 J 72 (.lB 37 2 1 [b8 0,av 0] [(0,2,(.t 71))]),
 J 73 (.sR [true,true] true (.d .aJ) (.t 67) (.t 69)),
 E 70 0 73,
 J 74 (.app 37 2 8 (.t 70) (.t 72)),
 E 75 1 73,
 N (.sS (.t 67) (.t 75) (.t 74))] [0,
1,
3,
7,
0,
16,
0,
64,
255,
511,
1023,
511,
4095] true)
.skip)))))))))
(F [Y 76 .add 20 1,
 M 20 76] 2)))))))
(S
(F [M 77 3,
 M 2 77] 2)
.ret)))))
def rv:List RV:=[.tmp 2]
theorem enter:En Tryz.prog 18 78 s rv:=En.mk (c:=Tryz.f18.body.getD .ret) Tryz.func18
end revoke_New
namespace revoke_Index_Threats
abbrev f:Nat:=20
def s:bP:=(S
(F [x 3 37 1,
 J 4 (.mv (.k (.d .aJ))),
 J 5 (.mv (Z 0))] 3)
(S
(S
(F [M 9 0,
 K 10 2 3,
 Q 11 24 9 10,
 M 8 11,
 E 12 0 8,
 E 13 1 8,
 M 6 12,
 M 7 13] 8)
(S
(F [M 14 7,
 Y 15 .neq 14 0] 2)
(.cond (.t 15)
(S
(F [M 16 7,
 J 4 (.mv (.k (.d .aJ))),
 M 5 16] 3)
.ret)
.skip)))
(S
(.fm [M 17 0,
 M 18 0,
 A 19 18,
 D 20 1 19,
 T 21 20,
 K 22 2 3,
 J 23 (.look [true,true] true (.agg bF) (.t 21) (.t 22) false),
 Q 24 72 17 23,
 J 25 (.call (C 71) [(.t 24),(C 73)]),
 M 4 25,
 J 5 (.mv (Z 0))] [0,
0,
2,
6,
14,
0,
62,
127,
255,
511,
1023] true)
.ret)))
def rv:List RV:=[.tmp 4,.tmp 5]
theorem enter:En Tryz.prog 20 26 s rv:=En.mk (c:=Tryz.f20.body.getD .ret) Tryz.func20
end revoke_Index_Threats
namespace revoke_Index_Level
abbrev f:Nat:=24
def s:bP:=(S
(F [x 3 37 1,
 J 4 (.mv (Z 0)),
 J 5 (.mv (Z 0))] 3)
(S
(S
(F [M 8 0,
 P 9 74 8] 2)
(.cond (.t 9)
(S
(F [J 4 (.mv (Z 0)),
 J 5 (.mv (Z 1))] 2)
.ret)
.skip))
(S
(S
(.fm [M 11 0,
 A 12 11,
 D 13 1 12,
 T 14 13,
 K 15 2 3,
 J 16 (.look [true,true] true (.agg bF) (.t 14) (.t 15) true),
 M 10 16,
 E 17 0 10,
 E 18 1 10,
 J 6 (.alloc 43 bF),
 W 29 6 17,
 M 7 18] [0,
1,
3,
7,
0,
31,
63,
127,
127,
0,
767,
2047] true)
(S
(F [M 19 7,
 O 20 19] 2)
(.cond (.t 20)
(S
(F [J 4 (.mv (Z 0)),
 J 5 (.mv (Z 7))] 2)
.ret)
.skip)))
(S
(.fm [M 21 0,
 A 22 21,
 D 23 2 22,
 T 24 23,
 K 25 2 3,
 J 26 (.look [true,true] true (.d .aJ) (.t 24) (.t 25) false),
 L 27 26,
 Y 28 .sub 27 1,
 M 4 28,
 J 5 (.mv (Z 0))] [0,
1,
3,
7,
0,
31,
63,
127,
255,
511] true)
.ret))))
def rv:List RV:=[.tmp 4,.tmp 5]
theorem enter:En Tryz.prog 24 29 s rv:=En.mk (c:=Tryz.f24.body.getD .ret) Tryz.func24
end revoke_Index_Level
namespace ref18_Level
abbrev f:Nat:=25
def s:bP:=(S
(F [x 3 37 1,
 J 4 (.mv (Z 0)),
 J 5 (.mv (B false))] 3)
(S
(S
(F [M 8 0,
 K 9 2 3,
 Q 10 52 8 9,
 O 11 10] 4)
(.cond (.t 11)
(S
(F [J 4 (.mv (Z 0)),
 J 5 (.mv (B false))] 2)
.ret)
.skip))
(S
(F [M 13 0,
 K 14 2 3,
 Q 15 22 13 14,
 M 12 15,
 E 16 0 12,
 E 17 1 12,
 J 6 (.alloc 43 bF),
 W 29 6 16,
 M 7 17] 9)
(S
(F [M 18 0,
 K 19 29 6,
 Q 20 75 18 19,
 L 21 20,
 Y 22 .sub 21 1,
 M 4 22,
 J 5 (.mv (B true))] 7)
.ret))))
def rv:List RV:=[.tmp 4,.tmp 5]
theorem enter:En Tryz.prog 25 23 s rv:=En.mk (c:=Tryz.f25.body.getD .ret) Tryz.func25
end ref18_Level
namespace ref18_Threats
abbrev f:Nat:=26
def s:bP:=(S
(F [x 3 37 1,
 J 4 (.mv (.k (.d .aJ))),
 J 5 (.mv (B false))] 3)
(S
(S
(F [M 13 0,
 K 14 2 3,
 Q 15 52 13 14,
 O 16 15] 4)
(.cond (.t 16)
(S
(F [J 4 (.mv (.k (.d .aJ))),
 J 5 (.mv (B false))] 2)
.ret)
.skip))
(S
(F [M 18 0,
 K 19 2 3,
 Q 20 22 18 19,
 M 17 20,
 E 21 0 17,
 E 22 1 17,
 J 6 (.alloc 43 bF),
 W 29 6 21,
 M 7 22] 9)
(S
(F [M 23 0,
 P 24 76 23,
 M 8 24] 3)
(S
(F [J 9 (.mv (.k (.d .aJ)))] 1)
(S
(S
(F [J 10 (.mv (Z 0))] 1)
(.block 0
(.loop
(S
(S
(F [M 25 10,
 M 26 8,
 L 27 26,
 V 28 .lss 25 27] 4)
(.cond (.t 28)
.skip
(.exit 0)))
(S
(.block 1
(S
(F [M 32 0,
 M 33 8,
 M 34 10,
 I 35 2 33 34,
 K 36 2 35,
 Q 37 22 32 36,
 M 31 37,
 E 38 0 31,
 E 39 1 31,
 J 11 (.alloc 43 bF),
 W 29 11 38,
 M 12 39] 12)
(S
(F [M 40 0,
 K 41 29 11,
 K 42 29 6,
 R 43 53 40 41 42] 4)
(.cond (.t 43)
(F [M 44 9,
 M 45 8,
 M 46 10,
 I 47 2 45 46,
 K 48 2 47,
 J 49 (.lB 37 2 1 [b8 0,av 0] [(0,2,(.t 48))]),
 J 50 (.app 37 2 8 (.t 44) (.t 49)),
 M 9 50] 8)
.skip))))
(F [M 29 10,
 Y 30 .add 29 1,
 M 10 30] 3))))))
(S
(F [M 51 9,
 M 4 51,
 J 5 (.mv (B true))] 3)
.ret)))))))
def rv:List RV:=[.tmp 4,.tmp 5]
theorem enter:En Tryz.prog 26 52 s rv:=En.mk (c:=Tryz.f26.body.getD .ret) Tryz.func26
end ref18_Threats
namespace ref18_Revokes
abbrev f:Nat:=31
def s:bP:=(S
(F [x 3 37 1,
 J 4 (.mv (.k (.d .aJ)))] 2)
(S
(F [M 10 0,
 P 11 76 10,
 M 5 11] 3)
(S
(F [J 6 (.mv (.k (.d .aJ)))] 1)
(S
(S
(F [J 7 (.mv (Z 0))] 1)
(.block 0
(.loop
(S
(S
(F [M 12 7,
 M 13 5,
 L 14 13,
 V 15 .lss 12 14] 4)
(.cond (.t 15)
.skip
(.exit 0)))
(S
(.block 1
(S
(F [M 19 0,
 M 20 5,
 M 21 7,
 I 22 2 20 21,
 K 23 2 22,
 Q 24 22 19 23,
 M 18 24,
 E 25 0 18,
 E 26 1 18,
 J 8 (.alloc 43 bF),
 W 29 8 25,
 M 9 26] 12)
(S
(F [D 27 14 8,
 T 28 27,
 J 29 (.bin .eql (.t 28) (.k (b8 2))),
 M 30 29,
 H 31 (.aX 21 (.t 8)) 30 true,
 H 32 (.load (some 2) (.t 31)) 30 true,
 H 33 (.load (some 2) (.t 3)) 30 true,
 H 34 (.eqv false [true,true] (.t 32) (.t 33)) 30 true,
 U 35 30 34] 9)
(.cond (.t 35)
(F [M 36 6,
 M 37 5,
 M 38 7,
 I 39 2 37 38,
 K 40 2 39,
 J 41 (.lB 37 2 1 [b8 0,av 0] [(0,2,(.t 40))]),
 J 42 (.app 37 2 8 (.t 36) (.t 41)),
 M 6 42] 8)
.skip))))
(F [M 16 7,
 Y 17 .add 16 1,
 M 7 17] 3))))))
(S
(F [M 43 6,
 M 4 43] 2)
.ret)))))
def rv:List RV:=[.tmp 4]
theorem enter:En Tryz.prog 31 44 s rv:=En.mk (c:=Tryz.f31.body.getD .ret) Tryz.func31
end ref18_Revokes
namespace ref18_Threatens
abbrev f:Nat:=53
def s:bP:=(S
(F [x 4 43 1,
 x 5 43 2,
 J 6 (.mv (B false))] 3)
(S
(.fm (D 7 14 4::
 T 8 7::
 J 9 (.bin .eql (.t 8) (.k (b8 2)))::
 M 10 9::
 G 11 0 10 true::
 H 12 (.load (some 29) (.t 5)) 10 true::
 H 13 (.call (C 75) [(.t 11),(.t 12)]) 10 true::
 H 14 (.aX 21 (.t 4)) 10 true::
 H 15 (.load (some 2) (.t 14)) 10 true::
 H 16 (.call (C 21) [(.t 13),(.t 15)]) 10 true::
 U 17 10 16::
 M 18 17::
 H 19 (.load (some 29) (.t 5)) 18 true::
 H 20 (.load (some 29) (.t 4)) 18 true::
 H 21 (.call (C 23) [(.t 19),(.t 20)]) 18 true::
 H 22 (.not (.t 21)) 18 true::
 U 23 18 22::
 M 6 23::[]) (0::
1::
3::
7::
15::
15::
63::
15::
143::
511::
1023::
2047::
4095::
4095::
16383::
32767::
65535::
131071::[]) true)
.ret))
def rv:List RV:=[.tmp 6]
theorem enter:En Tryz.prog 53 24 s rv:=En.mk (c:=Tryz.f53.body.getD .ret) Tryz.func53
end ref18_Threatens
namespace ref10_Compare
abbrev f:Nat:=63
def s:bP:=(S
(F [x 2 43 0,
 x 3 43 1,
 J 4 (.mv (Z 0))] 3)
(S
(S
(F [D 5 10 2,
 T 6 5,
 D 7 10 3,
 T 8 7,
 V 9 .lss 6 8] 5)
(.cond (.t 9)
(S
(F [J 4 (.mv (.k (.d (.int .i64 (-1)))))] 1)
.ret)
.skip))
(S
(S
(F [D 10 10 2,
 T 11 10,
 D 12 10 3,
 T 13 12,
 V 14 .gtr 11 13] 5)
(.cond (.t 14)
(S
(F [J 4 (.mv (Z 1))] 1)
.ret)
.skip))
(S
(F [D 15 0 2,
 K 16 2 15,
 D 17 0 3,
 K 18 2 17,
 Q 19 114 16 18,
 M 4 19] 6)
.ret))))
def rv:List RV:=[.tmp 4]
theorem enter:En Tryz.prog 63 20 s rv:=En.mk (c:=Tryz.f63.body.getD .ret) Tryz.func63
end ref10_Compare
namespace revoke_sorted_api_Dot
abbrev f:Nat:=71
def s:bP:=(S
(F [x 3 123 1,
 J 4 (.mv (.k (.d .aJ)))] 2)
(S
(F [J 5 (.alloc 31 [(.d .aJ)])] 1)
(S
(S
(F [M 7 0] 1)
(.block 0
(.sn (.t 7) [8]
(F [J 6 (.alloc 37 [b8 0,av 0]),
 W 2 6 8] 2)
(.block 1
(.fm [T 9 5,
 T 10 3,
 K 11 2 6,
 J 12 (.call (.t 10) [(.t 11)]),
 J 13 (.lB 37 2 1 [b8 0,av 0] [(0,2,(.t 12))]),
 J 14 (.app 37 2 8 (.t 9) (.t 13)),
 W 1 5 14] [0,
0,
0,
6,
14,
31,
63] true)))))
(S
(F [T 15 5,
 P 16 77 15,
 M 4 16] 3)
.ret))))
def rv:List RV:=[.tmp 4]
theorem enter:En Tryz.prog 71 17 s rv:=En.mk (c:=Tryz.f71.body.getD .ret) Tryz.func71
end revoke_sorted_api_Dot
namespace revoke_Index_threats
abbrev f:Nat:=72
def s:bP:=(S
(F [x 2 27 0,
 x 3 43 1,
 J 4 (.mv (.k (.d .gL)))] 3)
(S
(F [J 5 (.sQ (.func 136) [] [(.t 2),(.t 3)]),
 M 4 5] 2)
.ret))
def rv:List RV:=[.tmp 4]
theorem enter:En Tryz.prog 72 6 s rv:=En.mk (c:=Tryz.f72.body.getD .ret) Tryz.func72
end revoke_Index_threats
namespace revoke_Index_Threats_1
abbrev f:Nat:=73
def s:bP:=(S
(F [x 1 37 0,
 J 2 (.alloc 37 [b8 0,av 0])] 2)
(S
(F [K 3 2 1,
 W 2 2 3] 2)
.ret))
def rv:List RV:=[.cell 2 (some 2)]
theorem enter:En Tryz.prog 73 4 s rv:=En.mk (c:=Tryz.f73.body.getD .ret) Tryz.func73
end revoke_Index_Threats_1
namespace revoke_Index_none
abbrev f:Nat:=74
def s:bP:=(S
(F [J 2 (.mv (B false))] 1)
(S
(F [M 3 0,
 J 4 (.kG false 0 (.t 3)),
 M 5 4,
 G 6 0 5 false,
 H 7 (.dR (.t 6)) 5 false,
 H 8 (.aX 1 (.t 7)) 5 false,
 H 9 (.load none (.t 8)) 5 false,
 H 10 (.kG false 1 (.t 9)) 5 false,
 J 11 (.pick (.t 5) (B true) (.t 10)),
 M 2 11] 10)
.ret))
def rv:List RV:=[.tmp 2]
theorem enter:En Tryz.prog 74 12 s rv:=En.mk (c:=Tryz.f74.body.getD .ret) Tryz.func74
end revoke_Index_none
namespace ref18_Chain
abbrev f:Nat:=75
def s:bP:=(S
(F [x 3 43 1,
 J 4 (.mv (.k (.d .aJ)))] 2)
(S
(S
(F [D 7 14 3,
 T 8 7,
 J 9 (.bin .eql (.t 8) (.k (b8 0)))] 3)
(.cond (.t 9)
(S
(F [J 4 (.mv (.k (.d .aJ)))] 1)
.ret)
.skip))
(S
(F [M 11 0,
 D 12 15 3,
 K 13 2 12,
 Q 14 138 11 13,
 M 10 14,
 E 15 0 10,
 E 16 1 10,
 M 5 15,
 M 6 16] 9)
(S
(F [M 17 5,
 M 4 17] 2)
.ret))))
def rv:List RV:=[.tmp 4]
theorem enter:En Tryz.prog 75 18 s rv:=En.mk (c:=Tryz.f75.body.getD .ret) Tryz.func75
end ref18_Chain
namespace ref18_Good
abbrev f:Nat:=76
def s:bP:=(S
(F [J 2 (.mv (.k (.d .aJ)))] 1)
(S
(F [J 3 (.mv (.k (.d .aJ)))] 1)
(S
(S
(F [J 4 (.mv (Z 0))] 1)
(.block 0
(.loop
(S
(S
(F [M 5 4,
 M 6 0,
 L 7 6,
 V 8 .lss 5 7] 4)
(.cond (.t 8)
.skip
(.exit 0)))
(S
(.block 1
(S
(F [M 11 0,
 M 12 0,
 M 13 4,
 I 14 29 12 13,
 D 15 0 14,
 K 16 2 15,
 Q 17 52 11 16] 7)
(.cond (.t 17)
(F [M 18 3,
 M 19 0,
 M 20 4,
 I 21 29 19 20,
 D 22 0 21,
 K 23 2 22,
 J 24 (.lB 37 2 1 [b8 0,av 0] [(0,2,(.t 23))]),
 J 25 (.app 37 2 8 (.t 18) (.t 24)),
 M 3 25] 9)
.skip)))
(F [M 9 4,
 Y 10 .add 9 1,
 M 4 10] 3))))))
(S
(F [M 26 3,
 P 27 87 26,
 M 2 27] 3)
.ret))))
def rv:List RV:=[.tmp 2]
theorem enter:En Tryz.prog 76 28 s rv:=En.mk (c:=Tryz.f76.body.getD .ret) Tryz.func76
end ref18_Good
namespace revoke_Index_threats_1
abbrev f:Nat:=136
def s:bP:=(S
(.fm [T 8 1,
 A 9 8,
 D 10 2 9,
 T 11 10,
 D 12 0 2,
 K 13 2 12,
 J 14 (.look [true,true] true (.d .aJ) (.t 11) (.t 13) false),
 L 15 14,
 J 16 (.mv (Z 0))] [0,
1,
3,
7,
0,
16,
63,
127,
0] true)
(.block 0
(.loop
(S
(F [V 17 .lss 16 15] 1)
(S
(.cond (.t 17)
.skip
(.exit 0))
(S
(.block 1
(S
(F [I 18 2 14 16,
 K 19 2 18,
 J 5 (.alloc 37 [b8 0,av 0]),
 W 2 5 19] 4)
(S
(.fm [T 20 1,
 A 21 20,
 D 22 3 21,
 T 23 22,
 K 24 2 5,
 J 25 (.look [true,true] true (.d .aJ) (.t 23) (.t 24) false),
 L 26 25,
 J 27 (.mv (Z 0))] [0,
1,
3,
7,
0,
31,
63,
0] true)
(.block 2
(.loop
(S
(F [V 28 .lss 27 26] 1)
(S
(.cond (.t 28)
.skip
(.exit 2))
(S
(.block 3
(S
(F [I 29 2 25 27,
 K 30 2 29,
 J 7 (.alloc 37 [b8 0,av 0]),
 W 2 7 30] 4)
(S
(.fm [K 31 29 2,
 T 32 1,
 A 33 32,
 D 34 1 33,
 T 35 34,
 K 36 2 7,
 J 37 (.look [true,true] true (.agg bF) (.t 35) (.t 36) false),
 Q 38 137 31 37,
 O 39 38,
 M 40 39,
 G 41 0 40 true,
 H 42 (.load (some 2) (.t 7)) 40 true,
 H 43 (.call (.t 41) [(.t 42)]) 40 true,
 H 44 (.not (.t 43)) 40 true,
 U 45 40 44] [0,
0,
2,
6,
14,
0,
62,
127,
255,
511,
1023,
1023,
4095,
8191,
16383] true)
(.cond (.t 45)
.ret
.skip))))
(F [Y 46 .add 27 1,
 M 27 46] 2)))))))))
(F [Y 47 .add 16 1,
 M 16 47] 2)))))))
def rv:List RV:=[]
theorem enter:En Tryz.prog 136 48 s rv:=En.mk (c:=Tryz.f136.body.getD .ret) Tryz.func136
end revoke_Index_threats_1
end
section
namespace law20_FinalTells
abbrev f:Nat:=5
def s:bP:=(S
(F [x 4 39 1,
 x 5 37 2,
 J 6 (.mv (B false))] 3)
(S
(S
(F [M 11 0,
 P 12 14 11,
 M 13 12,
 G 14 0 13 false,
 H 15 (.len (.t 14)) 13 false,
 H 16 (.bin .gtr (.t 15) (Z 50)) 13 false,
 J 17 (.pick (.t 13) (B true) (.t 16))] 7)
(.cond (.t 17)
(S
(F [J 18 (.call (C 34) []),
 M 6 18] 2)
.ret)
.skip))
(S
(F [M 20 0,
 K 21 8 4,
 K 22 2 5,
 R 23 35 20 21 22,
 M 19 23,
 E 24 0 19,
 E 25 1 19,
 M 7 24,
 M 8 25] 9)
(S
(F [M 27 0,
 K 28 8 4,
 K 29 2 5,
 R 30 36 27 28 29,
 M 26 30,
 E 31 0 26,
 E 32 1 26,
 M 9 31,
 M 10 32] 9)
(S
(.fm (M 33 0::
 K 34 8 4::
 Q 35 37 33 34::
 M 36 0::
 K 37 8 4::
 Q 38 38 36 37::
 Q 39 29 35 38::
 M 40 39::
 G 41 0 40 true::
 H 42 (.load (some 8) (.t 4)) 40 true::
 H 43 (.call (C 39) [(.t 41),(.t 42)]) 40 true::
 G 44 0 40 true::
 H 45 (.load (some 8) (.t 4)) 40 true::
 H 46 (.call (C 40) [(.t 44),(.t 45)]) 40 true::
 H 47 (.call (C 29) [(.t 43),(.t 46)]) 40 true::
 U 48 40 47::
 M 49 48::
 G 50 7 49 true::
 G 51 9 49 true::
 H 52 (.call (C 29) [(.t 50),(.t 51)]) 49 true::
 U 53 49 52::
 M 54 53::
 G 55 8 54 true::
 G 56 10 54 true::
 H 57 (.bin .eql (.t 55) (.t 56)) 54 true::
 U 58 54 57::
 M 59 58::
 H 60 (.call (C 34) []) 59 true::
 U 61 59 60::
 M 6 61::[]) (0::
0::
3::
0::
0::
31::
63::
127::
255::
255::
1023::
255::
255::
8191::
16383::
32767::
65535::
131071::
131071::
524287::
1048575::
2097151::
4194303::
4194303::
16777215::
33554431::
67108863::
134217727::
268435455::
536870911::[]) true)
.ret)))))
def rv:List RV:=[.tmp 6]
theorem enter:En Tryz.prog 5 62 s rv:=En.mk (c:=Tryz.f5.body.getD .ret) Tryz.func5
end law20_FinalTells
namespace law20_head
abbrev f:Nat:=34
def s:bP:=(S
(F [J 0 (.mv (B false))] 1)
(S
(F [J 9 (.call (C 82) []),
 M 1 9] 2)
(S
(F [M 10 1,
 J 11 (.fL z8 [(0,1,(.k (av 4)))]),
 Q 12 37 10 11,
 M 13 1,
 J 14 (.fL z8 [(0,1,(.k (av 4))),(1,1,(.k (av 1)))]),
 Q 15 37 13 14,
 M 16 1,
 J 17 (.fL z8 [(0,1,(.k (av 3))),(1,1,(.k (av 1)))]),
 Q 18 37 16 17,
 M 2 12,
 M 3 15,
 M 4 18] 12)
(S
(F [M 20 1,
 J 21 (.fL z8 [(0,1,(.k (av 4)))]),
 J 22 (.fL [b8 0,av 0] [(1,1,(.k (av 4)))]),
 R 23 35 20 21 22,
 M 19 23,
 E 24 0 19,
 E 25 1 19,
 M 5 24,
 M 6 25] 9)
(S
(F [M 27 1,
 J 28 (.fL z8 [(0,1,(.k (av 4)))]),
 J 29 (.fL [b8 0,av 0] [(1,1,(.k (av 5)))]),
 R 30 35 27 28 29,
 M 26 30,
 E 31 0 26,
 E 32 1 26,
 M 7 31,
 M 8 32] 9)
(S
(F (M 33 2::
 J 34 (.fL [b8 0,av 0] [(1,1,(.k (av 1)))])::
 J 35 (.fL [b8 0,av 0] [(1,1,(.k (av 2)))])::
 J 36 (.fL [b8 0,av 0] [(1,1,(.k (av 3)))])::
 J 37 (.lB 37 2 3 [b8 0,av 0,b8 0,av 0,b8 0,av 0] [(0,2,(.t 34)),(2,2,(.t 35)),(4,2,(.t 36))])::
 Q 38 29 33 37::
 M 39 38::
 G 40 3 39 true::
 H 41 (.len (.t 40)) 39 true::
 H 42 (.bin .eql (.t 41) (Z 5)) 39 true::
 U 43 39 42::
 M 44 43::
 G 45 4 44 true::
 H 46 (.fL [b8 0,av 0] [(1,1,(.k (av 1)))]) 44 true::
 H 47 (.fL [b8 0,av 0] [(1,1,(.k (av 2)))]) 44 true::
 H 48 (.fL [b8 0,av 0] [(1,1,(.k (av 3)))]) 44 true::
 H 49 (.fL [b8 0,av 0] [(0,1,(.k (b8 1))),(1,1,(.k (av 1)))]) 44 true::
 H 50 (.lB 37 2 4 [b8 0,av 0,b8 0,av 0,b8 0,av 0,b8 0,av 0] [(0,2,(.t 46)),(2,2,(.t 47)),(4,2,(.t 48)),(6,2,(.t 49))]) 44 true::
 H 51 (.call (C 29) [(.t 45),(.t 50)]) 44 true::
 U 52 44 51::
 M 53 52::
 G 54 5 53 true::
 H 55 (.fL [b8 0,av 0] [(0,1,(.k (b8 1))),(1,1,(.k (av 1)))]) 53 true::
 H 56 (.lB 37 2 1 [b8 0,av 0] [(0,2,(.t 55))]) 53 true::
 H 57 (.call (C 29) [(.t 54),(.t 56)]) 53 true::
 U 58 53 57::
 M 59 58::
 G 60 6 59 true::
 H 61 (.bin .eql (.t 60) (Z 0)) 59 true::
 U 62 59 61::
 M 63 62::
 G 64 8 63 true::
 H 65 (.bin .eql (.t 64) (Z 7)) 63 true::
 U 66 63 65::
 M 0 66::[]) 35)
.ret))))))
def rv:List RV:=[.tmp 0]
theorem enter:En Tryz.prog 34 67 s rv:=En.mk (c:=Tryz.f34.body.getD .ret) Tryz.func34
end law20_head
namespace final_Waits
abbrev f:Nat:=35
def s:bP:=(S
(F [x 4 39 1,
 x 5 37 2,
 J 6 (.mv (.k (.d .aJ))),
 J 7 (.mv (Z 0))] 4)
(S
(F [M 14 0,
 K 15 8 4,
 Q 16 83 14 15,
 M 8 16] 4)
(S
(S
(.fm [M 18 8,
 A 19 18,
 D 20 0 19,
 T 21 20,
 K 22 2 5,
 Q 23 67 21 22,
 M 17 23,
 E 24 0 17,
 E 25 1 17,
 J 9 (.alloc 43 bF),
 W 29 9 24,
 M 10 25] [0,
1,
3,
7,
0,
31,
63,
127,
127,
0,
767,
2047] true)
(S
(F [M 26 10,
 O 27 26] 2)
(.cond (.t 27)
(S
(F [J 6 (.mv (.k (.d .aJ))),
 J 7 (.mv (Z 7))] 2)
.ret)
.skip)))
(S
(F [J 28 (.zZ),
 M 11 28] 2)
(S
(F [M 29 8,
 K 30 2 5,
 M 31 11,
 R 32 84 29 30 31] 4)
(S
(F [J 12 (.mv (.k (.d .aJ)))] 1)
(S
(S
(F [M 33 11,
 J 34 (.mO (.t 33))] 2)
(.block 0
(.loop
(S
(F [J 35 (.lH (.t 34)),
 E 36 0 35] 2)
(S
(.cond (.t 36)
.skip
(.exit 0))
(.block 1
(S
(F [J 37 (.oo (.t 34)),
 E 38 0 37,
 J 13 (.alloc 37 [b8 0,av 0]),
 W 2 13 38] 4)
(S
(F [K 39 8 4,
 K 40 2 13,
 Q 41 85 39 40,
 O 42 41] 4)
(.cond (.t 42)
(F [M 43 12,
 K 44 2 13,
 J 45 (.lB 37 2 1 [b8 0,av 0] [(0,2,(.t 44))]),
 J 46 (.app 37 2 8 (.t 43) (.t 45)),
 M 12 46] 5)
.skip)))))))))
(S
(F [M 47 12,
 P 48 77 47,
 M 6 48,
 J 7 (.mv (Z 0))] 4)
.ret))))))))
def rv:List RV:=[.tmp 6,.tmp 7]
theorem enter:En Tryz.prog 35 49 s rv:=En.mk (c:=Tryz.f35.body.getD .ret) Tryz.func35
end final_Waits
namespace ref20_Waits
abbrev f:Nat:=36
def s:bP:=(S
(F [x 4 39 1,
 x 5 37 2,
 J 6 (.mv (.k (.d .aJ))),
 J 7 (.mv (Z 0))] 4)
(S
(F [M 14 0,
 K 15 2 5,
 Q 16 22 14 15,
 M 13 16,
 E 17 0 13,
 E 18 1 13,
 J 8 (.alloc 43 bF),
 W 29 8 17,
 M 9 18] 9)
(S
(S
(F [M 19 9,
 O 20 19] 2)
(.cond (.t 20)
(S
(F [J 6 (.mv (.k (.d .aJ))),
 J 7 (.mv (Z 7))] 2)
.ret)
.skip))
(S
(F [M 21 0,
 K 22 2 5,
 Q 23 86 21 22,
 M 10 23] 4)
(S
(F [J 11 (.mv (.k (.d .aJ)))] 1)
(S
(S
(F [J 12 (.mv (Z 0))] 1)
(.block 0
(.loop
(S
(S
(F [M 24 12,
 M 25 10,
 L 26 25,
 V 27 .lss 24 26] 4)
(.cond (.t 27)
.skip
(.exit 0)))
(S
(.block 1
(S
(.fm [K 30 8 4,
 M 31 10,
 M 32 12,
 I 33 2 31 32,
 K 34 2 33,
 Q 35 45 30 34,
 O 36 35] [0,
0,
0,
6,
14,
31,
63] true)
(.cond (.t 36)
(F [M 37 11,
 M 38 10,
 M 39 12,
 I 40 2 38 39,
 K 41 2 40,
 J 42 (.lB 37 2 1 [b8 0,av 0] [(0,2,(.t 41))]),
 J 43 (.app 37 2 8 (.t 37) (.t 42)),
 M 11 43] 8)
.skip)))
(F [M 28 12,
 Y 29 .add 28 1,
 M 12 29] 3))))))
(S
(F [M 44 11,
 P 45 87 44,
 M 6 45,
 J 7 (.mv (Z 0))] 4)
.ret)))))))
def rv:List RV:=[.tmp 6,.tmp 7]
theorem enter:En Tryz.prog 36 46 s rv:=En.mk (c:=Tryz.f36.body.getD .ret) Tryz.func36
end ref20_Waits
namespace final_Verdicts
abbrev f:Nat:=37
def s:bP:=(S
(F [x 3 39 1,
 J 4 (.mv (.k (.d .aJ)))] 2)
(S
(F [M 6 0,
 K 7 8 3,
 Q 8 83 6 7,
 M 5 8] 4)
(S
(F [M 9 5,
 M 10 5,
 J 11 (.sQ (.func 89) [(.t 10)] []),
 Q 12 88 9 11,
 M 4 12] 5)
.ret)))
def rv:List RV:=[.tmp 4]
theorem enter:En Tryz.prog 37 13 s rv:=En.mk (c:=Tryz.f37.body.getD .ret) Tryz.func37
end final_Verdicts
namespace ref20_Verdicts
abbrev f:Nat:=38
def s:bP:=(S
(F [x 3 39 1,
 J 4 (.mv (.k (.d .aJ)))] 2)
(S
(F [M 10 0,
 P 11 90 10,
 M 5 11] 3)
(S
(F [J 6 (.mv (.k (.d .aJ)))] 1)
(S
(S
(F [J 7 (.mv (Z 0))] 1)
(.block 0
(.loop
(S
(S
(F [M 12 7,
 M 13 5,
 L 14 13,
 V 15 .lss 12 14] 4)
(.cond (.t 15)
.skip
(.exit 0)))
(S
(.block 1
(S
(.fm [M 19 0,
 K 20 8 3,
 M 21 5,
 M 22 7,
 I 23 2 21 22,
 K 24 2 23,
 R 25 36 19 20 24,
 M 18 25,
 E 26 0 18,
 E 27 1 18,
 M 8 26,
 M 9 27] [0,
0,
0,
0,
12,
28,
63,
127,
255,
255,
511,
2047] true)
(S
(F [M 28 8,
 L 29 28,
 Y 30 .eql 29 0] 3)
(.cond (.t 30)
(F [M 31 6,
 M 32 5,
 M 33 7,
 I 34 2 32 33,
 K 35 2 34,
 J 36 (.lB 37 2 1 [b8 0,av 0] [(0,2,(.t 35))]),
 J 37 (.app 37 2 8 (.t 31) (.t 36)),
 M 6 37] 8)
.skip))))
(F [M 16 7,
 Y 17 .add 16 1,
 M 7 17] 3))))))
(S
(F [M 38 6,
 M 4 38] 2)
.ret)))))
def rv:List RV:=[.tmp 4]
theorem enter:En Tryz.prog 38 39 s rv:=En.mk (c:=Tryz.f38.body.getD .ret) Tryz.func38
end ref20_Verdicts
namespace final_Outcomes
abbrev f:Nat:=39
def s:bP:=(S
(F [x 3 39 1,
 J 4 (.mv (.k (.d .aJ)))] 2)
(S
(F [M 7 0,
 K 8 8 3,
 Q 9 83 7 8,
 J 5 (.alloc 131 [(.d .j0)]),
 W 1 5 9] 5)
(S
(F [T 10 5,
 A 11 10,
 D 12 0 11,
 T 13 12,
 P 14 65 13,
 J 6 (.alloc 31 [(.d .aJ)]),
 W 1 6 14] 7)
(S
(F [T 15 5,
 J 16 (.sQ (.func 91) [] [(.t 5),(.t 6)]),
 Q 17 88 15 16,
 M 4 17] 4)
.ret))))
def rv:List RV:=[.tmp 4]
theorem enter:En Tryz.prog 39 18 s rv:=En.mk (c:=Tryz.f39.body.getD .ret) Tryz.func39
end final_Outcomes
namespace ref20_Outcomes
abbrev f:Nat:=40
def s:bP:=(S
(F [x 3 39 1,
 J 4 (.mv (.k (.d .aJ)))] 2)
(S
(F [M 15 0,
 K 16 8 3,
 Q 17 38 15 16,
 M 18 0,
 P 19 90 18,
 M 5 17,
 M 6 19] 7)
(S
(F [J 7 (.mv (.k (.d .aJ)))] 1)
(S
(S
(F [J 8 (.mv (Z 0))] 1)
(.block 0
(.loop
(S
(S
(F [M 20 8,
 M 21 5,
 L 22 21,
 V 23 .lss 20 22] 4)
(.cond (.t 23)
.skip
(.exit 0)))
(S
(.block 1
(S
(F [M 27 0,
 M 28 5,
 M 29 8,
 I 30 2 28 29,
 K 31 2 30,
 Q 32 22 27 31,
 M 26 32,
 E 33 0 26,
 E 34 1 26,
 J 9 (.alloc 43 bF),
 W 29 9 33,
 M 10 34] 12)
(S
(F [J 11 (.mv (B true))] 1)
(S
(S
(F [J 12 (.mv (Z 0))] 1)
(.block 2
(.loop
(S
(S
(F [M 35 12,
 M 36 6,
 L 37 36,
 V 38 .lss 35 37] 4)
(.cond (.t 38)
.skip
(.exit 2)))
(S
(.block 3
(S
(F [M 42 0,
 M 43 6,
 M 44 12,
 I 45 2 43 44,
 K 46 2 45,
 Q 47 22 42 46,
 M 41 47,
 E 48 0 41,
 E 49 1 41,
 J 13 (.alloc 43 bF),
 W 29 13 48,
 M 14 49] 12)
(S
(F (D 50 12 13::
 K 51 2 50::
 D 52 12 9::
 K 53 2 52::
 J 54 (.eqv false [true,true] (.t 51) (.t 53))::
 M 55 54::
 H 56 (.load (some 29) (.t 13)) 55 true::
 H 57 (.load (some 29) (.t 9)) 55 true::
 H 58 (.call (C 63) [(.t 56),(.t 57)]) 55 true::
 H 59 (.bin .lss (.t 58) (Z 0)) 55 true::
 U 60 55 59::
 M 61 60::
 G 62 0 61 true::
 G 63 6 61 true::
 G 64 12 61 true::
 H 65 (.eD 2 (.t 63) (.t 64)) 61 true::
 H 66 (.load (some 2) (.t 65)) 61 true::
 H 67 (.call (C 52) [(.t 62),(.t 66)]) 61 true::
 U 68 61 67::
 M 69 68::
 G 70 5 69 true::
 G 71 6 69 true::
 G 72 12 69 true::
 H 73 (.eD 2 (.t 71) (.t 72)) 69 true::
 H 74 (.load (some 2) (.t 73)) 69 true::
 H 75 (.call (C 21) [(.t 70),(.t 74)]) 69 true::
 H 76 (.not (.t 75)) 69 true::
 U 77 69 76::[]) 28)
(.cond (.t 77)
(F [J 11 (.mv (B false))] 1)
.skip))))
(F [M 39 12,
 Y 40 .add 39 1,
 M 12 40] 3))))))
(S
(F [M 78 11] 1)
(.cond (.t 78)
(F [M 79 7,
 M 80 5,
 M 81 8,
 I 82 2 80 81,
 K 83 2 82,
 J 84 (.lB 37 2 1 [b8 0,av 0] [(0,2,(.t 83))]),
 J 85 (.app 37 2 8 (.t 79) (.t 84)),
 M 7 85] 8)
.skip))))))
(F [M 24 8,
 Y 25 .add 24 1,
 M 8 25] 3))))))
(S
(F [M 86 7,
 M 4 86] 2)
.ret)))))
def rv:List RV:=[.tmp 4]
theorem enter:En Tryz.prog 40 87 s rv:=En.mk (c:=Tryz.f40.body.getD .ret) Tryz.func40
end ref20_Outcomes
namespace law20_row
abbrev f:Nat:=82
def s:bP:=(S
(F [J 0 (.mv (.k (.d .aJ)))] 1)
(S
(F [J 2 (.fL [b8 0,av 0] [(1,1,(.k (av 1)))]),
 J 1 (.alloc 37 [b8 0,av 0]),
 W 2 1 2] 3)
(S
(F (K 3 2 1::
 K 4 2 1::
 J 5 (.fL bF [(0,2,(.t 3)),(10,1,(.k (bC 1))),(11,1,(.k (av 1))),(12,2,(.t 4))])::
 J 6 (.fL [b8 0,av 0] [(1,1,(.k (av 2)))])::
 J 7 (.fL z8 [(0,1,(.k (av 1)))])::
 K 8 2 1::
 K 9 2 1::
 J 10 (.fL bF [(0,2,(.t 6)),(2,8,(.t 7)),(10,1,(.k (bC 2))),(11,1,(.k (av 1))),(12,2,(.t 8)),(14,1,(.k (b8 1))),(15,2,(.t 9)),(17,1,(.k (av 2))),(18,1,(.k (b8 2))),(20,1,(.k (bC 9)))])::
 J 11 (.fL [b8 0,av 0] [(1,1,(.k (av 3)))])::
 J 12 (.fL z8 [(0,1,(.k (av 2)))])::
 K 13 2 1::
 J 14 (.fL [b8 0,av 0] [(1,1,(.k (av 2)))])::
 J 15 (.fL bF [(0,2,(.t 11)),(2,8,(.t 12)),(10,1,(.k (bC 3))),(11,1,(.k (av 2))),(12,2,(.t 13)),(14,1,(.k (b8 3))),(15,2,(.t 14)),(26,1,(.k (av 1)))])::
 J 16 (.fL [b8 0,av 0] [(1,1,(.k (av 4)))])::
 J 17 (.fL z8 [(0,1,(.k (av 3)))])::
 K 18 2 1::
 J 19 (.fL [b8 0,av 0] [(1,1,(.k (av 2)))])::
 J 20 (.fL [b8 0,av 0] [(1,1,(.k (av 3)))])::
 J 21 (.fL bF [(0,2,(.t 16)),(2,8,(.t 17)),(10,1,(.k (bC 4))),(11,1,(.k (av 2))),(12,2,(.t 18)),(14,1,(.k (b8 4))),(15,2,(.t 19)),(21,2,(.t 20)),(26,1,(.k (av 2)))])::
 J 22 (.fL [b8 0,av 0] [(0,1,(.k (b8 1))),(1,1,(.k (av 1)))])::
 J 23 (.fL z8 [(0,1,(.k (av 3)))])::
 K 24 2 1::
 K 25 2 1::
 J 26 (.fL [b8 0,av 0] [(1,1,(.k (av 2)))])::
 J 27 (.fL bF [(0,2,(.t 22)),(2,8,(.t 23)),(10,1,(.k (bC 4))),(11,1,(.k (av 1))),(12,2,(.t 24)),(14,1,(.k (b8 2))),(15,2,(.t 25)),(21,2,(.t 26))])::
 J 28 (.lB 43 29 5 [b8 0,av 0,av 0,av 0,av 0,av 0,av 0,av 0,av 0,av 0,bC 0,av 0,b8 0,av 0,b8 0,b8 0,av 0,av 0,b8 0,b8 0,bC 0,b8 0,av 0,b8 0,av 0,av 0,av 0,av 0,(.d .aJ),b8 0,av 0,av 0,av 0,av 0,av 0,av 0,av 0,av 0,av 0,bC 0,av 0,b8 0,av 0,b8 0,b8 0,av 0,av 0,b8 0,b8 0,bC 0,b8 0,av 0,b8 0,av 0,av 0,av 0,av 0,(.d .aJ),b8 0,av 0,av 0,av 0,av 0,av 0,av 0,av 0,av 0,av 0,bC 0,av 0,b8 0,av 0,b8 0,b8 0,av 0,av 0,b8 0,b8 0,bC 0,b8 0,av 0,b8 0,av 0,av 0,av 0,av 0,(.d .aJ),b8 0,av 0,av 0,av 0,av 0,av 0,av 0,av 0,av 0,av 0,bC 0,av 0,b8 0,av 0,b8 0,b8 0,av 0,av 0,b8 0,b8 0,bC 0,b8 0,av 0,b8 0,av 0,av 0,av 0,av 0,(.d .aJ),b8 0,av 0,av 0,av 0,av 0,av 0,av 0,av 0,av 0,av 0,bC 0,av 0,b8 0,av 0,b8 0,b8 0,av 0,av 0,b8 0,b8 0,bC 0,b8 0,av 0,b8 0,av 0,av 0,av 0,av 0,(.d .aJ)] [(0,29,(.t 5)),(29,29,(.t 10)),(58,29,(.t 15)),(87,29,(.t 21)),(116,29,(.t 27))])::
 M 0 28::[]) 27)
.ret)))
def rv:List RV:=[.tmp 0]
theorem enter:En Tryz.prog 82 29 s rv:=En.mk (c:=Tryz.f82.body.getD .ret) Tryz.func82
end law20_row
namespace final_asks
abbrev f:Nat:=83
def s:bP:=(S
(F [x 3 39 1,
 J 4 (.mv (.k (.d .j0)))] 2)
(S
(F [M 6 0,
 P 7 19 6,
 M 5 7] 3)
(S
(.fm [M 8 5,
 M 9 5,
 P 10 18 9,
 K 11 8 3,
 J 12 (.zZ),
 J 13 (.fL [(.d .j0),(.d .j0),av 0,av 0,av 0,av 0,av 0,av 0,av 0,av 0,(.d .jj)] [(0,1,(.t 8)),(1,1,(.t 10)),(2,8,(.t 11)),(10,1,(.t 12))]),
 x 14 134 13,
 M 4 14] [0,
0,
2,
0,
0,
31,
63,
127] true)
.ret)))
def rv:List RV:=[.tmp 4]
theorem enter:En Tryz.prog 83 15 s rv:=En.mk (c:=Tryz.f83.body.getD .ret) Tryz.func83
end final_asks
namespace final_asker_waits
abbrev f:Nat:=84
def s:bP:=(S
(F [x 4 37 1] 1)
(S
(S
(F [M 10 2,
 K 11 2 4,
 J 12 (.look [true,true] true (i6 0) (.t 10) (.t 11) false),
 Y 13 .gtr 12 0] 4)
(.cond (.t 13)
.ret
.skip))
(S
(F [M 14 2,
 K 15 2 4,
 N (.qF [true,true] true (.t 14) (.t 15) (Z 1))] 3)
(S
(.fm [M 17 0,
 A 18 17,
 D 19 1 18,
 T 20 19,
 K 21 2 4,
 Q 22 20 20 21,
 M 16 22,
 E 23 0 16,
 E 24 1 16,
 M 6 23,
 M 7 24] [0,
1,
3,
7,
0,
31,
63,
127,
127,
255,
1023] true)
(S
(F [M 25 6,
 L 26 25,
 J 27 (.mv (Z 0))] 3)
(.block 0
(.loop
(S
(F [V 28 .lss 27 26] 1)
(S
(.cond (.t 28)
.skip
(.exit 0))
(S
(.block 1
(S
(F [I 29 2 25 27,
 K 30 2 29,
 J 9 (.alloc 37 [b8 0,av 0]),
 W 2 9 30] 4)
(F [M 31 0,
 K 32 2 9,
 M 33 2,
 R 34 84 31 32 33] 4)))
(F [Y 35 .add 27 1,
 M 27 35] 2)))))))))))
def rv:List RV:=[]
theorem enter:En Tryz.prog 84 36 s rv:=En.mk (c:=Tryz.f84.body.getD .ret) Tryz.func84
end final_asker_waits
namespace ref20_needs
abbrev f:Nat:=86
def s:bP:=(S
(F [x 3 37 1,
 J 4 (.mv (.k (.d .aJ)))] 2)
(S
(F [K 10 2 3,
 J 11 (.lB 37 2 1 [b8 0,av 0] [(0,2,(.t 10))]),
 M 5 11] 3)
(S
(S
(F [J 6 (.mv (Z 0))] 1)
(.block 0
(.loop
(S
(S
(F [M 12 6,
 M 13 5,
 L 14 13,
 V 15 .lss 12 14] 4)
(.cond (.t 15)
.skip
(.exit 0)))
(S
(.block 1
(S
(F [M 19 0,
 M 20 5,
 M 21 6,
 I 22 2 20 21,
 K 23 2 22,
 Q 24 26 19 23,
 M 18 24,
 E 25 0 18,
 E 26 1 18,
 M 7 25,
 M 8 26] 11)
(S
(F [J 9 (.mv (Z 0))] 1)
(.block 2
(.loop
(S
(S
(F [M 27 9,
 M 28 7,
 L 29 28,
 V 30 .lss 27 29] 4)
(.cond (.t 30)
.skip
(.exit 2)))
(S
(.block 3
(S
(F [M 33 5,
 M 34 7,
 M 35 9,
 I 36 2 34 35,
 K 37 2 36,
 Q 38 21 33 37,
 O 39 38] 7)
(.cond (.t 39)
(F [M 40 5,
 M 41 7,
 M 42 9,
 I 43 2 41 42,
 K 44 2 43,
 J 45 (.lB 37 2 1 [b8 0,av 0] [(0,2,(.t 44))]),
 J 46 (.app 37 2 8 (.t 40) (.t 45)),
 M 5 46] 8)
.skip)))
(F [M 31 9,
 Y 32 .add 31 1,
 M 9 32] 3))))))))
(F [M 16 6,
 Y 17 .add 16 1,
 M 6 17] 3))))))
(S
(F [M 47 5,
 M 4 47] 2)
.ret))))
def rv:List RV:=[.tmp 4]
theorem enter:En Tryz.prog 86 48 s rv:=En.mk (c:=Tryz.f86.body.getD .ret) Tryz.func86
end ref20_needs
namespace final_asker_some
abbrev f:Nat:=88
def s:bP:=(S
(F [x 3 67 1,
 J 4 (.mv (.k (.d .aJ)))] 2)
(S
(F [M 5 0,
 A 6 5,
 D 7 0 6,
 T 8 7,
 P 9 65 8,
 J 10 (.sQ (.func 144) [] [(.t 3)]),
 Q 11 143 9 10,
 M 4 11] 8)
.ret))
def rv:List RV:=[.tmp 4]
theorem enter:En Tryz.prog 88 12 s rv:=En.mk (c:=Tryz.f88.body.getD .ret) Tryz.func88
end final_asker_some
namespace final_asker_final
abbrev f:Nat:=89
def s:bP:=(S
(F [x 3 37 1,
 J 4 (.mv (B false))] 2)
(S
(S
(.fm [M 11 0,
 A 12 11,
 D 13 10 12,
 T 14 13,
 K 15 2 3,
 J 16 (.look [true,true] true (b8 0) (.t 14) (.t 15) false),
 M 5 16] [0,
1,
3,
7,
0,
31,
63] true)
(S
(F [M 17 5,
 J 18 (.bin .gtr (.t 17) (.k (b8 0)))] 2)
(.cond (.t 18)
(S
(F [M 19 5,
 J 20 (.bin .eql (.t 19) (.k (b8 2))),
 M 4 20] 3)
.ret)
.skip)))
(S
(.fm [M 22 0,
 A 23 22,
 D 24 1 23,
 T 25 24,
 K 26 2 3,
 Q 27 20 25 26,
 M 21 27,
 E 28 0 21,
 E 29 1 21,
 M 6 28,
 M 7 29] [0,
1,
3,
7,
0,
31,
63,
127,
127,
255,
1023] true)
(S
(.fm [M 30 0,
 A 31 30,
 D 32 2 31,
 K 33 8 32,
 K 34 2 3,
 Q 35 85 33 34,
 M 8 35] [0,
1,
3,
7,
0,
31,
63] true)
(S
(S
(F [M 36 6,
 L 37 36,
 J 38 (.mv (Z 0))] 3)
(.block 0
(.loop
(S
(F [V 39 .lss 38 37] 1)
(S
(.cond (.t 39)
.skip
(.exit 0))
(S
(.block 1
(S
(F [I 40 2 36 38,
 K 41 2 40,
 J 10 (.alloc 37 [b8 0,av 0]),
 W 2 10 41] 4)
(F [M 42 8,
 M 43 42,
 G 44 0 43 true,
 H 45 (.load (some 2) (.t 10)) 43 true,
 H 46 (.call (C 89) [(.t 44),(.t 45)]) 43 true,
 U 47 43 46,
 M 8 47] 7)))
(F [Y 48 .add 38 1,
 M 38 48] 2)))))))
(S
(.fm [M 49 0,
 A 50 49,
 D 51 10 50,
 T 52 51,
 K 53 2 3,
 N (.qF [true,true] true (.t 52) (.t 53) (.k (b8 1)))] [0,
1,
3,
7,
0,
31] true)
(S
(S
(F [M 54 8] 1)
(.cond (.t 54)
(.fm [M 55 0,
 A 56 55,
 D 57 10 56,
 T 58 57,
 K 59 2 3,
 N (.qF [true,true] true (.t 58) (.t 59) (.k (b8 2)))] [0,
1,
3,
7,
0,
31] true)
.skip))
(S
(F [M 60 8,
 M 4 60] 2)
.ret))))))))
def rv:List RV:=[.tmp 4]
theorem enter:En Tryz.prog 89 61 s rv:=En.mk (c:=Tryz.f89.body.getD .ret) Tryz.func89
end final_asker_final
namespace ref20_dots
abbrev f:Nat:=90
def s:bP:=(S
(F [J 2 (.mv (.k (.d .aJ)))] 1)
(S
(F [J 3 (.mv (.k (.d .aJ)))] 1)
(S
(S
(F [J 4 (.mv (Z 0))] 1)
(.block 0
(.loop
(S
(S
(F [M 5 4,
 M 6 0,
 L 7 6,
 V 8 .lss 5 7] 4)
(.cond (.t 8)
.skip
(.exit 0)))
(S
(.block 1
(F [M 11 3,
 M 12 0,
 M 13 4,
 I 14 29 12 13,
 D 15 0 14,
 K 16 2 15,
 J 17 (.lB 37 2 1 [b8 0,av 0] [(0,2,(.t 16))]),
 J 18 (.app 37 2 8 (.t 11) (.t 17)),
 M 3 18] 9))
(F [M 9 4,
 Y 10 .add 9 1,
 M 4 10] 3))))))
(S
(F [M 19 3,
 P 20 87 19,
 M 2 20] 3)
.ret))))
def rv:List RV:=[.tmp 2]
theorem enter:En Tryz.prog 90 21 s rv:=En.mk (c:=Tryz.f90.body.getD .ret) Tryz.func90
end ref20_dots
namespace final_Outcomes_1
abbrev f:Nat:=91
def s:bP:=(S
(F [x 3 37 0,
 J 4 (.mv (B false))] 2)
(S
(.fm [T 8 1,
 A 9 8,
 D 10 0 9,
 T 11 10,
 K 12 2 3,
 Q 13 67 11 12,
 M 7 13,
 E 14 0 7,
 E 15 1 7,
 J 5 (.alloc 43 bF),
 W 29 5 14,
 M 6 15] [0,
1,
3,
7,
0,
31,
63,
127,
127,
0,
767,
2047] true)
(S
(F [T 16 1,
 K 17 2 3,
 Q 18 89 16 17,
 M 19 18,
 H 20 (.load none (.t 2)) 19 true,
 H 21 (.sQ (.func 93) [] [(.t 1),(.t 5)]) 19 true,
 H 22 (.call (C 92) [(.t 20),(.t 21)]) 19 true,
 H 23 (.not (.t 22)) 19 true,
 U 24 19 23,
 M 4 24] 10)
.ret)))
def rv:List RV:=[.tmp 4]
theorem enter:En Tryz.prog 91 25 s rv:=En.mk (c:=Tryz.f91.body.getD .ret) Tryz.func91
end final_Outcomes_1
namespace slices_ContainsFunc_Lapi_Dot_api_Dot
abbrev f:Nat:=92
def s:bP:=(S
(F [J 4 (.mv (B false))] 1)
(S
(F [M 5 0,
 M 6 1,
 Q 7 145 5 6,
 Y 8 .geq 7 0,
 M 4 8] 5)
.ret))
def rv:List RV:=[.tmp 4]
theorem enter:En Tryz.prog 92 9 s rv:=En.mk (c:=Tryz.f92.body.getD .ret) Tryz.func92
end slices_ContainsFunc_Lapi_Dot_api_Dot
namespace final_Outcomes_1_1
abbrev f:Nat:=93
def s:bP:=(S
(F [x 3 37 0,
 J 4 (.mv (B false))] 2)
(S
(.fm [T 8 1,
 A 9 8,
 D 10 0 9,
 T 11 10,
 K 12 2 3,
 Q 13 67 11 12,
 M 7 13,
 E 14 0 7,
 E 15 1 7,
 J 5 (.alloc 43 bF),
 W 29 5 14,
 M 6 15] [0,
1,
3,
7,
0,
31,
63,
127,
127,
0,
767,
2047] true)
(S
(.fm (D 16 12 5::
 K 17 2 16::
 D 18 12 2::
 K 19 2 18::
 J 20 (.eqv false [true,true] (.t 17) (.t 19))::
 M 21 20::
 H 22 (.load none (.t 1)) 21 true::
 H 23 (.dR (.t 22)) 21 true::
 H 24 (.aX 0 (.t 23)) 21 true::
 H 25 (.load none (.t 24)) 21 true::
 H 26 (.load (some 2) (.t 3)) 21 true::
 H 27 (.call (C 66) [(.t 25),(.t 26)]) 21 true::
 U 28 21 27::
 M 29 28::
 H 30 (.load (some 29) (.t 5)) 29 true::
 H 31 (.load (some 29) (.t 2)) 29 true::
 H 32 (.call (C 94) [(.t 30),(.t 31)]) 29 true::
 H 33 (.bin .lss (.t 32) (Z 0)) 29 true::
 U 34 29 33::
 M 35 34::
 H 36 (.load none (.t 1)) 35 true::
 H 37 (.load (some 2) (.t 3)) 35 true::
 H 38 (.call (C 89) [(.t 36),(.t 37)]) 35 true::
 H 39 (.not (.t 38)) 35 true::
 U 40 35 39::
 M 4 40::[]) (0::
1::
0::
4::
15::
31::
63::
127::
255::
511::
63::
2047::
4095::
8191::
16383::
16383::
65535::
131071::
262143::
524287::
1048575::
1048575::
4194303::
8388607::
16777215::
33554431::[]) true)
.ret)))
def rv:List RV:=[.tmp 4]
theorem enter:En Tryz.prog 93 41 s rv:=En.mk (c:=Tryz.f93.body.getD .ret) Tryz.func93
end final_Outcomes_1_1
namespace order_Compare
abbrev f:Nat:=94
def s:bP:=(S
(F [x 2 43 0,
 x 3 43 1,
 J 4 (.mv (Z 0))] 3)
(S
(.fm (D 5 10 2::
 T 6 5::
 D 7 10 3::
 T 8 7::
 Q 9 147 6 8::
 D 10 0 2::
 D 11 0 10::
 T 12 11::
 D 13 0 3::
 D 14 0 13::
 T 15 14::
 Q 16 148 12 15::
 D 17 0 2::
 D 18 1 17::
 T 19 18::
 D 20 0 3::
 D 21 1 20::
 T 22 21::
 Q 23 149 19 22::
 J 24 (.lB 3 1 3 [i6 0,i6 0,i6 0] [(0,1,(.t 9)),(1,1,(.t 16)),(2,1,(.t 23))])::
 P 25 146 24::
 M 4 25::[]) (0::
1::
0::
4::
15::
0::
32::
96::
0::
256::
768::
2047::
0::
4096::
12288::
0::
32768::
98304::
262143::
524287::
1048575::
2097151::[]) true)
.ret))
def rv:List RV:=[.tmp 4]
theorem enter:En Tryz.prog 94 26 s rv:=En.mk (c:=Tryz.f94.body.getD .ret) Tryz.func94
end order_Compare
namespace slices_DeleteFunc_Lapi_Dot_api_Dot
abbrev f:Nat:=143
def s:bP:=(S
(F [J 4 (.mv (.k (.d .aJ)))] 1)
(S
(F [M 8 0,
 M 9 1,
 Q 10 145 8 9,
 M 5 10] 4)
(S
(S
(F [M 11 5,
 J 12 (.bin .eql (.t 11) (.k (.d (.int .i64 (-1)))))] 2)
(.cond (.t 12)
(S
(F [M 13 0,
 M 4 13] 2)
.ret)
.skip))
(S
(S
(F [M 14 5,
 Y 15 .add 14 1,
 M 6 15] 3)
(.block 0
(.loop
(S
(S
(F [M 16 6,
 M 17 0,
 L 18 17,
 V 19 .lss 16 18] 4)
(.cond (.t 19)
.skip
(.exit 0)))
(S
(.block 1
(S
(F [M 22 0,
 M 23 6,
 I 24 2 22 23,
 K 25 2 24,
 J 7 (.alloc 37 [b8 0,av 0]),
 W 2 7 25] 6)
(S
(F [M 26 1,
 K 27 2 7,
 J 28 (.call (.t 26) [(.t 27)]),
 O 29 28] 4)
(.cond (.t 29)
(S
(F [M 30 0,
 M 31 5,
 K 32 2 7,
 I 33 2 30 31,
 W 2 33 32] 5)
(F [M 34 5,
 Y 35 .add 34 1,
 M 5 35] 3))
.skip))))
(F [M 20 6,
 Y 21 .add 20 1,
 M 6 21] 3))))))
(S
(F [M 36 0,
 M 37 5,
 J 38 (.slc 2 (.t 36) (some (.t 37)) none),
 N (.LK 2 [b8 0,av 0] (.t 38))] 4)
(S
(F [M 39 0,
 M 40 5,
 J 41 (.slc 2 (.t 39) none (some (.t 40))),
 M 4 41] 4)
.ret))))))
def rv:List RV:=[.tmp 4]
theorem enter:En Tryz.prog 143 42 s rv:=En.mk (c:=Tryz.f143.body.getD .ret) Tryz.func143
end slices_DeleteFunc_Lapi_Dot_api_Dot
namespace final_asker_some_1
abbrev f:Nat:=144
def s:bP:=(S
(F [x 2 37 0,
 J 3 (.mv (B false))] 2)
(S
(F [T 4 1,
 K 5 2 2,
 J 6 (.call (.t 4) [(.t 5)]),
 O 7 6,
 M 3 7] 5)
.ret))
def rv:List RV:=[.tmp 3]
theorem enter:En Tryz.prog 144 8 s rv:=En.mk (c:=Tryz.f144.body.getD .ret) Tryz.func144
end final_asker_some_1
namespace slices_IndexFunc_Lapi_Dot_api_Dot
abbrev f:Nat:=145
def s:bP:=(S
(F [J 4 (.mv (Z 0))] 1)
(S
(S
(F [M 6 0,
 L 7 6,
 J 8 (.mv (Z 0))] 3)
(.block 0
(.loop
(S
(F [V 9 .lss 8 7] 1)
(S
(.cond (.t 9)
.skip
(.exit 0))
(S
(.block 1
(S
(F [M 10 8,
 M 5 10] 2)
(S
(F [M 11 1,
 M 12 0,
 M 13 5,
 I 14 2 12 13,
 K 15 2 14,
 J 16 (.call (.t 11) [(.t 15)])] 6)
(.cond (.t 16)
(S
(F [M 17 5,
 M 4 17] 2)
.ret)
.skip))))
(F [Y 18 .add 8 1,
 M 8 18] 2)))))))
(S
(F [J 4 (.mv (.k (.d (.int .i64 (-1)))))] 1)
.ret)))
def rv:List RV:=[.tmp 4]
theorem enter:En Tryz.prog 145 19 s rv:=En.mk (c:=Tryz.f145.body.getD .ret) Tryz.func145
end slices_IndexFunc_Lapi_Dot_api_Dot
namespace cmp_Compare_uint64
abbrev f:Nat:=147
def s:bP:=(S
(F [J 4 (.mv (Z 0))] 1)
(S
(F [M 7 0,
 P 8 178 7,
 M 5 8] 3)
(S
(F [M 9 1,
 P 10 178 9,
 M 6 10] 3)
(S
(S
(F [M 11 5] 1)
(.cond (.t 11)
(S
(S
(F [M 12 6] 1)
(.cond (.t 12)
(S
(F [J 4 (.mv (Z 0))] 1)
.ret)
.skip))
(S
(F [J 4 (.mv (.k (.d (.int .i64 (-1)))))] 1)
.ret))
.skip))
(S
(S
(F [M 13 6] 1)
(.cond (.t 13)
(S
(F [J 4 (.mv (Z 1))] 1)
.ret)
.skip))
(S
(S
(F [M 14 0,
 M 15 1,
 V 16 .lss 14 15] 3)
(.cond (.t 16)
(S
(F [J 4 (.mv (.k (.d (.int .i64 (-1)))))] 1)
.ret)
.skip))
(S
(S
(F [M 17 0,
 M 18 1,
 V 19 .gtr 17 18] 3)
(.cond (.t 19)
(S
(F [J 4 (.mv (Z 1))] 1)
.ret)
.skip))
(S
(F [J 4 (.mv (Z 0))] 1)
.ret))))))))
def rv:List RV:=[.tmp 4]
theorem enter:En Tryz.prog 147 20 s rv:=En.mk (c:=Tryz.f147.body.getD .ret) Tryz.func147
end cmp_Compare_uint64
namespace cmp_isNaN_uint64
abbrev f:Nat:=178
def s:bP:=(S
(F [J 2 (.mv (B false))] 1)
(S
(F [M 3 0,
 M 4 0,
 V 5 .neq 3 4,
 M 2 5] 4)
.ret))
def rv:List RV:=[.tmp 2]
theorem enter:En Tryz.prog 178 6 s rv:=En.mk (c:=Tryz.f178.body.getD .ret) Tryz.func178
end cmp_isNaN_uint64
end
end Go.Proofs.YtaelhkkjgfobhaaGreat
