/-
 The code of the functions in the small form, by program (gen.py); each is checked against the translation by the kernel.
-/
import Derived.Test.YtaelhkkjgfobhaaGreatChecked
import Derived.Test.YtaelhkkjgfobhaaGreatR4
set_option linter.unusedVariables false
set_option linter.unusedSimpArgs false
set_option linter.unusedSectionVars false
namespace Go.Proofs.YtaelhkkjgfobhaaGreat
open Go.Sl Go.Sl.Co Go.Proofs
abbrev ae:List Nat:=[0,1,2,6,7,8,9,10,11,12,13,15,16,17,18,19,37,41,47,53,69,88,100,106,131]
abbrev al:List Nat:=[0,1,2,4,5,6,12,62,65,72,130,185]
abbrev ao:List Nat:=[0,1,2,5,6,7,8,9,10,11,12,13,14,15,16,17,18,36,43,89,106,123]
abbrev ap:List Nat:=[0,2,3,4,5,6,8,9,10,12,19,20,21,22,31,32,33,38,39,40,41,51]
abbrev ar:List Nat:=[0,2,3,5,7,8,9,10,11,19,20,21,22,36,49,51,63,73,75,87]
abbrev aw:List Nat:=[0,1,3,4,5,6,30,32,51,55,84]
abbrev ba:List Nat:=[0,1,2,3,4,5,6,7,8,9,10,11,13,35,71,73,78]
abbrev bb:List Nat:=[0,2,3,5,6,10,18,19,20,21,27,55,63]
abbrev be:List Nat:=[0,1,4,5,6,7,12,19,29]
abbrev bi:List Nat:=[0,1,2,3,4,5,6,7,8,10,11,12,13,14,43,45,63]
abbrev bj:List Nat:=[0,1,2,3,4,5,6,7,9,11,37,38,39,43]
abbrev bm:List Nat:=[0,1,2,3,4,6,8,9,31,39,50]
abbrev bv:List Nat:=[0,2,3,4,5,6,8,13,15,28,43,44,45]
abbrev ce:List Nat:=[0,1,2,5,7,14,15,16,17,25,26,27,28,45]
abbrev ci:List Nat:=[0,1,2,3,4]
abbrev cj:List Nat:=[0,1,2,3,4,14,19,41,44,59]
abbrev cJ:List Nat:=[0,1,4,5,7,8,9,16]
abbrev cY:List Nat:=[0,1,2,3,4,5,6,8,10,31,32,33,37]
abbrev da:List Nat:=[0,1,2,3,4,5,6,7,8,10,16,63]
abbrev db:List Nat:=[0,1,4,5,6,12,16,25,29,38]
abbrev dd:List Nat:=[0,1,4,5,6,7,8,9,10,19]
abbrev dj:List Nat:=[0,1,2,3,4,5,6,7,10,25]
abbrev dp:List Nat:=[0,1,3,4,5,6,7,9,20]
abbrev dq:List Nat:=[0,1,2,4,5,6,7,8]
abbrev dt:List Nat:=[0,2,3,4,5,6,7,17]
abbrev du:List Nat:=[0,1,2]
abbrev dC:List Nat:=[0,1,2,4,5,6,7,14,17,18,22]
abbrev dE:List Nat:=[0,2,4]
abbrev dT:List Nat:=[0,1,3,4,5,7,9,20]
abbrev eg:List Nat:=[0,1,3,4,5,6,19]
abbrev eh:List Nat:=[0,1,3,4,5,7,8,9,17,21,22]
abbrev eI:List Nat:=[0,1,4,5,6,11,12,13,16,19]
abbrev eJ:List Nat:=[0,1,2,3,4,5,6,7,8]
abbrev eK:List Nat:=[0,1,2,4,5,6,7]
abbrev eQ:List Nat:=[0,2,3,5,6,7,8,9,14]
abbrev fb:List Nat:=[0,2,3,4,6,13,14,15]
abbrev fg:List Nat:=[0,1,3,4,5,13,35]
abbrev fi:List Nat:=[0,1,2,4,5,6,7,8,9]
abbrev ft:List Nat:=[0,1,3,4,5,6,10,19]
abbrev fv:List Nat:=[0,2]
abbrev fw:List Nat:=[0,2,3,4,8,34]
abbrev fy:List Nat:=[0,1,2,4,5,6,11]
abbrev fX:List Nat:=[0,1,4,5,10,14,25]
abbrev fY:List Nat:=[0,1,2,3,4,5,7,16]
abbrev ge:List Nat:=[0,1,3,4,5,6,7,16]
abbrev gS:List Nat:=[0,1,2,4,5,25,36]
abbrev hY:List Nat:=[0,1,3,4,5,6,7,9]
abbrev ib:List Nat:=[0,1,2,3]
abbrev ie:List Nat:=[0,1,4,5,9,16]
abbrev ii:List Nat:=[0,1,3,4,5,6,7,8]
abbrev ik:List Nat:=[0,1,3,4,5,7,15]
abbrev il:List Nat:=[0,2,3,4,12]
abbrev im:List Nat:=[0,1,2,3,4,5,6]
abbrev io:List Nat:=[0,1,3,5,7,13]
abbrev ip:List Nat:=[0,2,3,7]
abbrev ix:List Nat:=[0,2,3,5,7,8,9,10]
abbrev jn:List Nat:=[0,1,4,5]
abbrev jp:List Nat:=[0,1,2,4,5,6]
abbrev ju:List Nat:=[0,1,3,4,5,6]
section
theorem Zm: Tryz.prog.follows .mixedOrders=true:=by kernel_rfl
abbrev La:Nat:=3
abbrev BS:Nat:=4
abbrev y6:Nat:=5
abbrev jN:Nat:=22
abbrev F4:Nat:=35
abbrev ya:Nat:=37
abbrev rV:Nat:=39
abbrev qz:Nat:=41
abbrev cg:Nat:=43
abbrev mV:Nat:=89
abbrev jf:Nat:=148
abbrev kH:Nat:=217
namespace ref10_Great
abbrev f:Nat:=14
def s:bP:=(S
(F [J 2 (.mv (B false))] 1)
(S
(F [J 3 (.mv (Z 0))] 1)
(S
(S
(F [J 4 (.mv (Z 0))] 1)
(.block 0
(.loop
(S
(S
(F [M 5 4,
 M 6 0,
 L 7 6,
 V 8 .lss 5 7,
 M 9 8,
 G 10 4 9 true,
 H 11 (.bin .lss (.t 10) (Z 100)) 9 true,
 U 12 9 11] 8)
(.cond (.t 12)
.skip
(.exit 0)))
(S
(.block 1
(F [M 15 3,
 M 16 0,
 M 17 4,
 I 18 29 16 17,
 D 19 28 18,
 T 20 19,
 L 21 20,
 V 22 .add 15 21,
 M 3 22] 9))
(F [M 13 4,
 Y 14 .add 13 1,
 M 4 14] 3))))))
(S
(F [M 23 0,
 L 24 23,
 Y 25 .gtr 24 80,
 M 26 25,
 G 27 3 26 false,
 H 28 (.bin .gtr (.t 27) (Z 300)) 26 false,
 J 29 (.pick (.t 26) (B true) (.t 28)),
 M 2 29] 8)
.ret))))
def rv:List RV:=[.tmp 2]
theorem enter:En Tryz.prog 14 30 s rv:=En.mk (c:= Tryz.f14.body.getD .ret) Tryz.func14
end ref10_Great
namespace shape_New
abbrev f:Nat:=19
def s:bP:=(S
(F [J 2 (.mv (.k (.d .dZ)))] 1)
(S
(F [M 12 0,
 P 13 69 12,
 J 14 (.Bn),
 J 15 (.Bn),
 J 16 (.Bn),
 J 17 (.fC [(.d .dZ),(.d .gP),(.d .gP),(.d .gP)] [(0,1,(.t 13)),(1,1,(.t 14)),(2,1,(.t 15)),(3,1,(.t 16))]),
 x 18 117 17,
 M 3 18] 8)
(S
(S
(F [M 19 0,
 L 20 19,
 J 21 (.mv (Z 0))] 3)
(.block 0
(.loop
(S
(F [V 22 .lss 21 20] 1)
(S
(.cond (.t 22)
.skip
(.exit 0))
(S
(.block 1
(S
(F [I 23 29 19 21,
 K 24 29 23,
 J 5 (.alloc 43 bH),
 W 29 5 24] 4)
(S
(.e_ [M 26 3,
 A 27 26,
 D 28 1 27,
 T 29 28,
 D 30 0 5,
 K 31 2 30,
 J 32 (.look [true,true] true (.agg bH) (.t 29) (.t 31) true),
 M 25 32,
 E 33 0 25,
 E 34 1 25,
 J 6 (.alloc 43 bH),
 W 29 6 33,
 M 7 34] [0,
1,
3,
7,
0,
16,
63,
127,
255,
255,
0,
1535,
4095] true)
(S
(F [M 35 7,
 O 36 35] 2)
(.cond (.t 36)
(.e_ [M 37 3,
 A 38 37,
 D 39 1 38,
 T 40 39,
 D 41 0 5,
 K 42 2 41,
 K 43 29 5,
 N (.ru [true,true] true (.t 40) (.t 42) (.t 43))] [0,
1,
3,
7,
0,
16,
0,
127] true)
.skip)))))
(F [Y 44 .add 21 1,
 M 21 44] 2)))))))
(S
(S
(F [M 45 3,
 A 46 45,
 D 47 1 46,
 T 48 47,
 J 49 (.mq (.t 48))] 5)
(.block 2
(.loop
(S
(F [J 50 (.kQ (.t 49)),
 E 51 0 50] 2)
(S
(.cond (.t 51)
.skip
(.exit 2))
(.block 3
(S
(F [J 52 (.nv (.t 49)),
 E 53 0 52,
 E 54 1 52,
 J 8 (.alloc 37 [b8 0,aB 0]),
 J 9 (.alloc 43 bH),
 W 2 8 53,
 W 29 9 54] 7)
(S
(F [D 55 14 9,
 T 56 55,
 J 57 (.bin .eql (.t 56) (.k (b8 3))),
 M 58 57,
 G 59 3 58 true,
 H 60 (.load (some 29) (.t 9)) 58 true,
 H 61 (.call (C 70) [(.t 59),(.t 60)]) 58 true,
 H 62 (.bin .eql (.t 61) (Z 0)) 58 true,
 U 63 58 62] 9)
(.cond (.t 63)
(.e_ [M 64 3,
 A 65 64,
 D 66 2 65,
 T 67 66,
 K 68 2 8,
 N (.ru [true,true] true (.t 67) (.t 68) (Z 1))] [0,
1,
3,
7,
0,
31] true)
.skip)))))))))
(S
(S
(F [M 69 3,
 A 70 69,
 D 71 1 70,
 T 72 71,
 J 73 (.mq (.t 72))] 5)
(.block 4
(.loop
(S
(F [J 74 (.kQ (.t 73)),
 E 75 0 74] 2)
(S
(.cond (.t 75)
.skip
(.exit 4))
(.block 5
(S
(F [J 76 (.nv (.t 73)),
 E 77 0 76,
 E 78 1 76,
 J 10 (.alloc 37 [b8 0,aB 0]),
 J 11 (.alloc 43 bH),
 W 2 10 77,
 W 29 11 78] 7)
(S
(F [D 79 14 11,
 T 80 79,
 J 81 (.bin .eql (.t 80) (.k (b8 4))),
 M 82 81,
 G 83 3 82 true,
 H 84 (.load (some 29) (.t 11)) 82 true,
 H 85 (.call (C 70) [(.t 83),(.t 84)]) 82 true,
 H 86 (.bin .eql (.t 85) (Z 0)) 82 true,
 U 87 82 86] 9)
(.cond (.t 87)
(.e_ [M 88 3,
 A 89 88,
 D 90 3 89,
 T 91 90,
 K 92 2 10,
 D 93 21 11,
 K 94 2 93,
 N (.ru [true,true] true (.t 91) (.t 92) (.t 94))] [0,
1,
3,
7,
0,
0,
32,
127] true)
.skip)))))))))
(S
(F [M 95 3,
 M 2 95] 2)
.ret))))))
def rv:List RV:=[.tmp 2]
theorem enter:En Tryz.prog 19 96 s rv:=En.mk (c:= Tryz.f19.body.getD .ret) Tryz.func19
end shape_New
namespace ref10_Before
abbrev f:Nat:=23
def s:bP:=(S
(F [x 2 43 0,
 x 3 43 1,
 J 4 (.mv (B false))] 3)
(S
(F [D 5 2 3,
 K 6 8 5,
 D 7 0 2,
 K 8 2 7,
 Q 9 45 6 8,
 M 4 9] 6)
.ret))
def rv:List RV:=[.tmp 4]
theorem enter:En Tryz.prog 23 10 s rv:=En.mk (c:= Tryz.f23.body.getD .ret) Tryz.func23
end ref10_Before
namespace ref03_Same
abbrev f:Nat:=29
def s:bP:=(S
(F [J 4 (.mv (B false))] 1)
(S
(S
(F [M 6 0,
 L 7 6,
 M 8 1,
 L 9 8,
 V 10 .neq 7 9] 5)
(.cond (.t 10)
(S
(F [J 4 (.mv (B false))] 1)
.ret)
.skip))
(S
(S
(F [J 5 (.mv (Z 0))] 1)
(.block 0
(.loop
(S
(S
(F [M 11 5,
 M 12 0,
 L 13 12,
 V 14 .lss 11 13] 4)
(.cond (.t 14)
.skip
(.exit 0)))
(S
(.block 1
(S
(.e_ [M 17 0,
 M 18 5,
 I 19 2 17 18,
 K 20 2 19,
 M 21 1,
 M 22 5,
 I 23 2 21 22,
 K 24 2 23,
 J 25 (.eqv true [true,true] (.t 20) (.t 24))] [0,
0,
3,
7,
0,
0,
48,
112,
255] true)
(.cond (.t 25)
(S
(F [J 4 (.mv (B false))] 1)
.ret)
.skip)))
(F [M 15 5,
 Y 16 .add 15 1,
 M 5 16] 3))))))
(S
(F [J 4 (.mv (B true))] 1)
.ret))))
def rv:List RV:=[.tmp 4]
theorem enter:En Tryz.prog 29 26 s rv:=En.mk (c:= Tryz.f29.body.getD .ret) Tryz.func29
end ref03_Same
namespace ref03_May
abbrev f:Nat:=41
def s:bP:=(S
(F [x 1 37 0,
 J 2 (.mv (B false))] 2)
(S
(F [D 3 0 1,
 T 4 3,
 J 5 (.bin .leq (.t 4) (.k (b8 7))),
 M 6 5,
 H 7 (.aT 1 (.t 1)) 6 true,
 H 8 (.load none (.t 7)) 6 true,
 H 9 (.bin .geq (.t 8) (.k (aB 1))) 6 true,
 U 10 6 9,
 M 2 10] 9)
.ret))
def rv:List RV:=[.tmp 2]
theorem enter:En Tryz.prog 41 11 s rv:=En.mk (c:= Tryz.f41.body.getD .ret) Tryz.func41
end ref03_May
namespace ref04_Covers
abbrev f:Nat:=45
def s:bP:=(S
(F [x 2 39 0,
 x 3 37 1,
 J 4 (.mv (B false))] 3)
(S
(.e_ [K 5 2 3,
 P 6 41 5,
 M 7 6,
 H 8 (.aT 1 (.t 3)) 7 true,
 H 9 (.load none (.t 8)) 7 true,
 H 10 (.aT 0 (.t 3)) 7 true,
 H 11 (.load none (.t 10)) 7 true,
 H 12 (.jE 8 1 (.t 2) (.t 11)) 7 true,
 H 13 (.load none (.t 12)) 7 true,
 H 14 (.bin .leq (.t 9) (.t 13)) 7 true,
 U 15 7 14,
 M 4 15] [0,
1,
3,
7,
15,
7,
39,
103,
231,
511,
1023,
2047] true)
.ret))
def rv:List RV:=[.tmp 4]
theorem enter:En Tryz.prog 45 16 s rv:=En.mk (c:= Tryz.f45.body.getD .ret) Tryz.func45
end ref04_Covers
namespace shape_Shape_Tree
abbrev f:Nat:=64
def s:bP:=(S
(F [J 2 (.mv (.k (.d .dZ)))] 1)
(S
(S
(F [M 3 0,
 P 4 115 3] 2)
(.cond (.t 4)
(S
(F [J 2 (.mv (.k (.d .dZ)))] 1)
.ret)
.skip))
(S
(F [M 5 0,
 A 6 5,
 D 7 0 6,
 T 8 7,
 M 2 8] 5)
.ret)))
def rv:List RV:=[.tmp 2]
theorem enter:En Tryz.prog 64 9 s rv:=En.mk (c:= Tryz.f64.body.getD .ret) Tryz.func64
end shape_Shape_Tree
namespace shape_Shape_Dots
abbrev f:Nat:=65
def s:bP:=(S
(F [J 2 (.mv (.k (.d .aL)))] 1)
(S
(S
(F [M 3 0,
 P 4 115 3] 2)
(.cond (.t 4)
(S
(F [J 2 (.mv (.k (.d .aL)))] 1)
.ret)
.skip))
(S
(F [M 5 0,
 A 6 5,
 D 7 1 6,
 T 8 7,
 P 9 117 8,
 J 10 (.call (C 116) [(.t 9),(C 118)]),
 M 2 10] 7)
.ret)))
def rv:List RV:=[.tmp 2]
theorem enter:En Tryz.prog 65 11 s rv:=En.mk (c:= Tryz.f65.body.getD .ret) Tryz.func65
end shape_Shape_Dots
namespace shape_Shape_Good
abbrev f:Nat:=66
def s:bP:=(S
(F [x 3 37 1,
 J 4 (.mv (B false))] 2)
(S
(F [M 8 0,
 K 9 2 3,
 Q 10 67 8 9,
 M 7 10,
 E 11 0 7,
 E 12 1 7,
 J 5 (.alloc 43 bH),
 W 29 5 11,
 M 6 12] 9)
(S
(F [M 13 6,
 M 14 13,
 G 15 0 14 true,
 H 16 (.load (some 29) (.t 5)) 14 true,
 H 17 (.call (C 70) [(.t 15),(.t 16)]) 14 true,
 H 18 (.bin .eql (.t 17) (Z 0)) 14 true,
 U 19 14 18,
 M 4 19] 8)
.ret)))
def rv:List RV:=[.tmp 4]
theorem enter:En Tryz.prog 66 20 s rv:=En.mk (c:= Tryz.f66.body.getD .ret) Tryz.func66
end shape_Shape_Good
namespace shape_Shape_Op
abbrev f:Nat:=67
def s:bP:=(S
(F [x 3 37 1,
 J 4 (.alloc 43 bH),
 J 5 (.mv (B false))] 3)
(S
(S
(F [M 8 0,
 P 9 115 8] 2)
(.cond (.t 9)
(S
(F [J 10 (.fC bH []),
 W 29 4 10,
 J 5 (.mv (B false))] 3)
.ret)
.skip))
(S
(.e_ [M 12 0,
 A 13 12,
 D 14 1 13,
 T 15 14,
 K 16 2 3,
 J 17 (.look [true,true] true (.agg bH) (.t 15) (.t 16) true),
 M 11 17,
 E 18 0 11,
 E 19 1 11,
 J 6 (.alloc 43 bH),
 W 29 6 18,
 M 7 19] [0,
1,
3,
7,
0,
31,
63,
127,
127,
0,
767,
2047] true)
(S
(F [D 20 28 6,
 T 21 20,
 P 22 104 21,
 D 23 28 6,
 W 1 23 22] 5)
(S
(F [K 24 29 6,
 M 25 7,
 W 29 4 24,
 M 5 25] 4)
.ret)))))
def rv:List RV:=[.cell 4 (some 29),.tmp 5]
theorem enter:En Tryz.prog 67 26 s rv:=En.mk (c:= Tryz.f67.body.getD .ret) Tryz.func67
end shape_Shape_Op
namespace tree_Tree_Chain
abbrev f:Nat:=68
def s:bP:=(S
(F [x 3 37 1,
 J 4 (.mv (.k (.d .aL))),
 J 5 (.mv (Z 0))] 3)
(S
(S
(F [M 11 0,
 K 12 2 3,
 Q 13 119 11 12,
 M 10 13,
 E 14 0 10,
 E 15 1 10,
 J 6 (.alloc 158 [b8 0,aB 0,b8 0,aB 0,b8 0,aB 0,aB 0,b8 0,b8 0,bE 0,i6 0]),
 W 11 6 14,
 M 7 15] 9)
(S
(F [M 16 7,
 Y 17 .neq 16 0] 2)
(.cond (.t 17)
(S
(F [M 18 7,
 J 4 (.mv (.k (.d .aL))),
 M 5 18] 3)
.ret)
.skip)))
(S
(F [J 8 (.alloc 31 [(.d .aL)])] 1)
(S
(S
(F [M 19 0,
 K 20 2 3,
 Q 21 120 19 20] 3)
(.block 0
(.sU (.t 21) [22]
(F [J 9 (.alloc 158 [b8 0,aB 0,b8 0,aB 0,b8 0,aB 0,aB 0,b8 0,b8 0,bE 0,i6 0]),
 W 11 9 22] 2)
(.block 1
(F [T 23 8,
 D 24 0 9,
 K 25 2 24,
 J 26 (.mK 37 2 1 [b8 0,aB 0] [(0,2,(.t 25))]),
 J 27 (.app 37 2 8 (.t 23) (.t 26)),
 W 1 8 27] 6)))))
(S
(F [T 28 8,
 M 4 28,
 J 5 (.mv (Z 0))] 3)
.ret)))))
def rv:List RV:=[.tmp 4,.tmp 5]
theorem enter:En Tryz.prog 68 29 s rv:=En.mk (c:= Tryz.f68.body.getD .ret) Tryz.func68
end tree_Tree_Chain
namespace tree_New
abbrev f:Nat:=69
def s:bP:=(S
(F [J 2 (.mv (.k (.d .dZ)))] 1)
(S
(F [J 8 (.Bn),
 J 9 (.Bn),
 J 10 (.fC [(.d .gP),(.d .gP)] [(0,1,(.t 8)),(1,1,(.t 9))]),
 x 11 166 10,
 M 3 11] 5)
(S
(F [J 12 (.Bn),
 J 4 (.alloc 114 [(.d .gP)]),
 W 1 4 12] 3)
(S
(F [M 13 0,
 P 14 106 13,
 J 15 (.uj (.func 122) [] [(.t 4)]),
 Q 16 121 14 15,
 M 5 16] 5)
(S
(S
(F [J 6 (.mv (B true))] 1)
(.block 0
(.loop
(S
(S
(F [M 17 6] 1)
(.cond (.t 17)
.skip
(.exit 0)))
(.block 1
(S
(F [M 18 5,
 L 19 18,
 M 7 19] 3)
(S
(F [M 20 5,
 M 21 3,
 J 22 (.uj (.func 123) [(.t 21)] []),
 Q 23 121 20 22,
 M 5 23] 5)
(F [M 24 5,
 L 25 24,
 M 26 7,
 V 27 .lss 25 26,
 M 6 27] 5))))))))
(S
(F [M 28 3,
 M 2 28] 2)
.ret))))))
def rv:List RV:=[.tmp 2]
theorem enter:En Tryz.prog 69 29 s rv:=En.mk (c:= Tryz.f69.body.getD .ret) Tryz.func69
end tree_New
namespace shape_Shape_Why
abbrev f:Nat:=70
def s:bP:=(S
(F [x 2 29 0,
 x 3 43 1,
 J 4 (.mv (Z 0))] 3)
(S
(S
(F [T 10 2,
 P 11 115 10] 2)
(.cond (.t 11)
(S
(F [J 4 (.mv (Z 1))] 1)
.ret)
.skip))
(S
(F [T 13 2,
 D 14 15 3,
 K 15 2 14,
 K 16 29 3,
 R 17 124 13 15 16,
 M 12 17,
 E 18 0 12,
 E 19 1 12,
 J 5 (.alloc 158 [b8 0,aB 0,b8 0,aB 0,b8 0,aB 0,aB 0,b8 0,b8 0,bE 0,i6 0]),
 J 6 (.alloc 4 [(.d (.bool false))]),
 W 11 5 18,
 W 1 6 19] 12)
(S
(F [D 20 14 3,
 T 21 20,
 J 22 (.bin .eql (.t 21) (.k (b8 0))),
 J 7 (.alloc 4 [(.d (.bool false))]),
 W 1 7 22] 5)
(S
(S
(F (J 23 (.uj (.func 125) [] [(.t 3)])::
 J 24 (.fC [i6 0,(.d .gQ)] [(0,1,(Z 2)),(1,1,(.t 23))])::
 J 25 (.uj (.func 126) [] [(.t 2),(.t 3)])::
 J 26 (.fC [i6 0,(.d .gQ)] [(0,1,(Z 271)),(1,1,(.t 25))])::
 J 27 (.uj (.func 128) [] [(.t 7),(.t 6)])::
 J 28 (.fC [i6 0,(.d .gQ)] [(0,1,(Z 272)),(1,1,(.t 27))])::
 J 29 (.uj (.func 129) [] [(.t 7),(.t 5),(.t 3)])::
 J 30 (.fC [i6 0,(.d .gQ)] [(0,1,(Z 273)),(1,1,(.t 29))])::
 J 31 (.uj (.func 130) [] [(.t 5),(.t 3)])::
 J 32 (.fC [i6 0,(.d .gQ)] [(0,1,(Z 274)),(1,1,(.t 31))])::
 J 33 (.uj (.func 132) [] [(.t 3),(.t 2)])::
 J 34 (.fC [i6 0,(.d .gQ)] [(0,1,(Z 275)),(1,1,(.t 33))])::
 J 35 (.uj (.func 134) [] [(.t 2),(.t 3)])::
 J 36 (.fC [i6 0,(.d .gQ)] [(0,1,(Z 276)),(1,1,(.t 35))])::
 J 37 (.fC [i6 0,(.d .gQ),i6 0,(.d .gQ),i6 0,(.d .gQ),i6 0,(.d .gQ),i6 0,(.d .gQ),i6 0,(.d .gQ),i6 0,(.d .gQ)] [(0,2,(.t 24)),(2,2,(.t 26)),(4,2,(.t 28)),(6,2,(.t 30)),(8,2,(.t 32)),(10,2,(.t 34)),(12,2,(.t 36))])::
 J 38 (.mv (Z 0))::[]) 16)
(.block 0
(.loop
(S
(F [Y 39 .lss 38 7] 1)
(S
(.cond (.t 39)
.skip
(.exit 0))
(S
(.block 1
(S
(F [J 40 (.index 7 2 true (.t 37) (.t 38)),
 J 9 (.alloc 171 [i6 0,(.d .gQ)]),
 W 2 9 40] 3)
(S
(F [D 41 1 9,
 T 42 41,
 J 43 (.call (.t 42) [])] 3)
(.cond (.t 43)
(S
(F [D 44 0 9,
 T 45 44,
 M 4 45] 3)
.ret)
.skip))))
(F [Y 46 .add 38 1,
 M 38 46] 2)))))))
(S
(F [J 4 (.mv (Z 0))] 1)
.ret))))))
def rv:List RV:=[.tmp 4]
theorem enter:En Tryz.prog 70 47 s rv:=En.mk (c:= Tryz.f70.body.getD .ret) Tryz.func70
end shape_Shape_Why
namespace dot_Sort
abbrev f:Nat:=77
def s:bP:=(S
(F [J 2 (.mv (.k (.d .aL)))] 1)
(S
(F [M 3 0,
 P 4 139 3,
 P 5 140 4,
 M 2 5] 4)
.ret))
def rv:List RV:=[.tmp 2]
theorem enter:En Tryz.prog 77 6 s rv:=En.mk (c:= Tryz.f77.body.getD .ret) Tryz.func77
end dot_Sort
namespace vector_Covers
abbrev f:Nat:=85
def s:bP:=(S
(F [x 2 39 0,
 x 3 37 1,
 J 4 (.mv (B false))] 3)
(S
(.e_ [K 5 2 3,
 P 6 141 5,
 M 7 6,
 H 8 (.aT 0 (.t 3)) 7 true,
 H 9 (.load none (.t 8)) 7 true,
 H 10 (.jE 8 1 (.t 2) (.t 9)) 7 true,
 H 11 (.load none (.t 10)) 7 true,
 H 12 (.aT 1 (.t 3)) 7 true,
 H 13 (.load none (.t 12)) 7 true,
 H 14 (.bin .geq (.t 11) (.t 13)) 7 true,
 U 15 7 14,
 M 4 15] [0,
1,
3,
7,
15,
31,
63,
7,
135,
511,
1023,
2047] true)
.ret))
def rv:List RV:=[.tmp 4]
theorem enter:En Tryz.prog 85 16 s rv:=En.mk (c:= Tryz.f85.body.getD .ret) Tryz.func85
end vector_Covers
namespace slices_Clone_Lapi_Claim_api_Claim
abbrev f:Nat:=104
def s:bP:=(S
(F [J 2 (.mv (.k (.d .aL)))] 1)
(S
(S
(F [M 3 0,
 J 4 (.iZ false 3 (.t 3))] 2)
(.cond (.t 4)
(S
(F [J 2 (.mv (.k (.d .aL)))] 1)
.ret)
.skip))
(S
(F [J 5 (.mK 148 4 0 [] []),
 M 6 0,
 J 7 (.app 148 4 16 (.t 5) (.t 6)),
 M 2 7] 4)
.ret)))
def rv:List RV:=[.tmp 2]
theorem enter:En Tryz.prog 104 8 s rv:=En.mk (c:= Tryz.f104.body.getD .ret) Tryz.func104
end slices_Clone_Lapi_Claim_api_Claim
namespace slices_Clone_Lapi_Op_api_Op
abbrev f:Nat:=106
def s:bP:=(S
(F [J 2 (.mv (.k (.d .aL)))] 1)
(S
(S
(F [M 3 0,
 J 4 (.iZ false 3 (.t 3))] 2)
(.cond (.t 4)
(S
(F [J 2 (.mv (.k (.d .aL)))] 1)
.ret)
.skip))
(S
(F [J 5 (.mK 43 29 0 [] []),
 M 6 0,
 J 7 (.app 43 29 144 (.t 5) (.t 6)),
 M 2 7] 4)
.ret)))
def rv:List RV:=[.tmp 2]
theorem enter:En Tryz.prog 106 8 s rv:=En.mk (c:= Tryz.f106.body.getD .ret) Tryz.func106
end slices_Clone_Lapi_Op_api_Op
namespace shape_Shape_none
abbrev f:Nat:=115
def s:bP:=(S
(F [J 2 (.mv (B false))] 1)
(S
(F [M 3 0,
 J 4 (.iZ false 0 (.t 3)),
 M 5 4,
 G 6 0 5 false,
 H 7 (.dA (.t 6)) 5 false,
 H 8 (.aT 1 (.t 7)) 5 false,
 H 9 (.load none (.t 8)) 5 false,
 H 10 (.iZ false 1 (.t 9)) 5 false,
 J 11 (.pick (.t 5) (B true) (.t 10)),
 M 2 11] 10)
.ret))
def rv:List RV:=[.tmp 2]
theorem enter:En Tryz.prog 115 12 s rv:=En.mk (c:= Tryz.f115.body.getD .ret) Tryz.func115
end shape_Shape_none
namespace slices_SortedFunc_api_Dot
abbrev f:Nat:=116
def s:bP:=(S
(F [J 4 (.mv (.k (.d .aL)))] 1)
(S
(F [M 6 0,
 P 7 159 6,
 M 5 7] 3)
(S
(F [M 8 5,
 M 9 1,
 Q 10 160 8 9] 3)
(S
(F [M 11 5,
 M 4 11] 2)
.ret))))
def rv:List RV:=[.tmp 4]
theorem enter:En Tryz.prog 116 12 s rv:=En.mk (c:= Tryz.f116.body.getD .ret) Tryz.func116
end slices_SortedFunc_api_Dot
namespace maps_Keys_map_api_Dot_api_Op_api_Dot_api_Op
abbrev f:Nat:=117
def s:bP:=(S
(F [x 1 107 0,
 J 2 (.mv (.k (.d .gQ)))] 2)
(S
(F [J 3 (.uj (.func 161) [] [(.t 1)]),
 M 2 3] 2)
.ret))
def rv:List RV:=[.tmp 2]
theorem enter:En Tryz.prog 117 4 s rv:=En.mk (c:= Tryz.f117.body.getD .ret) Tryz.func117
end maps_Keys_map_api_Dot_api_Op_api_Dot_api_Op
namespace dot_Compare
abbrev f:Nat:=118
def s:bP:=(S
(F [x 2 37 0,
 x 3 37 1,
 J 4 (.mv (Z 0))] 3)
(S
(.e_ [D 5 0 2,
 T 6 5,
 D 7 0 3,
 T 8 7,
 Q 9 148 6 8,
 D 10 1 2,
 T 11 10,
 D 12 1 3,
 T 13 12,
 Q 14 149 11 13,
 J 15 (.mK 3 1 2 [i6 0,i6 0] [(0,1,(.t 9)),(1,1,(.t 14))]),
 P 16 146 15,
 M 4 16] [0,
1,
0,
4,
15,
0,
32,
0,
128,
511,
1023,
2047,
4095] true)
.ret))
def rv:List RV:=[.tmp 4]
theorem enter:En Tryz.prog 118 17 s rv:=En.mk (c:= Tryz.f118.body.getD .ret) Tryz.func118
end dot_Compare
namespace tree_Tree_Get
abbrev f:Nat:=119
def s:bP:=(S
(F [x 3 37 1,
 J 4 (.alloc 158 [b8 0,aB 0,b8 0,aB 0,b8 0,aB 0,aB 0,b8 0,b8 0,bE 0,i6 0]),
 J 5 (.mv (Z 0))] 3)
(S
(S
(F [M 8 0,
 P 9 162 8] 2)
(.cond (.t 9)
(S
(F [J 10 (.fC [b8 0,aB 0,b8 0,aB 0,b8 0,aB 0,aB 0,b8 0,b8 0,bE 0,i6 0] []),
 W 11 4 10,
 J 5 (.mv (Z 1))] 3)
.ret)
.skip))
(S
(.e_ [M 12 0,
 A 13 12,
 D 14 0 13,
 T 15 14,
 K 16 2 3,
 J 17 (.look [true,true] true (.agg [b8 0,aB 0,b8 0,aB 0,b8 0,aB 0,aB 0,b8 0,b8 0,bE 0,i6 0]) (.t 15) (.t 16) true),
 M 11 17,
 E 18 0 11,
 E 19 1 11,
 J 6 (.alloc 158 [b8 0,aB 0,b8 0,aB 0,b8 0,aB 0,aB 0,b8 0,b8 0,bE 0,i6 0]),
 W 11 6 18,
 M 7 19] [0,
1,
3,
7,
0,
31,
63,
127,
127,
0,
767,
2047] true)
(S
(S
(F [M 20 7,
 O 21 20] 2)
(.cond (.t 21)
(S
(F [J 22 (.fC [b8 0,aB 0,b8 0,aB 0,b8 0,aB 0,aB 0,b8 0,b8 0,bE 0,i6 0] []),
 W 11 4 22,
 J 5 (.mv (Z 7))] 3)
.ret)
.skip))
(S
(F [K 23 11 6,
 W 11 4 23,
 J 5 (.mv (Z 0))] 3)
.ret)))))
def rv:List RV:=[.cell 4 (some 11),.tmp 5]
theorem enter:En Tryz.prog 119 24 s rv:=En.mk (c:= Tryz.f119.body.getD .ret) Tryz.func119
end tree_Tree_Get
namespace tree_Tree_up
abbrev f:Nat:=120
def s:bP:=(S
(F [x 2 105 0,
 x 3 37 1,
 J 4 (.mv (.k (.d .gQ)))] 3)
(S
(F [J 5 (.uj (.func 163) [] [(.t 2),(.t 3)]),
 M 4 5] 2)
.ret))
def rv:List RV:=[.tmp 4]
theorem enter:En Tryz.prog 120 6 s rv:=En.mk (c:= Tryz.f120.body.getD .ret) Tryz.func120
end tree_Tree_up
namespace slices_DeleteFunc_Lapi_Op_api_Op
abbrev f:Nat:=121
def s:bP:=(S
(F [J 4 (.mv (.k (.d .aL)))] 1)
(S
(F [M 8 0,
 M 9 1,
 Q 10 164 8 9,
 M 5 10] 4)
(S
(S
(F [M 11 5,
 J 12 (.bin .eql (.t 11) (.k (.d (.int .i64 (-1)))))] 2)
(.cond (.t 12)
(S
(F [M 13 0,
 M 4 13] 2)
.ret)
.skip))
(S
(S
(F [M 14 5,
 Y 15 .add 14 1,
 M 6 15] 3)
(.block 0
(.loop
(S
(S
(F [M 16 6,
 M 17 0,
 L 18 17,
 V 19 .lss 16 18] 4)
(.cond (.t 19)
.skip
(.exit 0)))
(S
(.block 1
(S
(F [M 22 0,
 M 23 6,
 I 24 29 22 23,
 K 25 29 24,
 J 7 (.alloc 43 bH),
 W 29 7 25] 6)
(S
(F [M 26 1,
 K 27 29 7,
 J 28 (.call (.t 26) [(.t 27)]),
 O 29 28] 4)
(.cond (.t 29)
(S
(F [M 30 0,
 M 31 5,
 K 32 29 7,
 I 33 29 30 31,
 W 29 33 32] 5)
(F [M 34 5,
 Y 35 .add 34 1,
 M 5 35] 3))
.skip))))
(F [M 20 6,
 Y 21 .add 20 1,
 M 6 21] 3))))))
(S
(F [M 36 0,
 M 37 5,
 J 38 (.slc 29 (.t 36) (some (.t 37)) none),
 N (.Ns 29 bH (.t 38))] 4)
(S
(F [M 39 0,
 M 40 5,
 J 41 (.slc 29 (.t 39) none (some (.t 40))),
 M 4 41] 4)
.ret))))))
def rv:List RV:=[.tmp 4]
theorem enter:En Tryz.prog 121 42 s rv:=En.mk (c:= Tryz.f121.body.getD .ret) Tryz.func121
end slices_DeleteFunc_Lapi_Op_api_Op
namespace tree_New_1
abbrev f:Nat:=122
def s:bP:=(S
(F [x 2 43 0,
 J 3 (.mv (B false))] 2)
(S
(.e_ [T 4 1,
 D 5 0 2,
 K 6 2 5,
 J 7 (.look [true,true] true (i6 0) (.t 4) (.t 6) false),
 Y 8 .add 7 1,
 J 9 (.tQ [true,true] true (i6 0) (.t 4) (.t 6)),
 E 10 1 9,
 N (.tR (.t 4) (.t 10) (.t 8))] [0,
0,
2,
7,
15,
7,
39,
127] true)
(S
(F [T 11 1,
 D 12 0 2,
 K 13 2 12,
 J 14 (.look [true,true] true (i6 0) (.t 11) (.t 13) false),
 Y 15 .gtr 14 1,
 M 16 15,
 H 17 (.aT 14 (.t 2)) 16 false,
 H 18 (.load none (.t 17)) 16 false,
 H 19 (.bin .gtr (.t 18) (.k (b8 1))) 16 false,
 J 20 (.pick (.t 16) (B true) (.t 19)),
 M 3 20] 11)
.ret)))
def rv:List RV:=[.tmp 3]
theorem enter:En Tryz.prog 122 21 s rv:=En.mk (c:= Tryz.f122.body.getD .ret) Tryz.func122
end tree_New_1
namespace tree_Tree_put
abbrev f:Nat:=123
def s:bP:=(S
(F [x 3 43 1,
 J 4 (.mv (B false))] 2)
(S
(F [D 6 0 3,
 K 7 2 6,
 D 8 0 3,
 K 9 2 8,
 D 10 11 3,
 T 11 10,
 J 12 (.fC [b8 0,aB 0,b8 0,aB 0,b8 0,aB 0,aB 0,b8 0,b8 0,bE 0,i6 0] [(0,2,(.t 7)),(2,2,(.t 9)),(6,1,(.t 11)),(7,1,(.k (b8 7))),(8,1,(.k (b8 8))),(9,1,(.k (bE 1099511627776)))]),
 J 5 (.alloc 158 [b8 0,aB 0,b8 0,aB 0,b8 0,aB 0,aB 0,b8 0,b8 0,bE 0,i6 0]),
 W 11 5 12] 9)
(S
(.block 0
(S
(F (D 14 14 3::
 T 15 14::
 J 16 (.bin .eql (.t 15) (.k (b8 0)))::
 M 17 16::
 H 18 (.aT 12 (.t 3)) 17 true::
 H 19 (.load (some 2) (.t 18)) 17 true::
 H 20 (.aT 0 (.t 3)) 17 true::
 H 21 (.load (some 2) (.t 20)) 17 true::
 H 22 (.eqv true [true,true] (.t 19) (.t 21)) 17 true::
 U 23 17 22::
 M 24 23::
 H 25 (.aT 14 (.t 3)) 24 false::
 H 26 (.load none (.t 25)) 24 false::
 H 27 (.bin .eql (.t 26) (.k (b8 1))) 24 false::
 G 28 27 24 false::
 G 29 0 28 true::
 H 30 (.load (some 29) (.t 3)) 28 true::
 H 31 (.call (C 133) [(.t 29),(.t 30)]) 28 true::
 H 32 (.bin .neq (.t 31) (Z 0)) 28 true::
 H 33 (.pick (.t 28) (.t 32) (B false)) 24 false::
 J 34 (.pick (.t 24) (B true) (.t 33))::
 M 13 34::[]) 22)
(.cond (.t 13)
(S
(F [J 4 (.mv (B false))] 1)
.ret)
(S
(F [D 36 14 3,
 T 37 36,
 J 38 (.bin .eql (.t 37) (.k (b8 1))),
 M 35 38] 4)
(.cond (.t 35)
(.e_ (D 39 0 3::
 K 40 2 39::
 D 41 12 3::
 K 42 2 41::
 D 43 15 3::
 K 44 2 43::
 D 45 17 3::
 T 46 45::
 D 47 18 3::
 T 48 47::
 D 49 19 3::
 T 50 49::
 D 51 20 3::
 T 52 51::
 M 53 0::
 A 54 53::
 D 55 0 54::
 T 56 55::
 D 57 15 3::
 K 58 2 57::
 J 59 (.look [true,true] true (.agg [b8 0,aB 0,b8 0,aB 0,b8 0,aB 0,aB 0,b8 0,b8 0,bE 0,i6 0]) (.t 56) (.t 58) false)::
 J 60 (.field 10 none (.t 59))::
 Y 61 .add 60 1::
 J 62 (.fC [b8 0,aB 0,b8 0,aB 0,b8 0,aB 0,aB 0,b8 0,b8 0,bE 0,i6 0] [(0,2,(.t 40)),(2,2,(.t 42)),(4,2,(.t 44)),(6,1,(.t 46)),(7,1,(.t 48)),(8,1,(.t 50)),(9,1,(.t 52)),(10,1,(.t 61))])::
 W 11 5 62::[]) (0::
1::
0::
4::
0::
16::
0::
64::
0::
256::
0::
1024::
0::
4096::
0::
16384::
49152::
114688::
0::
262144::
1032192::
2080768::
4177920::
8388607::
16777215::[]) true)
.skip)))))
(S
(.e_ (M 63 0::
 A 64 63::
 D 65 0 64::
 T 66 65::
 D 67 0 3::
 K 68 2 67::
 M 69 0::
 A 70 69::
 D 71 1 70::
 T 72 71::
 D 73 0 3::
 K 74 2 73::
 K 75 11 5::
 K 76 29 3::
 J 77 (.tQ [true,true] true (.agg [b8 0,aB 0,b8 0,aB 0,b8 0,aB 0,aB 0,b8 0,b8 0,bE 0,i6 0]) (.t 66) (.t 68))::
 E 78 1 77::
 N (.tR (.t 66) (.t 78) (.t 75))::
 J 79 (.tQ [true,true] true (.agg bH) (.t 72) (.t 74))::
 E 80 1 79::
 N (.tR (.t 72) (.t 80) (.t 76))::[]) (0::
1::
3::
7::
0::
16::
0::
64::
192::
448::
0::
1024::
0::
0::
1023::
17407::
54271::
122879::
253951::
524287::[]) true)
(S
(F [J 4 (.mv (B true))] 1)
.ret)))))
def rv:List RV:=[.tmp 4]
theorem enter:En Tryz.prog 123 81 s rv:=En.mk (c:= Tryz.f123.body.getD .ret) Tryz.func123
end tree_Tree_put
namespace shape_Shape_cred
abbrev f:Nat:=124
def s:bP:=(S
(F [x 4 37 1,
 x 5 43 2,
 J 6 (.alloc 158 [b8 0,aB 0,b8 0,aB 0,b8 0,aB 0,aB 0,b8 0,b8 0,bE 0,i6 0]),
 J 7 (.mv (B false))] 4)
(S
(.e_ [M 11 0,
 A 12 11,
 D 13 0 12,
 T 14 13,
 K 15 2 4,
 Q 16 119 14 15,
 M 10 16,
 E 17 0 10,
 E 18 1 10,
 J 8 (.alloc 158 [b8 0,aB 0,b8 0,aB 0,b8 0,aB 0,aB 0,b8 0,b8 0,bE 0,i6 0]),
 W 11 8 17,
 M 9 18] [0,
1,
3,
7,
0,
31,
63,
127,
127,
0,
767,
2047] true)
(S
(.e_ (K 19 11 8::
 M 20 9::
 Y 21 .eql 20 0::
 M 22 21::
 H 23 (.aT 2 (.t 8)) 22 true::
 H 24 (.load (some 2) (.t 23)) 22 true::
 H 25 (.aT 12 (.t 5)) 22 true::
 H 26 (.load (some 2) (.t 25)) 22 true::
 H 27 (.eqv false [true,true] (.t 24) (.t 26)) 22 true::
 U 28 22 27::
 M 29 28::
 G 30 0 29 true::
 H 31 (.load (some 2) (.t 4)) 29 true::
 H 32 (.load (some 29) (.t 5)) 29 true::
 H 33 (.call (C 165) [(.t 30),(.t 31),(.t 32)]) 29 true::
 U 34 29 33::
 W 11 6 19::
 M 7 34::[]) (0::
0::
2::
6::
14::
30::
14::
78::
254::
510::
1022::
2046::
2046::
2046::
16382::
32766::
32767::
131071::[]) true)
.ret)))
def rv:List RV:=[.cell 6 (some 11),.tmp 7]
theorem enter:En Tryz.prog 124 35 s rv:=En.mk (c:= Tryz.f124.body.getD .ret) Tryz.func124
end shape_Shape_cred
namespace shape_Shape_Why_1
abbrev f:Nat:=125
def s:bP:=(S
(F [J 1 (.mv (B false))] 1)
(S
(F [D 2 14 0,
 T 3 2,
 J 4 (.bin .gtr (.t 3) (.k (b8 8))),
 M 1 4] 4)
.ret))
def rv:List RV:=[.tmp 1]
theorem enter:En Tryz.prog 125 5 s rv:=En.mk (c:= Tryz.f125.body.getD .ret) Tryz.func125
end shape_Shape_Why_1
namespace shape_Shape_Why_2
abbrev f:Nat:=126
def s:bP:=(S
(F [J 2 (.mv (B false))] 1)
(S
(F [T 3 0,
 K 4 29 1,
 Q 5 127 3 4,
 O 6 5,
 M 2 6] 5)
.ret))
def rv:List RV:=[.tmp 2]
theorem enter:En Tryz.prog 126 7 s rv:=En.mk (c:= Tryz.f126.body.getD .ret) Tryz.func126
end shape_Shape_Why_2
namespace shape_Shape_cart
abbrev f:Nat:=127
def s:bP:=(S
(F [x 3 43 1,
 J 4 (.mv (B false))] 2)
(S
(.e_ [M 8 0,
 A 9 8,
 D 10 1 9,
 T 11 10,
 D 12 12 3,
 K 13 2 12,
 J 14 (.look [true,true] true (.agg bH) (.t 11) (.t 13) true),
 M 7 14,
 E 15 0 7,
 E 16 1 7,
 J 5 (.alloc 43 bH),
 W 29 5 15,
 M 6 16] [0,
1,
3,
7,
0,
16,
63,
127,
255,
255,
0,
1535,
4095] true)
(S
(S
(F [D 17 14 3,
 T 18 17,
 J 19 (.bin .eql (.t 18) (.k (b8 0)))] 3)
(.cond (.t 19)
(S
(F [D 20 12 3,
 K 21 2 20,
 D 22 0 3,
 K 23 2 22,
 J 24 (.eqv false [true,true] (.t 21) (.t 23)),
 M 4 24] 6)
.ret)
.skip))
(S
(F (M 25 6::
 M 26 25::
 H 27 (.aT 14 (.t 5)) 26 true::
 H 28 (.load none (.t 27)) 26 true::
 H 29 (.bin .eql (.t 28) (.k (b8 0))) 26 true::
 U 30 26 29::
 M 31 30::
 H 32 (.aT 12 (.t 5)) 31 true::
 H 33 (.load (some 2) (.t 32)) 31 true::
 H 34 (.aT 0 (.t 5)) 31 true::
 H 35 (.load (some 2) (.t 34)) 31 true::
 H 36 (.eqv false [true,true] (.t 33) (.t 35)) 31 true::
 U 37 31 36::
 M 38 37::
 H 39 (.load (some 29) (.t 5)) 38 true::
 H 40 (.load (some 29) (.t 3)) 38 true::
 H 41 (.call (C 137) [(.t 39),(.t 40)]) 38 true::
 U 42 38 41::
 M 4 42::[]) 19)
.ret))))
def rv:List RV:=[.tmp 4]
theorem enter:En Tryz.prog 127 43 s rv:=En.mk (c:= Tryz.f127.body.getD .ret) Tryz.func127
end shape_Shape_cart
namespace shape_Shape_Why_3
abbrev f:Nat:=128
def s:bP:=(S
(F [J 2 (.mv (B false))] 1)
(S
(F [T 3 0,
 O 4 3,
 M 5 4,
 H 6 (.load none (.t 1)) 5 true,
 H 7 (.not (.t 6)) 5 true,
 U 8 5 7,
 M 2 8] 7)
.ret))
def rv:List RV:=[.tmp 2]
theorem enter:En Tryz.prog 128 9 s rv:=En.mk (c:= Tryz.f128.body.getD .ret) Tryz.func128
end shape_Shape_Why_3
namespace shape_Shape_Why_4
abbrev f:Nat:=129
def s:bP:=(S
(F [J 3 (.mv (B false))] 1)
(S
(F [T 4 0,
 O 5 4,
 M 6 5,
 H 7 (.aT 6 (.t 1)) 6 true,
 H 8 (.load none (.t 7)) 6 true,
 H 9 (.aT 11 (.t 2)) 6 true,
 H 10 (.load none (.t 9)) 6 true,
 H 11 (.bin .neq (.t 8) (.t 10)) 6 true,
 U 12 6 11,
 M 3 12] 10)
.ret))
def rv:List RV:=[.tmp 3]
theorem enter:En Tryz.prog 129 13 s rv:=En.mk (c:= Tryz.f129.body.getD .ret) Tryz.func129
end shape_Shape_Why_4
namespace shape_Shape_Why_5
abbrev f:Nat:=130
def s:bP:=(S
(F [J 2 (.mv (B false))] 1)
(S
(.e_ [D 3 7 0,
 T 4 3,
 D 5 14 1,
 T 6 5,
 P 7 131 6,
 V 8 .and 4 7,
 D 9 14 1,
 T 10 9,
 P 11 131 10,
 V 12 .neq 8 11,
 M 2 12] [0,
1,
0,
4,
12,
31,
0,
64,
220,
511,
1023] true)
.ret))
def rv:List RV:=[.tmp 2]
theorem enter:En Tryz.prog 130 13 s rv:=En.mk (c:= Tryz.f130.body.getD .ret) Tryz.func130
end shape_Shape_Why_5
namespace shape_Needs
abbrev f:Nat:=131
def s:bP:=(S
(F [J 2 (.mv (.k (b8 0)))] 1)
(S
(F [J 4 (.fC [b8 0,b8 0,b8 0,b8 0,b8 0,b8 0,b8 0,b8 0,b8 0] [(1,1,(.k (b8 1))),(2,1,(.k (b8 1))),(3,1,(.k (b8 2))),(4,1,(.k (b8 2))),(5,1,(.k (b8 2))),(6,1,(.k (b8 4))),(7,1,(.k (b8 4))),(8,1,(.k (b8 2)))]),
 J 3 (.alloc 195 [b8 0,b8 0,b8 0,b8 0,b8 0,b8 0,b8 0,b8 0,b8 0]),
 W 9 3 4] 3)
(S
(S
(F [M 5 0,
 J 6 (.conv .i64 (.t 5)),
 Y 7 .geq 6 9] 3)
(.cond (.t 7)
(S
(F [J 2 (.mv (.k (b8 0)))] 1)
.ret)
.skip))
(S
(F [M 8 0,
 J 9 (.jE 9 1 (.t 3) (.t 8)),
 T 10 9,
 M 2 10] 4)
.ret))))
def rv:List RV:=[.tmp 2]
theorem enter:En Tryz.prog 131 11 s rv:=En.mk (c:= Tryz.f131.body.getD .ret) Tryz.func131
end shape_Needs
namespace shape_Shape_Why_6
abbrev f:Nat:=132
def s:bP:=(S
(F [J 2 (.mv (B false))] 1)
(S
(.e_ [D 3 14 0,
 T 4 3,
 J 5 (.bin .eql (.t 4) (.k (b8 1))),
 M 6 5,
 H 7 (.load none (.t 1)) 6 true,
 H 8 (.dA (.t 7)) 6 true,
 H 9 (.aT 0 (.t 8)) 6 true,
 H 10 (.load none (.t 9)) 6 true,
 H 11 (.load (some 29) (.t 0)) 6 true,
 H 12 (.call (C 133) [(.t 10),(.t 11)]) 6 true,
 H 13 (.bin .neq (.t 12) (Z 0)) 6 true,
 U 14 6 13,
 M 2 14] [0,
1,
3,
7,
15,
31,
63,
127,
15,
511,
1023,
2047,
4095] true)
.ret))
def rv:List RV:=[.tmp 2]
theorem enter:En Tryz.prog 132 15 s rv:=En.mk (c:= Tryz.f132.body.getD .ret) Tryz.func132
end shape_Shape_Why_6
namespace tree_Tree_Why
abbrev f:Nat:=133
def s:bP:=(S
(F [x 2 105 0,
 x 3 43 1,
 J 4 (.mv (Z 0))] 3)
(S
(S
(F [T 9 2,
 P 10 162 9] 2)
(.cond (.t 10)
(S
(F [J 4 (.mv (Z 1))] 1)
.ret)
.skip))
(S
(.e_ [T 12 2,
 A 13 12,
 D 14 0 13,
 T 15 14,
 D 16 15 3,
 K 17 2 16,
 J 18 (.look [true,true] true (.agg [b8 0,aB 0,b8 0,aB 0,b8 0,aB 0,aB 0,b8 0,b8 0,bE 0,i6 0]) (.t 15) (.t 17) true),
 M 11 18,
 E 19 0 11,
 E 20 1 11,
 J 5 (.alloc 158 [b8 0,aB 0,b8 0,aB 0,b8 0,aB 0,aB 0,b8 0,b8 0,bE 0,i6 0]),
 J 6 (.alloc 4 [(.d (.bool false))]),
 W 11 5 19,
 W 1 6 20] [0,
1,
3,
7,
0,
16,
63,
127,
255,
255,
0,
0,
3583,
8191] true)
(S
(S
(F [J 21 (.uj (.func 166) [] [(.t 3)]),
 J 22 (.fC [i6 0,(.d .gQ)] [(0,1,(Z 2)),(1,1,(.t 21))]),
 J 23 (.uj (.func 167) [] [(.t 6),(.t 5),(.t 3),(.t 2)]),
 J 24 (.fC [i6 0,(.d .gQ)] [(0,1,(Z 272)),(1,1,(.t 23))]),
 J 25 (.uj (.func 168) [] [(.t 5),(.t 3)]),
 J 26 (.fC [i6 0,(.d .gQ)] [(0,1,(Z 273)),(1,1,(.t 25))]),
 J 27 (.uj (.func 169) [] [(.t 5)]),
 J 28 (.fC [i6 0,(.d .gQ)] [(0,1,(Z 274)),(1,1,(.t 27))]),
 J 29 (.uj (.func 170) [] [(.t 3),(.t 5)]),
 J 30 (.fC [i6 0,(.d .gQ)] [(0,1,(Z 275)),(1,1,(.t 29))]),
 J 31 (.fC [i6 0,(.d .gQ),i6 0,(.d .gQ),i6 0,(.d .gQ),i6 0,(.d .gQ),i6 0,(.d .gQ)] [(0,2,(.t 22)),(2,2,(.t 24)),(4,2,(.t 26)),(6,2,(.t 28)),(8,2,(.t 30))]),
 J 32 (.mv (Z 0))] 12)
(.block 0
(.loop
(S
(F [Y 33 .lss 32 5] 1)
(S
(.cond (.t 33)
.skip
(.exit 0))
(S
(.block 1
(S
(F [J 34 (.index 5 2 true (.t 31) (.t 32)),
 J 8 (.alloc 197 [i6 0,(.d .gQ)]),
 W 2 8 34] 3)
(S
(F [D 35 1 8,
 T 36 35,
 J 37 (.call (.t 36) [])] 3)
(.cond (.t 37)
(S
(F [D 38 0 8,
 T 39 38,
 M 4 39] 3)
.ret)
.skip))))
(F [Y 40 .add 32 1,
 M 32 40] 2)))))))
(S
(F [J 4 (.mv (Z 0))] 1)
.ret)))))
def rv:List RV:=[.tmp 4]
theorem enter:En Tryz.prog 133 41 s rv:=En.mk (c:= Tryz.f133.body.getD .ret) Tryz.func133
end tree_Tree_Why
namespace shape_Shape_Why_7
abbrev f:Nat:=134
def s:bP:=(S
(F [J 2 (.mv (B false))] 1)
(S
(F [T 3 0,
 K 4 29 1,
 Q 5 135 3 4,
 O 6 5,
 M 2 6] 5)
.ret))
def rv:List RV:=[.tmp 2]
theorem enter:En Tryz.prog 134 7 s rv:=En.mk (c:= Tryz.f134.body.getD .ret) Tryz.func134
end shape_Shape_Why_7
namespace shape_Shape_target
abbrev f:Nat:=135
def s:bP:=(S
(F [x 2 29 0,
 x 3 43 1,
 J 4 (.mv (B false))] 3)
(S
(S
(F [D 7 14 3,
 T 8 7] 2)
(.block 0
(S
(F [J 10 (.bin .eql (.t 8) (.k (b8 2))),
 M 9 10] 2)
(.cond (.t 9)
(S
(F [T 12 2,
 D 13 21 3,
 K 14 2 13,
 K 15 29 3,
 R 16 124 12 14 15,
 M 11 16,
 E 17 0 11,
 E 18 1 11,
 J 5 (.alloc 158 [b8 0,aB 0,b8 0,aB 0,b8 0,aB 0,aB 0,b8 0,b8 0,bE 0,i6 0]),
 W 11 5 17,
 M 6 18] 11)
(S
(.e_ [M 19 6,
 M 20 19,
 H 21 (.load none (.t 2)) 20 true,
 H 22 (.dA (.t 21)) 20 true,
 H 23 (.aT 0 (.t 22)) 20 true,
 H 24 (.load none (.t 23)) 20 true,
 H 25 (.aT 15 (.t 3)) 20 true,
 H 26 (.load (some 2) (.t 25)) 20 true,
 H 27 (.aT 21 (.t 3)) 20 true,
 H 28 (.load (some 2) (.t 27)) 20 true,
 H 29 (.call (C 171) [(.t 24),(.t 26),(.t 28)]) 20 true,
 U 30 20 29,
 M 4 30] [0,
1,
3,
7,
15,
31,
3,
67,
3,
259,
1023,
2047,
4095] true)
.ret))
(S
(S
(F [J 32 (.bin .eql (.t 8) (.k (b8 4))),
 M 31 32] 2)
(.cond (.t 31)
.skip
(F [J 33 (.bin .eql (.t 8) (.k (b8 5))),
 M 31 33] 2)))
(.cond (.t 31)
(S
(F [T 34 2,
 D 35 21 3,
 K 36 2 35,
 K 37 29 3,
 R 38 172 34 36 37,
 M 4 38] 6)
.ret)
(S
(S
(F [J 40 (.bin .eql (.t 8) (.k (b8 6))),
 M 39 40] 2)
(.cond (.t 39)
.skip
(F [J 41 (.bin .eql (.t 8) (.k (b8 7))),
 M 39 41] 2)))
(.cond (.t 39)
(S
(F [T 42 2,
 D 43 21 3,
 K 44 2 43,
 D 45 23 3,
 K 46 2 45,
 J 47 (.fC [b8 0,aB 0,b8 0,aB 0] [(0,2,(.t 44)),(2,2,(.t 46))]),
 K 48 29 3,
 R 49 173 42 47 48,
 M 4 49] 9)
.ret)
(S
(F [J 51 (.bin .eql (.t 8) (.k (b8 8))),
 M 50 51] 2)
(.cond (.t 50)
(S
(F [D 52 28 3,
 T 53 52,
 J 54 (.uj (.func 175) [] [(.t 2),(.t 3)]),
 Q 55 174 53 54,
 O 56 55,
 M 4 56] 6)
.ret)
.skip))))))))))
(S
(F [J 4 (.mv (B true))] 1)
.ret)))
def rv:List RV:=[.tmp 4]
theorem enter:En Tryz.prog 135 57 s rv:=En.mk (c:= Tryz.f135.body.getD .ret) Tryz.func135
end shape_Shape_target
namespace order_Before
abbrev f:Nat:=137
def s:bP:=(S
(F [x 2 43 0,
 x 3 43 1,
 J 4 (.mv (B false))] 3)
(S
(F [D 5 2 3,
 K 6 8 5,
 D 7 0 2,
 K 8 2 7,
 Q 9 85 6 8,
 M 4 9] 6)
.ret))
def rv:List RV:=[.tmp 4]
theorem enter:En Tryz.prog 137 10 s rv:=En.mk (c:= Tryz.f137.body.getD .ret) Tryz.func137
end order_Before
namespace dot_setOf
abbrev f:Nat:=139
def s:bP:=(S
(F [J 2 (.mv (.k (.d .gP)))] 1)
(S
(F [J 6 (.Bn),
 M 3 6] 2)
(S
(S
(F [M 7 0,
 L 8 7,
 J 9 (.mv (Z 0))] 3)
(.block 0
(.loop
(S
(F [V 10 .lss 9 8] 1)
(S
(.cond (.t 10)
.skip
(.exit 0))
(S
(.block 1
(S
(F [I 11 2 7 9,
 K 12 2 11,
 J 5 (.alloc 37 [b8 0,aB 0]),
 W 2 5 12] 4)
(F [M 13 3,
 K 14 2 5,
 N (.ru [true,true] true (.t 13) (.t 14) (Z 1))] 3)))
(F [Y 15 .add 9 1,
 M 9 15] 2)))))))
(S
(F [M 16 3,
 M 2 16] 2)
.ret))))
def rv:List RV:=[.tmp 2]
theorem enter:En Tryz.prog 139 17 s rv:=En.mk (c:= Tryz.f139.body.getD .ret) Tryz.func139
end dot_setOf
namespace dot_set_list
abbrev f:Nat:=140
def s:bP:=(S
(F [J 2 (.mv (.k (.d .aL)))] 1)
(S
(F [M 3 0,
 P 4 177 3,
 J 5 (.call (C 116) [(.t 4),(C 118)]),
 M 2 5] 4)
.ret))
def rv:List RV:=[.tmp 2]
theorem enter:En Tryz.prog 140 6 s rv:=En.mk (c:= Tryz.f140.body.getD .ret) Tryz.func140
end dot_set_list
namespace dot_May
abbrev f:Nat:=141
def s:bP:=(S
(F [x 1 37 0,
 J 2 (.mv (B false))] 2)
(S
(F [D 3 0 1,
 T 4 3,
 J 5 (.bin .lss (.t 4) (.k (b8 8))),
 M 6 5,
 H 7 (.aT 1 (.t 1)) 6 true,
 H 8 (.load none (.t 7)) 6 true,
 H 9 (.bin .gtr (.t 8) (.k (aB 0))) 6 true,
 U 10 6 9,
 M 2 10] 9)
.ret))
def rv:List RV:=[.tmp 2]
theorem enter:En Tryz.prog 141 11 s rv:=En.mk (c:= Tryz.f141.body.getD .ret) Tryz.func141
end dot_May
namespace cmp_Or_int
abbrev f:Nat:=146
def s:bP:=(S
(F [J 2 (.mv (Z 0))] 1)
(S
(F [J 3 (.mv (Z 0))] 1)
(S
(S
(F [M 6 0,
 L 7 6,
 J 8 (.mv (Z 0))] 3)
(.block 0
(.loop
(S
(F [V 9 .lss 8 7] 1)
(S
(.cond (.t 9)
.skip
(.exit 0))
(S
(.block 1
(S
(F [I 10 1 6 8,
 T 11 10,
 M 5 11] 3)
(S
(F [M 12 5,
 M 13 3,
 V 14 .neq 12 13] 3)
(.cond (.t 14)
(S
(F [M 15 5,
 M 2 15] 2)
.ret)
.skip))))
(F [Y 16 .add 8 1,
 M 8 16] 2)))))))
(S
(F [M 17 3,
 M 2 17] 2)
.ret))))
def rv:List RV:=[.tmp 2]
theorem enter:En Tryz.prog 146 18 s rv:=En.mk (c:= Tryz.f146.body.getD .ret) Tryz.func146
end cmp_Or_int
namespace cmp_Compare_uint8
abbrev f:Nat:=148
def s:bP:=(S
(F [J 4 (.mv (Z 0))] 1)
(S
(F [M 7 0,
 P 8 179 7,
 M 5 8] 3)
(S
(F [M 9 1,
 P 10 179 9,
 M 6 10] 3)
(S
(S
(F [M 11 5] 1)
(.cond (.t 11)
(S
(S
(F [M 12 6] 1)
(.cond (.t 12)
(S
(F [J 4 (.mv (Z 0))] 1)
.ret)
.skip))
(S
(F [J 4 (.mv (.k (.d (.int .i64 (-1)))))] 1)
.ret))
.skip))
(S
(S
(F [M 13 6] 1)
(.cond (.t 13)
(S
(F [J 4 (.mv (Z 1))] 1)
.ret)
.skip))
(S
(S
(F [M 14 0,
 M 15 1,
 V 16 .lss 14 15] 3)
(.cond (.t 16)
(S
(F [J 4 (.mv (.k (.d (.int .i64 (-1)))))] 1)
.ret)
.skip))
(S
(S
(F [M 17 0,
 M 18 1,
 V 19 .gtr 17 18] 3)
(.cond (.t 19)
(S
(F [J 4 (.mv (Z 1))] 1)
.ret)
.skip))
(S
(F [J 4 (.mv (Z 0))] 1)
.ret))))))))
def rv:List RV:=[.tmp 4]
theorem enter:En Tryz.prog 148 20 s rv:=En.mk (c:= Tryz.f148.body.getD .ret) Tryz.func148
end cmp_Compare_uint8
namespace cmp_Compare_uint32
abbrev f:Nat:=149
def s:bP:=(S
(F [J 4 (.mv (Z 0))] 1)
(S
(F [M 7 0,
 P 8 180 7,
 M 5 8] 3)
(S
(F [M 9 1,
 P 10 180 9,
 M 6 10] 3)
(S
(S
(F [M 11 5] 1)
(.cond (.t 11)
(S
(S
(F [M 12 6] 1)
(.cond (.t 12)
(S
(F [J 4 (.mv (Z 0))] 1)
.ret)
.skip))
(S
(F [J 4 (.mv (.k (.d (.int .i64 (-1)))))] 1)
.ret))
.skip))
(S
(S
(F [M 13 6] 1)
(.cond (.t 13)
(S
(F [J 4 (.mv (Z 1))] 1)
.ret)
.skip))
(S
(S
(F [M 14 0,
 M 15 1,
 V 16 .lss 14 15] 3)
(.cond (.t 16)
(S
(F [J 4 (.mv (.k (.d (.int .i64 (-1)))))] 1)
.ret)
.skip))
(S
(S
(F [M 17 0,
 M 18 1,
 V 19 .gtr 17 18] 3)
(.cond (.t 19)
(S
(F [J 4 (.mv (Z 1))] 1)
.ret)
.skip))
(S
(F [J 4 (.mv (Z 0))] 1)
.ret))))))))
def rv:List RV:=[.tmp 4]
theorem enter:En Tryz.prog 149 20 s rv:=En.mk (c:= Tryz.f149.body.getD .ret) Tryz.func149
end cmp_Compare_uint32
namespace slices_Collect_api_Dot
abbrev f:Nat:=159
def s:bP:=(S
(F [J 2 (.mv (.k (.d .aL)))] 1)
(S
(F [M 3 0,
 J 4 (.call (C 189) [(.k (.d .aL)),(.t 3)]),
 M 2 4] 3)
.ret))
def rv:List RV:=[.tmp 2]
theorem enter:En Tryz.prog 159 5 s rv:=En.mk (c:= Tryz.f159.body.getD .ret) Tryz.func159
end slices_Collect_api_Dot
namespace slices_SortFunc_Lapi_Dot_api_Dot
abbrev f:Nat:=160
end slices_SortFunc_Lapi_Dot_api_Dot
namespace maps_Keys_map_api_Dot_api_Op_api_Dot_api_Op_1
abbrev f:Nat:=161
def s:bP:=(S
(F [T 4 1,
 J 5 (.mq (.t 4))] 2)
(.block 0
(.loop
(S
(F [J 6 (.kQ (.t 5)),
 E 7 0 6] 2)
(S
(.cond (.t 7)
.skip
(.exit 0))
(.block 1
(S
(F [J 8 (.nv (.t 5)),
 E 9 0 8,
 J 3 (.alloc 37 [b8 0,aB 0]),
 W 2 3 9] 4)
(S
(F [M 10 0,
 K 11 2 3,
 J 12 (.call (.t 10) [(.t 11)]),
 O 13 12] 4)
(.cond (.t 13)
.ret
.skip)))))))))
def rv:List RV:=[]
theorem enter:En Tryz.prog 161 14 s rv:=En.mk (c:= Tryz.f161.body.getD .ret) Tryz.func161
end maps_Keys_map_api_Dot_api_Op_api_Dot_api_Op_1
namespace tree_Tree_none
abbrev f:Nat:=162
def s:bP:=(S
(F [J 2 (.mv (B false))] 1)
(S
(F [M 3 0,
 J 4 (.iZ false 0 (.t 3)),
 M 5 4,
 G 6 0 5 false,
 H 7 (.dA (.t 6)) 5 false,
 H 8 (.aT 0 (.t 7)) 5 false,
 H 9 (.load none (.t 8)) 5 false,
 H 10 (.iZ false 1 (.t 9)) 5 false,
 J 11 (.pick (.t 5) (B true) (.t 10)),
 M 2 11] 10)
.ret))
def rv:List RV:=[.tmp 2]
theorem enter:En Tryz.prog 162 12 s rv:=En.mk (c:= Tryz.f162.body.getD .ret) Tryz.func162
end tree_Tree_none
namespace tree_Tree_up_1
abbrev f:Nat:=163
def s:bP:=(S
(.e_ [T 7 1,
 A 8 7,
 D 9 0 8,
 T 10 9,
 K 11 2 2,
 J 12 (.look [true,true] true (.agg [b8 0,aB 0,b8 0,aB 0,b8 0,aB 0,aB 0,b8 0,b8 0,bE 0,i6 0]) (.t 10) (.t 11) true),
 M 6 12,
 E 13 0 6,
 E 14 1 6,
 J 4 (.alloc 158 [b8 0,aB 0,b8 0,aB 0,b8 0,aB 0,aB 0,b8 0,b8 0,bE 0,i6 0]),
 W 11 4 13,
 M 5 14] [0,
1,
3,
7,
0,
31,
63,
127,
127,
0,
767,
2047] true)
(.block 0
(.loop
(S
(S
(F [M 15 5,
 M 16 15,
 G 17 0 16 true,
 H 18 (.load (some 11) (.t 4)) 16 true,
 H 19 (.call (.t 17) [(.t 18)]) 16 true,
 U 20 16 19,
 M 21 20,
 H 22 (.aT 10 (.t 4)) 21 true,
 H 23 (.load none (.t 22)) 21 true,
 H 24 (.bin .gtr (.t 23) (Z 0)) 21 true,
 U 25 21 24] 11)
(.cond (.t 25)
.skip
(.exit 0)))
(S
(.block 1
(.e_ [T 27 1,
 A 28 27,
 D 29 0 28,
 T 30 29,
 D 31 4 4,
 K 32 2 31,
 J 33 (.look [true,true] true (.agg [b8 0,aB 0,b8 0,aB 0,b8 0,aB 0,aB 0,b8 0,b8 0,bE 0,i6 0]) (.t 30) (.t 32) true),
 M 26 33,
 E 34 0 26,
 E 35 1 26,
 W 11 4 34,
 M 5 35] [0,
1,
3,
7,
0,
16,
63,
127,
255,
255,
511,
2047] true))
(S
(F [K 36 11 4] 1)
(F [J 4 (.alloc 158 [b8 0,aB 0,b8 0,aB 0,b8 0,aB 0,aB 0,b8 0,b8 0,bE 0,i6 0]),
 W 11 4 36] 2)))))))
def rv:List RV:=[]
theorem enter:En Tryz.prog 163 37 s rv:=En.mk (c:= Tryz.f163.body.getD .ret) Tryz.func163
end tree_Tree_up_1
namespace slices_IndexFunc_Lapi_Op_api_Op
abbrev f:Nat:=164
def s:bP:=(S
(F [J 4 (.mv (Z 0))] 1)
(S
(S
(F [M 6 0,
 L 7 6,
 J 8 (.mv (Z 0))] 3)
(.block 0
(.loop
(S
(F [V 9 .lss 8 7] 1)
(S
(.cond (.t 9)
.skip
(.exit 0))
(S
(.block 1
(S
(F [M 10 8,
 M 5 10] 2)
(S
(F [M 11 1,
 M 12 0,
 M 13 5,
 I 14 29 12 13,
 K 15 29 14,
 J 16 (.call (.t 11) [(.t 15)])] 6)
(.cond (.t 16)
(S
(F [M 17 5,
 M 4 17] 2)
.ret)
.skip))))
(F [Y 18 .add 8 1,
 M 8 18] 2)))))))
(S
(F [J 4 (.mv (.k (.d (.int .i64 (-1)))))] 1)
.ret)))
def rv:List RV:=[.tmp 4]
theorem enter:En Tryz.prog 164 19 s rv:=En.mk (c:= Tryz.f164.body.getD .ret) Tryz.func164
end slices_IndexFunc_Lapi_Op_api_Op
namespace shape_Shape_before
abbrev f:Nat:=165
def s:bP:=(S
(F [x 4 37 1,
 x 5 43 2,
 J 6 (.mv (B false))] 3)
(S
(.e_ [M 10 0,
 A 11 10,
 D 12 1 11,
 T 13 12,
 K 14 2 4,
 J 15 (.look [true,true] true (.agg bH) (.t 13) (.t 14) true),
 M 9 15,
 E 16 0 9,
 E 17 1 9,
 J 7 (.alloc 43 bH),
 W 29 7 16,
 M 8 17] [0,
1,
3,
7,
0,
31,
63,
127,
127,
0,
767,
2047] true)
(S
(F [M 18 8,
 M 19 18,
 H 20 (.load (some 29) (.t 7)) 19 true,
 H 21 (.load (some 29) (.t 5)) 19 true,
 H 22 (.call (C 137) [(.t 20),(.t 21)]) 19 true,
 U 23 19 22,
 M 6 23] 7)
.ret)))
def rv:List RV:=[.tmp 6]
theorem enter:En Tryz.prog 165 24 s rv:=En.mk (c:= Tryz.f165.body.getD .ret) Tryz.func165
end shape_Shape_before
namespace tree_Tree_Why_1
abbrev f:Nat:=166
def s:bP:=(S
(F [J 1 (.mv (B false))] 1)
(S
(F [D 2 14 0,
 T 3 2,
 J 4 (.bin .neq (.t 3) (.k (b8 1))),
 M 1 4] 4)
.ret))
def rv:List RV:=[.tmp 1]
theorem enter:En Tryz.prog 166 5 s rv:=En.mk (c:= Tryz.f166.body.getD .ret) Tryz.func166
end tree_Tree_Why_1
namespace tree_Tree_Why_2
abbrev f:Nat:=167
def s:bP:=(S
(F [J 4 (.mv (B false))] 1)
(S
(.e_ (T 5 0::
 O 6 5::
 M 7 6::
 H 8 (.aT 2 (.t 1)) 7 false::
 H 9 (.load (some 2) (.t 8)) 7 false::
 H 10 (.aT 12 (.t 2)) 7 false::
 H 11 (.load (some 2) (.t 10)) 7 false::
 H 12 (.eqv true [true,true] (.t 9) (.t 11)) 7 false::
 J 13 (.pick (.t 7) (B true) (.t 12))::
 M 14 13::
 H 15 (.load none (.t 3)) 14 false::
 H 16 (.dA (.t 15)) 14 false::
 H 17 (.aT 1 (.t 16)) 14 false::
 H 18 (.load none (.t 17)) 14 false::
 H 19 (.aT 15 (.t 2)) 14 false::
 H 20 (.load (some 2) (.t 19)) 14 false::
 H 21 (.look [true,true] true (.agg bH) (.t 18) (.t 20) false) 14 false::
 H 22 (.load (some 29) (.t 2)) 14 false::
 H 23 (.call (C 137) [(.t 21),(.t 22)]) 14 false::
 H 24 (.not (.t 23)) 14 false::
 J 25 (.pick (.t 14) (B true) (.t 24))::
 M 4 25::[]) (0::
1::
3::
7::
15::
7::
39::
127::
255::
511::
1023::
2047::
4095::
8191::
1023::
17407::
65535::
1023::
262143::
524287::
1048575::
2097151::[]) true)
.ret))
def rv:List RV:=[.tmp 4]
theorem enter:En Tryz.prog 167 26 s rv:=En.mk (c:= Tryz.f167.body.getD .ret) Tryz.func167
end tree_Tree_Why_2
namespace tree_Tree_Why_3
abbrev f:Nat:=168
def s:bP:=(S
(F [J 2 (.mv (B false))] 1)
(S
(F [D 3 6 0,
 T 4 3,
 D 5 11 1,
 T 6 5,
 V 7 .neq 4 6,
 M 2 7] 6)
.ret))
def rv:List RV:=[.tmp 2]
theorem enter:En Tryz.prog 168 8 s rv:=En.mk (c:= Tryz.f168.body.getD .ret) Tryz.func168
end tree_Tree_Why_3
namespace tree_Tree_Why_4
abbrev f:Nat:=169
def s:bP:=(S
(F [J 1 (.mv (B false))] 1)
(S
(F [D 2 7 0,
 T 3 2,
 J 4 (.bin .and (.t 3) (.k (b8 1))),
 J 5 (.bin .eql (.t 4) (.k (b8 0))),
 M 1 5] 5)
.ret))
def rv:List RV:=[.tmp 1]
theorem enter:En Tryz.prog 169 6 s rv:=En.mk (c:= Tryz.f169.body.getD .ret) Tryz.func169
end tree_Tree_Why_4
namespace tree_Tree_Why_5
abbrev f:Nat:=170
def s:bP:=(S
(F [J 2 (.mv (B false))] 1)
(S
(F (D 3 18 0::
 T 4 3::
 J 5 (.bin .eql (.t 4) (.k (b8 0)))::
 M 6 5::
 H 7 (.aT 18 (.t 0)) 6 false::
 H 8 (.load none (.t 7)) 6 false::
 H 9 (.aT 7 (.t 1)) 6 false::
 H 10 (.load none (.t 9)) 6 false::
 H 11 (.bin .andNot (.t 8) (.t 10)) 6 false::
 H 12 (.bin .neq (.t 11) (.k (b8 0))) 6 false::
 J 13 (.pick (.t 6) (B true) (.t 12))::
 M 14 13::
 H 15 (.aT 17 (.t 0)) 14 false::
 H 16 (.load none (.t 15)) 14 false::
 H 17 (.bin .eql (.t 16) (.k (aB 0))) 14 false::
 J 18 (.pick (.t 14) (B true) (.t 17))::
 M 19 18::
 H 20 (.aT 19 (.t 0)) 19 false::
 H 21 (.load none (.t 20)) 19 false::
 H 22 (.aT 8 (.t 1)) 19 false::
 H 23 (.load none (.t 22)) 19 false::
 H 24 (.bin .geq (.t 21) (.t 23)) 19 false::
 J 25 (.pick (.t 19) (B true) (.t 24))::
 M 26 25::
 H 27 (.aT 20 (.t 0)) 26 false::
 H 28 (.load none (.t 27)) 26 false::
 H 29 (.aT 9 (.t 1)) 26 false::
 H 30 (.load none (.t 29)) 26 false::
 H 31 (.bin .gtr (.t 28) (.t 30)) 26 false::
 J 32 (.pick (.t 26) (B true) (.t 31))::
 M 2 32::[]) 31)
.ret))
def rv:List RV:=[.tmp 2]
theorem enter:En Tryz.prog 170 33 s rv:=En.mk (c:= Tryz.f170.body.getD .ret) Tryz.func170
end tree_Tree_Why_5
namespace tree_Tree_Above
abbrev f:Nat:=171
def s:bP:=(S
(F [x 4 37 1,
 x 5 37 2,
 J 6 (.alloc 4 [(.d (.bool false))])] 3)
(S
(S
(F [M 8 0,
 P 9 162 8,
 M 10 9,
 H 11 (.load (some 2) (.t 4)) 10 false,
 H 12 (.load (some 2) (.t 5)) 10 false,
 H 13 (.eqv false [true,true] (.t 11) (.t 12)) 10 false,
 J 14 (.pick (.t 10) (B true) (.t 13))] 7)
(.cond (.t 14)
(S
(F [N (.store 1 (.t 6) (B false))] 1)
.ret)
.skip))
(S
(S
(F [M 15 0,
 K 16 2 5,
 Q 17 120 15 16] 3)
(.block 0
(.sU (.t 17) [18]
(F [J 7 (.alloc 158 [b8 0,aB 0,b8 0,aB 0,b8 0,aB 0,aB 0,b8 0,b8 0,bE 0,i6 0]),
 W 11 7 18] 2)
(.block 1
(S
(F [D 19 0 7,
 K 20 2 19,
 K 21 2 4,
 J 22 (.eqv false [true,true] (.t 20) (.t 21))] 4)
(.cond (.t 22)
(S
(F [N (.store 1 (.t 6) (B true))] 1)
.ret)
.skip))))))
(S
(F [N (.store 1 (.t 6) (B false))] 1)
.ret))))
def rv:List RV:=[.cell 6 none]
theorem enter:En Tryz.prog 171 23 s rv:=En.mk (c:= Tryz.f171.body.getD .ret) Tryz.func171
end tree_Tree_Above
namespace shape_Shape_line
abbrev f:Nat:=172
def s:bP:=(S
(F [x 4 37 1,
 x 5 43 2,
 J 6 (.mv (B false))] 3)
(S
(.e_ (M 7 0::
 A 8 7::
 D 9 2 8::
 T 10 9::
 K 11 2 4::
 J 12 (.look [true,true] true (i6 0) (.t 10) (.t 11) false)::
 Y 13 .gtr 12 0::
 M 14 13::
 G 15 0 14 true::
 H 16 (.dA (.t 15)) 14 true::
 H 17 (.aT 1 (.t 16)) 14 true::
 H 18 (.load none (.t 17)) 14 true::
 H 19 (.load (some 2) (.t 4)) 14 true::
 H 20 (.look [true,true] true (.agg bH) (.t 18) (.t 19) false) 14 true::
 H 21 (.field 12 (some 2) (.t 20)) 14 true::
 H 22 (.aT 12 (.t 5)) 14 true::
 H 23 (.load (some 2) (.t 22)) 14 true::
 H 24 (.eqv false [true,true] (.t 21) (.t 23)) 14 true::
 U 25 14 24::
 M 26 25::
 G 27 0 26 true::
 H 28 (.load (some 2) (.t 4)) 26 true::
 H 29 (.load (some 29) (.t 5)) 26 true::
 H 30 (.call (C 165) [(.t 27),(.t 28),(.t 29)]) 26 true::
 U 31 26 30::
 M 6 31::[]) (0::
1::
3::
7::
0::
31::
63::
127::
255::
511::
1023::
2047::
255::
8191::
16383::
255::
33023::
131071::
262143::
524287::
1048575::
1048575::
1048575::
8388607::
16777215::
33554431::[]) true)
.ret))
def rv:List RV:=[.tmp 6]
theorem enter:En Tryz.prog 172 32 s rv:=En.mk (c:= Tryz.f172.body.getD .ret) Tryz.func172
end shape_Shape_line
namespace shape_Shape_claim
abbrev f:Nat:=173
def s:bP:=(S
(F [x 4 148 1,
 x 5 43 2,
 J 6 (.mv (B false))] 3)
(S
(.e_ [M 10 0,
 A 11 10,
 D 12 3 11,
 T 13 12,
 D 14 2 4,
 K 15 2 14,
 J 16 (.look [true,true] true (.agg [b8 0,aB 0]) (.t 13) (.t 15) true),
 M 9 16,
 E 17 0 9,
 E 18 1 9,
 J 7 (.alloc 37 [b8 0,aB 0]),
 W 2 7 17,
 M 8 18] [0,
1,
3,
7,
0,
16,
63,
127,
255,
255,
0,
1535,
4095] true)
(S
(F (M 19 0::
 D 20 0 4::
 K 21 2 20::
 K 22 29 5::
 R 23 172 19 21 22::
 M 24 23::
 H 25 (.aT 2 (.t 4)) 24 true::
 H 26 (.load (some 2) (.t 25)) 24 true::
 H 27 (.aT 0 (.t 4)) 24 true::
 H 28 (.load (some 2) (.t 27)) 24 true::
 H 29 (.eqv false [true,true] (.t 26) (.t 28)) 24 true::
 G 30 29 24 true::
 G 31 8 30 false::
 G 32 31 30 false::
 H 33 (.load (some 2) (.t 7)) 32 true::
 H 34 (.aT 0 (.t 4)) 32 true::
 H 35 (.load (some 2) (.t 34)) 32 true::
 H 36 (.eqv false [true,true] (.t 33) (.t 35)) 32 true::
 H 37 (.pick (.t 32) (.t 36) (B false)) 30 false::
 G 38 37 30 false::
 G 39 0 38 true::
 H 40 (.aT 2 (.t 4)) 38 true::
 H 41 (.load (some 2) (.t 40)) 38 true::
 H 42 (.load (some 29) (.t 5)) 38 true::
 H 43 (.call (C 165) [(.t 39),(.t 41),(.t 42)]) 38 true::
 H 44 (.pick (.t 38) (.t 43) (B false)) 30 false::
 H 45 (.pick (.t 30) (B true) (.t 44)) 24 true::
 U 46 24 45::
 M 6 46::[]) 29)
.ret)))
def rv:List RV:=[.tmp 6]
theorem enter:En Tryz.prog 173 47 s rv:=En.mk (c:= Tryz.f173.body.getD .ret) Tryz.func173
end shape_Shape_claim
namespace slices_ContainsFunc_Lapi_Claim_api_Claim
abbrev f:Nat:=174
def s:bP:=(S
(F [J 4 (.mv (B false))] 1)
(S
(F [M 5 0,
 M 6 1,
 Q 7 192 5 6,
 Y 8 .geq 7 0,
 M 4 8] 5)
.ret))
def rv:List RV:=[.tmp 4]
theorem enter:En Tryz.prog 174 9 s rv:=En.mk (c:= Tryz.f174.body.getD .ret) Tryz.func174
end slices_ContainsFunc_Lapi_Claim_api_Claim
namespace shape_Shape_target_1
abbrev f:Nat:=175
def s:bP:=(S
(F [x 3 148 0,
 J 4 (.mv (B false))] 2)
(S
(F [T 5 1,
 K 6 4 3,
 K 7 29 2,
 R 8 173 5 6 7,
 O 9 8,
 M 4 9] 6)
.ret))
def rv:List RV:=[.tmp 4]
theorem enter:En Tryz.prog 175 10 s rv:=En.mk (c:= Tryz.f175.body.getD .ret) Tryz.func175
end shape_Shape_target_1
namespace maps_Keys_dot_set_api_Dot_int
abbrev f:Nat:=177
def s:bP:=(S
(F [x 1 174 0,
 J 2 (.mv (.k (.d .gQ)))] 2)
(S
(F [J 3 (.uj (.func 194) [] [(.t 1)]),
 M 2 3] 2)
.ret))
def rv:List RV:=[.tmp 2]
theorem enter:En Tryz.prog 177 4 s rv:=En.mk (c:= Tryz.f177.body.getD .ret) Tryz.func177
end maps_Keys_dot_set_api_Dot_int
namespace cmp_isNaN_uint8
abbrev f:Nat:=179
def s:bP:=(S
(F [J 2 (.mv (B false))] 1)
(S
(F [M 3 0,
 M 4 0,
 V 5 .neq 3 4,
 M 2 5] 4)
.ret))
def rv:List RV:=[.tmp 2]
theorem enter:En Tryz.prog 179 6 s rv:=En.mk (c:= Tryz.f179.body.getD .ret) Tryz.func179
end cmp_isNaN_uint8
namespace cmp_isNaN_uint32
abbrev f:Nat:=180
def s:bP:=(S
(F [J 2 (.mv (B false))] 1)
(S
(F [M 3 0,
 M 4 0,
 V 5 .neq 3 4,
 M 2 5] 4)
.ret))
def rv:List RV:=[.tmp 2]
theorem enter:En Tryz.prog 180 6 s rv:=En.mk (c:= Tryz.f180.body.getD .ret) Tryz.func180
end cmp_isNaN_uint32
namespace slices_AppendSeq_Lapi_Dot_api_Dot
abbrev f:Nat:=189
def s:bP:=(S
(F [x 2 31 0,
 J 4 (.mv (.k (.d .aL)))] 2)
(S
(S
(F [M 6 1] 1)
(.block 0
(.sU (.t 6) [7]
(F [J 5 (.alloc 37 [b8 0,aB 0]),
 W 2 5 7] 2)
(.block 1
(F [T 8 2,
 K 9 2 5,
 J 10 (.mK 37 2 1 [b8 0,aB 0] [(0,2,(.t 9))]),
 J 11 (.app 37 2 8 (.t 8) (.t 10)),
 W 1 2 11] 5)))))
(S
(F [T 12 2,
 M 4 12] 2)
.ret)))
def rv:List RV:=[.tmp 4]
theorem enter:En Tryz.prog 189 13 s rv:=En.mk (c:= Tryz.f189.body.getD .ret) Tryz.func189
end slices_AppendSeq_Lapi_Dot_api_Dot
namespace slices_IndexFunc_Lapi_Claim_api_Claim
abbrev f:Nat:=192
def s:bP:=(S
(F [J 4 (.mv (Z 0))] 1)
(S
(S
(F [M 6 0,
 L 7 6,
 J 8 (.mv (Z 0))] 3)
(.block 0
(.loop
(S
(F [V 9 .lss 8 7] 1)
(S
(.cond (.t 9)
.skip
(.exit 0))
(S
(.block 1
(S
(F [M 10 8,
 M 5 10] 2)
(S
(F [M 11 1,
 M 12 0,
 M 13 5,
 I 14 4 12 13,
 K 15 4 14,
 J 16 (.call (.t 11) [(.t 15)])] 6)
(.cond (.t 16)
(S
(F [M 17 5,
 M 4 17] 2)
.ret)
.skip))))
(F [Y 18 .add 8 1,
 M 8 18] 2)))))))
(S
(F [J 4 (.mv (.k (.d (.int .i64 (-1)))))] 1)
.ret)))
def rv:List RV:=[.tmp 4]
theorem enter:En Tryz.prog 192 19 s rv:=En.mk (c:= Tryz.f192.body.getD .ret) Tryz.func192
end slices_IndexFunc_Lapi_Claim_api_Claim
namespace maps_Keys_dot_set_api_Dot_int_1
abbrev f:Nat:=194
def s:bP:=(S
(F [T 4 1,
 J 5 (.mq (.t 4))] 2)
(.block 0
(.loop
(S
(F [J 6 (.kQ (.t 5)),
 E 7 0 6] 2)
(S
(.cond (.t 7)
.skip
(.exit 0))
(.block 1
(S
(F [J 8 (.nv (.t 5)),
 E 9 0 8,
 J 3 (.alloc 37 [b8 0,aB 0]),
 W 2 3 9] 4)
(S
(F [M 10 0,
 K 11 2 3,
 J 12 (.call (.t 10) [(.t 11)]),
 O 13 12] 4)
(.cond (.t 13)
.ret
.skip)))))))))
def rv:List RV:=[]
theorem enter:En Tryz.prog 194 14 s rv:=En.mk (c:= Tryz.f194.body.getD .ret) Tryz.func194
end maps_Keys_dot_set_api_Dot_int_1
end
section
namespace ref10_History
abbrev f:Nat:=15
def s:bP:=(S
(F [J 4 (.mv (Z 0))] 1)
(S
(S
(F [M 7 1,
 Y 8 .lss 7 1,
 M 9 8,
 G 10 1 9 false,
 H 11 (.bin .gtr (.t 10) (Z 8)) 9 false,
 J 12 (.pick (.t 9) (B true) (.t 11))] 6)
(.cond (.t 12)
(S
(F [J 4 (.mv (Z 2))] 1)
.ret)
.skip))
(S
(S
(F [J 5 (.mv (Z 0))] 1)
(.block 0
(.loop
(S
(S
(F [M 13 5,
 M 14 0,
 L 15 14,
 V 16 .lss 13 15] 4)
(.cond (.t 16)
.skip
(.exit 0)))
(S
(.block 1
(S
(F [M 19 0,
 M 20 5,
 I 21 29 19 20,
 K 22 29 21,
 M 23 1,
 Q 24 60 22 23,
 Y 25 .neq 24 0] 7)
(.cond (.t 25)
(S
(F [J 4 (.mv (Z 5))] 1)
.ret)
.skip)))
(F [M 17 5,
 Y 18 .add 17 1,
 M 5 18] 3))))))
(S
(S
(F [J 6 (.mv (Z 0))] 1)
(.block 2
(.loop
(S
(S
(F [M 26 6,
 M 27 0,
 L 28 27,
 V 29 .lss 26 28] 4)
(.cond (.t 29)
.skip
(.exit 2)))
(S
(.block 3
(S
(F [M 32 0,
 M 33 0,
 M 34 6,
 I 35 29 33 34,
 K 36 29 35,
 Q 37 61 32 36,
 O 38 37] 7)
(.cond (.t 38)
(S
(F [J 4 (.mv (Z 9))] 1)
.ret)
.skip)))
(F [M 30 6,
 Y 31 .add 30 1,
 M 6 31] 3))))))
(S
(F [J 4 (.mv (Z 0))] 1)
.ret)))))
def rv:List RV:=[.tmp 4]
theorem enter:En Tryz.prog 15 39 s rv:=En.mk (c:= Tryz.f15.body.getD .ret) Tryz.func15
end ref10_History
namespace revoke_New
abbrev f:Nat:=18
def s:bP:=(S
(F [J 2 (.mv (.k (.d .dZ)))] 1)
(S
(S
(F [M 8 0,
 P 9 64 8,
 J 10 (.iZ false 0 (.t 9))] 3)
(.cond (.t 10)
(S
(F [J 2 (.mv (.k (.d .dZ)))] 1)
.ret)
.skip))
(S
(F [M 11 0,
 J 12 (.Bn),
 J 13 (.Bn),
 J 14 (.Bn),
 J 15 (.fC [(.d .dZ),(.d .gP),(.d .gP),(.d .gP)] [(0,1,(.t 11)),(1,1,(.t 12)),(2,1,(.t 13)),(3,1,(.t 14))]),
 x 16 110 15,
 M 3 16] 7)
(S
(S
(F [M 17 0,
 P 18 65 17,
 L 19 18,
 J 20 (.mv (Z 0))] 4)
(.block 0
(.loop
(S
(F [V 21 .lss 20 19] 1)
(S
(.cond (.t 21)
.skip
(.exit 0))
(S
(.block 1
(S
(F [I 22 2 18 20,
 K 23 2 22,
 J 5 (.alloc 37 [b8 0,aB 0]),
 W 2 5 23] 4)
(S
(S
(F [M 24 0,
 K 25 2 5,
 Q 26 66 24 25,
 O 27 26] 4)
(.cond (.t 27)
(.exit 1)
.skip))
(S
(F [M 29 0,
 K 30 2 5,
 Q 31 67 29 30,
 M 28 31,
 E 32 0 28,
 E 33 1 28,
 J 6 (.alloc 43 bH),
 W 29 6 32,
 M 7 33] 9)
(S
(.e_ [M 34 3,
 A 35 34,
 D 36 1 35,
 T 37 36,
 K 38 2 5,
 K 39 29 6,
 N (.ru [true,true] true (.t 37) (.t 38) (.t 39))] [0,
1,
3,
7,
0,
0,
63] true)
(S
(.e_ [M 41 3,
 A 42 41,
 D 43 2 42,
 T 44 43,
 K 45 2 5,
 M 46 0,
 P 47 64 46,
 D 48 15 6,
 K 49 2 48,
 Q 50 68 47 49,
 M 40 50,
 E 51 0 40,
 E 52 1 40,
 N (.ru [true,true] true (.t 44) (.t 45) (.t 51))] [0,
1,
3,
7,
0,
0,
32,
0,
128,
480,
992,
2016,
2016,
4095] true)
(S
(S
(F [D 53 14 6,
 T 54 53,
 J 55 (.bin .eql (.t 54) (.k (b8 0)))] 3)
(.cond (.t 55)
(.e_ [M 56 3,
 A 57 56,
 D 58 2 57,
 T 59 58,
 K 60 2 5,
 N (.ru [true,true] true (.t 59) (.t 60) (.k (.d .aL)))] [0,
1,
3,
7,
0,
31] true)
.skip))
(S
(F [D 61 14 6,
 T 62 61,
 J 63 (.bin .eql (.t 62) (.k (b8 2)))] 3)
(.cond (.t 63)
(.e_ [M 64 3,
 A 65 64,
 D 66 3 65,
 T 67 66,
 D 68 21 6,
 K 69 2 68,
 K 71 2 5,
 J 72 (.mK 37 2 1 [b8 0,aB 0] [(0,2,(.t 71))]),
 J 73 (.tQ [true,true] true (.d .aL) (.t 67) (.t 69)),
 E 70 0 73,
 J 74 (.app 37 2 8 (.t 70) (.t 72)),
 E 75 1 73,
 N (.tR (.t 67) (.t 75) (.t 74))] [0,
1,
3,
7,
0,
16,
0,
64,
255,
511,
1023,
511,
4095] true)
.skip)))))))))
(F [Y 76 .add 20 1,
 M 20 76] 2)))))))
(S
(F [M 77 3,
 M 2 77] 2)
.ret)))))
def rv:List RV:=[.tmp 2]
theorem enter:En Tryz.prog 18 78 s rv:=En.mk (c:= Tryz.f18.body.getD .ret) Tryz.func18
end revoke_New
namespace revoke_Index_Threats
abbrev f:Nat:=20
def s:bP:=(S
(F [x 3 37 1,
 J 4 (.mv (.k (.d .aL))),
 J 5 (.mv (Z 0))] 3)
(S
(S
(F [M 9 0,
 K 10 2 3,
 Q 11 24 9 10,
 M 8 11,
 E 12 0 8,
 E 13 1 8,
 M 6 12,
 M 7 13] 8)
(S
(F [M 14 7,
 Y 15 .neq 14 0] 2)
(.cond (.t 15)
(S
(F [M 16 7,
 J 4 (.mv (.k (.d .aL))),
 M 5 16] 3)
.ret)
.skip)))
(S
(.e_ [M 17 0,
 M 18 0,
 A 19 18,
 D 20 1 19,
 T 21 20,
 K 22 2 3,
 J 23 (.look [true,true] true (.agg bH) (.t 21) (.t 22) false),
 Q 24 72 17 23,
 J 25 (.call (C 71) [(.t 24),(C 73)]),
 M 4 25,
 J 5 (.mv (Z 0))] [0,
0,
2,
6,
14,
0,
62,
127,
255,
511,
1023] true)
.ret)))
def rv:List RV:=[.tmp 4,.tmp 5]
theorem enter:En Tryz.prog 20 26 s rv:=En.mk (c:= Tryz.f20.body.getD .ret) Tryz.func20
end revoke_Index_Threats
namespace revoke_Index_Level
abbrev f:Nat:=24
def s:bP:=(S
(F [x 3 37 1,
 J 4 (.mv (Z 0)),
 J 5 (.mv (Z 0))] 3)
(S
(S
(F [M 8 0,
 P 9 74 8] 2)
(.cond (.t 9)
(S
(F [J 4 (.mv (Z 0)),
 J 5 (.mv (Z 1))] 2)
.ret)
.skip))
(S
(S
(.e_ [M 11 0,
 A 12 11,
 D 13 1 12,
 T 14 13,
 K 15 2 3,
 J 16 (.look [true,true] true (.agg bH) (.t 14) (.t 15) true),
 M 10 16,
 E 17 0 10,
 E 18 1 10,
 J 6 (.alloc 43 bH),
 W 29 6 17,
 M 7 18] [0,
1,
3,
7,
0,
31,
63,
127,
127,
0,
767,
2047] true)
(S
(F [M 19 7,
 O 20 19] 2)
(.cond (.t 20)
(S
(F [J 4 (.mv (Z 0)),
 J 5 (.mv (Z 7))] 2)
.ret)
.skip)))
(S
(.e_ [M 21 0,
 A 22 21,
 D 23 2 22,
 T 24 23,
 K 25 2 3,
 J 26 (.look [true,true] true (.d .aL) (.t 24) (.t 25) false),
 L 27 26,
 Y 28 .sub 27 1,
 M 4 28,
 J 5 (.mv (Z 0))] [0,
1,
3,
7,
0,
31,
63,
127,
255,
511] true)
.ret))))
def rv:List RV:=[.tmp 4,.tmp 5]
theorem enter:En Tryz.prog 24 29 s rv:=En.mk (c:= Tryz.f24.body.getD .ret) Tryz.func24
end revoke_Index_Level
namespace revoke_Index_Levels
abbrev f:Nat:=27
def s:bP:=(S
(F [J 2 (.mv (.k (.d .aL)))] 1)
(S
(S
(F [M 7 0,
 P 8 74 7] 2)
(.cond (.t 8)
(S
(F [J 2 (.mv (.k (.d .aL)))] 1)
.ret)
.skip))
(S
(F [J 3 (.mv (.k (.d .aL)))] 1)
(S
(S
(F [M 9 0,
 A 10 9,
 D 11 1 10,
 T 12 11,
 J 13 (.mq (.t 12))] 5)
(.block 0
(.loop
(S
(F [J 14 (.kQ (.t 13)),
 E 15 0 14] 2)
(S
(.cond (.t 15)
.skip
(.exit 0))
(.block 1
(S
(F [J 16 (.nv (.t 13)),
 E 17 0 16,
 J 4 (.alloc 37 [b8 0,aB 0]),
 W 2 4 17] 4)
(S
(.e_ [M 18 0,
 A 19 18,
 D 20 2 19,
 T 21 20,
 K 22 2 4,
 J 23 (.look [true,true] true (.d .aL) (.t 21) (.t 22) false),
 L 24 23,
 M 5 24] [0,
1,
3,
7,
0,
31,
63,
127] true)
(S
(.block 2
(.loop
(S
(S
(F [M 25 3,
 L 26 25,
 M 27 5,
 V 28 .leq 26 27] 4)
(.cond (.t 28)
.skip
(.exit 2)))
(.block 3
(F [M 29 3,
 J 30 (.mK 31 1 1 [(.d .aL)] [(0,1,(.k (.d .aL)))]),
 J 31 (.app 31 1 24 (.t 29) (.t 30)),
 M 3 31] 4)))))
(.e_ [M 32 3,
 M 33 5,
 M 34 3,
 M 35 5,
 I 36 1 34 35,
 T 37 36,
 K 38 2 4,
 J 39 (.mK 37 2 1 [b8 0,aB 0] [(0,2,(.t 38))]),
 J 40 (.app 37 2 8 (.t 37) (.t 39)),
 I 41 1 32 33,
 W 1 41 40] [0,
0,
0,
0,
12,
28,
0,
64,
252,
511,
1023] true))))))))))
(S
(S
(F [M 42 3,
 L 43 42,
 J 44 (.mv (Z 0))] 3)
(.block 4
(.loop
(S
(F [V 45 .lss 44 43] 1)
(S
(.cond (.t 45)
.skip
(.exit 4))
(S
(.block 5
(S
(F [M 46 44,
 M 6 46] 2)
(F [M 47 3,
 M 48 6,
 M 49 3,
 M 50 6,
 I 51 1 49 50,
 T 52 51,
 P 53 77 52,
 I 54 1 47 48,
 W 1 54 53] 9)))
(F [Y 55 .add 44 1,
 M 44 55] 2)))))))
(S
(F [M 56 3,
 P 57 78 56,
 M 2 57] 3)
.ret))))))
def rv:List RV:=[.tmp 2]
theorem enter:En Tryz.prog 27 58 s rv:=En.mk (c:= Tryz.f27.body.getD .ret) Tryz.func27
end revoke_Index_Levels
namespace ref04_Above
abbrev f:Nat:=46
def s:bP:=(S
(F [x 2 39 0,
 x 3 39 1,
 J 4 (.mv (B false))] 3)
(S
(S
(F [J 5 (.mv (Z 0))] 1)
(.block 0
(.loop
(S
(S
(F [M 6 5,
 Y 7 .lss 6 8] 2)
(.cond (.t 7)
.skip
(.exit 0)))
(S
(.block 1
(S
(.e_ [M 10 5,
 J 11 (.jE 8 1 (.t 2) (.t 10)),
 T 12 11,
 M 13 5,
 J 14 (.jE 8 1 (.t 3) (.t 13)),
 T 15 14,
 V 16 .lss 12 15] [0,
1,
3,
0,
8,
24,
63] true)
(.cond (.t 16)
(S
(F [J 4 (.mv (B false))] 1)
.ret)
.skip)))
(F [M 8 5,
 Y 9 .add 8 1,
 M 5 9] 3))))))
(S
(F [J 4 (.mv (B true))] 1)
.ret)))
def rv:List RV:=[.tmp 4]
theorem enter:En Tryz.prog 46 17 s rv:=En.mk (c:= Tryz.f46.body.getD .ret) Tryz.func46
end ref04_Above
namespace ref05_Check
abbrev f:Nat:=60
def s:bP:=(S
(F [x 2 43 0,
 J 4 (.mv (Z 0))] 2)
(S
(S
(F [M 7 1,
 Y 8 .lss 7 1,
 M 9 8,
 G 10 1 9 false,
 H 11 (.bin .gtr (.t 10) (Z 8)) 9 false,
 J 12 (.pick (.t 9) (B true) (.t 11))] 6)
(.cond (.t 12)
(S
(F [J 4 (.mv (Z 2))] 1)
.ret)
.skip))
(S
(S
(.e_ (D 13 0 2::
 D 14 0 13::
 T 15 14::
 J 16 (.conv .i64 (.t 15))::
 M 17 1::
 V 18 .geq 16 17::
 M 19 18::
 H 20 (.aT 0 (.t 2)) 19 false::
 H 21 (.aT 1 (.t 20)) 19 false::
 H 22 (.load none (.t 21)) 19 false::
 H 23 (.bin .eql (.t 22) (.k (aB 0))) 19 false::
 J 24 (.pick (.t 19) (B true) (.t 23))::
 M 25 24::
 H 26 (.aT 0 (.t 2)) 25 false::
 H 27 (.aT 0 (.t 26)) 25 false::
 H 28 (.load none (.t 27)) 25 false::
 H 29 (.aT 2 (.t 2)) 25 false::
 H 30 (.jE 8 1 (.t 29) (.t 28)) 25 false::
 H 31 (.load none (.t 30)) 25 false::
 H 32 (.aT 0 (.t 2)) 25 false::
 H 33 (.aT 1 (.t 32)) 25 false::
 H 34 (.load none (.t 33)) 25 false::
 H 35 (.bin .sub (.t 34) (.k (aB 1))) 25 false::
 H 36 (.bin .neq (.t 31) (.t 35)) 25 false::
 J 37 (.pick (.t 25) (B true) (.t 36))::
 M 38 37::
 H 39 (.aT 10 (.t 2)) 38 false::
 H 40 (.load none (.t 39)) 38 false::
 H 41 (.bin .lss (.t 40) (.k (bE 1))) 38 false::
 J 42 (.pick (.t 38) (B true) (.t 41))::
 M 43 42::
 H 44 (.aT 10 (.t 2)) 43 false::
 H 45 (.load none (.t 44)) 43 false::
 H 46 (.bin .gtr (.t 45) (.k (bE 281474976710656))) 43 false::
 J 47 (.pick (.t 43) (B true) (.t 46))::
 M 48 47::
 H 49 (.aT 11 (.t 2)) 48 false::
 H 50 (.load none (.t 49)) 48 false::
 H 51 (.bin .eql (.t 50) (.k (aB 0))) 48 false::
 J 52 (.pick (.t 48) (B true) (.t 51))::
 M 53 52::
 H 54 (.aT 14 (.t 2)) 53 false::
 H 55 (.load none (.t 54)) 53 false::
 H 56 (.bin .gtr (.t 55) (.k (b8 8))) 53 false::
 J 57 (.pick (.t 53) (B true) (.t 56))::
 M 58 57::
 H 59 (.load (some 29) (.t 2)) 58 false::
 H 60 (.call (C 108) [(.t 59)]) 58 false::
 H 61 (.not (.t 60)) 58 false::
 J 62 (.pick (.t 58) (B true) (.t 61))::[]) (0::
1::
3::
7::
0::
31::
63::
127::
255::
511::
1023::
2047::
4095::
8191::
16383::
32767::
8191::
131071::
262143::
8191::
532479::
1581055::
3678207::
8388607::
16777215::
33554431::
67108863::
134217727::
268435455::
536870911::
1073741823::
2147483647::
4294967295::
8589934591::
17179869183::
34359738367::
68719476735::
137438953471::
274877906943::
549755813887::
1099511627775::
2199023255551::
4398046511103::
8796093022207::
17592186044415::
35184372088831::
70368744177663::
140737488355327::
281474976710655::
562949953421311::[]) true)
(.cond (.t 62)
(S
(F [J 4 (.mv (Z 5))] 1)
.ret)
.skip))
(S
(S
(F [M 63 1,
 M 5 63] 2)
(.block 0
(.loop
(S
(S
(F [M 64 5,
 Y 65 .lss 64 8] 2)
(.cond (.t 65)
.skip
(.exit 0)))
(S
(.block 1
(S
(F [M 68 5,
 D 69 2 2,
 J 70 (.jE 8 1 (.t 69) (.t 68)),
 T 71 70,
 J 72 (.bin .neq (.t 71) (.k (aB 0)))] 5)
(.cond (.t 72)
(S
(F [J 4 (.mv (Z 5))] 1)
.ret)
.skip)))
(F [M 66 5,
 Y 67 .add 66 1,
 M 5 67] 3))))))
(S
(F [D 73 14 2,
 T 74 73,
 P 75 109 74,
 M 6 75] 4)
(S
(S
(F (D 76 14 2::
 T 77 76::
 J 78 (.bin .eql (.t 77) (.k (b8 0)))::
 M 79 78::
 H 80 (.aT 12 (.t 2)) 79 true::
 H 81 (.load (some 2) (.t 80)) 79 true::
 H 82 (.aT 0 (.t 2)) 79 true::
 H 83 (.load (some 2) (.t 82)) 79 true::
 H 84 (.eqv true [true,true] (.t 81) (.t 83)) 79 true::
 U 85 79 84::
 M 86 85::
 H 87 (.aT 14 (.t 2)) 86 false::
 H 88 (.load none (.t 87)) 86 false::
 H 89 (.bin .neq (.t 88) (.k (b8 0))) 86 false::
 G 90 89 86 false::
 H 91 (.load (some 29) (.t 2)) 90 true::
 H 92 (.aT 12 (.t 2)) 90 true::
 H 93 (.load (some 2) (.t 92)) 90 true::
 H 94 (.call (C 110) [(.t 91),(.t 93)]) 90 true::
 H 95 (.not (.t 94)) 90 true::
 H 96 (.pick (.t 90) (.t 95) (B false)) 86 false::
 J 97 (.pick (.t 86) (B true) (.t 96))::
 M 98 97::
 G 99 6 98 false::
 H 100 (.call (C 111) [(.t 99),(.k (b8 99))]) 98 false::
 G 101 100 98 false::
 H 102 (.load (some 29) (.t 2)) 101 true::
 H 103 (.aT 15 (.t 2)) 101 true::
 H 104 (.load (some 2) (.t 103)) 101 true::
 H 105 (.call (C 110) [(.t 102),(.t 104)]) 101 true::
 H 106 (.not (.t 105)) 101 true::
 H 107 (.pick (.t 101) (.t 106) (B false)) 98 false::
 J 108 (.pick (.t 98) (B true) (.t 107))::
 M 109 108::
 G 110 6 109 false::
 H 111 (.call (C 111) [(.t 110),(.k (b8 97))]) 109 false::
 G 112 111 109 false::
 H 113 (.load (some 29) (.t 2)) 112 true::
 H 114 (.aT 21 (.t 2)) 112 true::
 H 115 (.load (some 2) (.t 114)) 112 true::
 H 116 (.call (C 110) [(.t 113),(.t 115)]) 112 true::
 H 117 (.not (.t 116)) 112 true::
 H 118 (.pick (.t 112) (.t 117) (B false)) 109 false::
 J 119 (.pick (.t 109) (B true) (.t 118))::
 M 120 119::
 G 121 6 120 false::
 H 122 (.call (C 111) [(.t 121),(.k (b8 118))]) 120 false::
 G 123 122 120 false::
 H 124 (.load (some 29) (.t 2)) 123 true::
 H 125 (.aT 23 (.t 2)) 123 true::
 H 126 (.load (some 2) (.t 125)) 123 true::
 H 127 (.call (C 110) [(.t 124),(.t 126)]) 123 true::
 H 128 (.not (.t 127)) 123 true::
 H 129 (.pick (.t 123) (.t 128) (B false)) 120 false::
 J 130 (.pick (.t 120) (B true) (.t 129))::[]) 55)
(.cond (.t 130)
(S
(F [J 4 (.mv (Z 5))] 1)
.ret)
.skip))
(S
(S
(F (M 131 6::
 J 132 (.call (C 111) [(.t 131),(.k (b8 116))])::
 M 133 132::
 H 134 (.aT 17 (.t 2)) 133 true::
 H 135 (.load none (.t 134)) 133 true::
 H 136 (.bin .eql (.t 135) (.k (aB 0))) 133 true::
 G 137 136 133 true::
 H 138 (.aT 18 (.t 2)) 137 false::
 H 139 (.load none (.t 138)) 137 false::
 H 140 (.bin .lss (.t 139) (.k (b8 1))) 137 false::
 H 141 (.pick (.t 137) (B true) (.t 140)) 133 true::
 G 142 141 133 true::
 H 143 (.aT 18 (.t 2)) 142 false::
 H 144 (.load none (.t 143)) 142 false::
 H 145 (.bin .gtr (.t 144) (.k (b8 7))) 142 false::
 H 146 (.pick (.t 142) (B true) (.t 145)) 133 true::
 G 147 146 133 true::
 H 148 (.aT 19 (.t 2)) 147 false::
 H 149 (.load none (.t 148)) 147 false::
 H 150 (.bin .gtr (.t 149) (.k (b8 7))) 147 false::
 H 151 (.pick (.t 147) (B true) (.t 150)) 133 true::
 G 152 151 133 true::
 H 153 (.aT 20 (.t 2)) 152 false::
 H 154 (.load none (.t 153)) 152 false::
 H 155 (.bin .gtr (.t 154) (.k (bE 1099511627776))) 152 false::
 H 156 (.pick (.t 152) (B true) (.t 155)) 133 true::
 U 157 133 156::
 M 158 157::
 G 159 6 158 false::
 H 160 (.call (C 111) [(.t 159),(.k (b8 113))]) 158 false::
 G 161 160 158 false::
 H 162 (.aT 26 (.t 2)) 161 true::
 H 163 (.load none (.t 162)) 161 true::
 H 164 (.bin .lss (.t 163) (.k (aB 1))) 161 true::
 G 165 164 161 true::
 H 166 (.aT 26 (.t 2)) 165 false::
 H 167 (.load none (.t 166)) 165 false::
 H 168 (.bin .gtr (.t 167) (.k (aB 65535))) 165 false::
 H 169 (.pick (.t 165) (B true) (.t 168)) 161 true::
 H 170 (.pick (.t 161) (.t 169) (B false)) 158 false::
 J 171 (.pick (.t 158) (B true) (.t 170))::
 M 172 171::
 H 173 (.aT 27 (.t 2)) 172 false::
 H 174 (.load none (.t 173)) 172 false::
 H 175 (.bin .gtr (.t 174) (.k (aB 16777215))) 172 false::
 J 176 (.pick (.t 172) (B true) (.t 175))::
 M 177 176::
 G 178 6 177 false::
 H 179 (.call (C 111) [(.t 178),(.k (b8 108))]) 177 false::
 G 180 179 177 false::
 H 181 (.load (some 29) (.t 2)) 180 true::
 H 182 (.call (C 112) [(.t 181)]) 180 true::
 H 183 (.not (.t 182)) 180 true::
 H 184 (.pick (.t 180) (.t 183) (B false)) 177 false::
 J 185 (.pick (.t 177) (B true) (.t 184))::[]) 55)
(.cond (.t 185)
(S
(F [J 4 (.mv (Z 5))] 1)
.ret)
.skip))
(S
(F [J 4 (.mv (Z 0))] 1)
.ret))))))))
def rv:List RV:=[.tmp 4]
theorem enter:En Tryz.prog 60 186 s rv:=En.mk (c:= Tryz.f60.body.getD .ret) Tryz.func60
end ref05_Check
namespace ref10_one
abbrev f:Nat:=61
def s:bP:=(S
(F [x 3 43 1,
 J 4 (.mv (B false))] 2)
(S
(S
(F (M 7 0::
 D 8 0 3::
 K 9 2 8::
 Q 10 113 7 9::
 Y 11 .neq 10 1::
 M 12 11::
 H 13 (.aT 0 (.t 3)) 12 false::
 H 14 (.aT 1 (.t 13)) 12 false::
 H 15 (.load none (.t 14)) 12 false::
 H 16 (.bin .gtr (.t 15) (.k (aB 1))) 12 false::
 G 17 16 12 false::
 G 18 0 17 true::
 H 19 (.aT 0 (.t 3)) 17 true::
 H 20 (.aT 0 (.t 19)) 17 true::
 H 21 (.load none (.t 20)) 17 true::
 H 22 (.aT 0 (.t 3)) 17 true::
 H 23 (.aT 1 (.t 22)) 17 true::
 H 24 (.load none (.t 23)) 17 true::
 H 25 (.bin .sub (.t 24) (.k (aB 1))) 17 true::
 H 26 (.fC [b8 0,aB 0] [(0,1,(.t 21)),(1,1,(.t 25))]) 17 true::
 H 27 (.call (C 113) [(.t 18),(.t 26)]) 17 true::
 H 28 (.bin .neq (.t 27) (Z 1)) 17 true::
 H 29 (.pick (.t 17) (.t 28) (B false)) 12 false::
 J 30 (.pick (.t 12) (B true) (.t 29))::[]) 24)
(.cond (.t 30)
(S
(F [J 4 (.mv (B false))] 1)
.ret)
.skip))
(S
(S
(F [J 5 (.mv (Z 0))] 1)
(.block 0
(.loop
(S
(S
(F [M 31 5,
 Y 32 .lss 31 8] 2)
(.cond (.t 32)
.skip
(.exit 0)))
(S
(.block 1
(S
(F (M 35 5::
 D 36 2 3::
 J 37 (.jE 8 1 (.t 36) (.t 35))::
 T 38 37::
 J 39 (.bin .gtr (.t 38) (.k (aB 0)))::
 M 40 39::
 G 41 0 40 true::
 G 42 5 40 true::
 H 43 (.conv .u8 (.t 42)) 40 true::
 G 44 5 40 true::
 H 45 (.aT 2 (.t 3)) 40 true::
 H 46 (.jE 8 1 (.t 45) (.t 44)) 40 true::
 H 47 (.load none (.t 46)) 40 true::
 H 48 (.fC [b8 0,aB 0] [(0,1,(.t 43)),(1,1,(.t 47))]) 40 true::
 H 49 (.call (C 113) [(.t 41),(.t 48)]) 40 true::
 H 50 (.bin .neq (.t 49) (Z 1)) 40 true::
 U 51 40 50::[]) 17)
(.cond (.t 51)
(S
(F [J 4 (.mv (B false))] 1)
.ret)
.skip)))
(F [M 33 5,
 Y 34 .add 33 1,
 M 5 34] 3))))))
(S
(S
(F [J 6 (.mv (Z 0))] 1)
(.block 2
(.loop
(S
(S
(F [M 52 6,
 M 53 0,
 L 54 53,
 V 55 .lss 52 54] 4)
(.cond (.t 55)
.skip
(.exit 2)))
(S
(.block 3
(S
(.e_ (M 58 0::
 M 59 6::
 I 60 29 58 59::
 K 61 29 60::
 K 62 29 3::
 Q 63 23 61 62::
 M 64 63::
 G 65 0 64 true::
 G 66 6 64 true::
 H 67 (.dF 29 (.t 65) (.t 66)) 64 true::
 H 68 (.aT 10 (.t 67)) 64 true::
 H 69 (.load none (.t 68)) 64 true::
 H 70 (.aT 10 (.t 3)) 64 true::
 H 71 (.load none (.t 70)) 64 true::
 H 72 (.bin .geq (.t 69) (.t 71)) 64 true::
 G 73 72 64 true::
 H 74 (.aT 2 (.t 3)) 73 false::
 H 75 (.load (some 8) (.t 74)) 73 false::
 G 76 0 73 false::
 G 77 6 73 false::
 H 78 (.dF 29 (.t 76) (.t 77)) 73 false::
 H 79 (.aT 2 (.t 78)) 73 false::
 H 80 (.load (some 8) (.t 79)) 73 false::
 H 81 (.call (C 46) [(.t 75),(.t 80)]) 73 false::
 H 82 (.not (.t 81)) 73 false::
 H 83 (.pick (.t 73) (B true) (.t 82)) 64 true::
 U 84 64 83::[]) (0::
0::
3::
7::
0::
31::
63::
127::
127::
511::
1023::
2047::
127::
4223::
16383::
32767::
65535::
131071::
65535::
65535::
851967::
1900543::
3997695::
8388607::
16777215::
33554431::
67108863::[]) true)
(.cond (.t 84)
(S
(F [J 4 (.mv (B false))] 1)
.ret)
.skip)))
(F [M 56 6,
 Y 57 .add 56 1,
 M 6 57] 3))))))
(S
(F [J 4 (.mv (B true))] 1)
.ret)))))
def rv:List RV:=[.tmp 4]
theorem enter:En Tryz.prog 61 85 s rv:=En.mk (c:= Tryz.f61.body.getD .ret) Tryz.func61
end ref10_one
namespace revoke_sorted_api_Dot
abbrev f:Nat:=71
def s:bP:=(S
(F [x 3 123 1,
 J 4 (.mv (.k (.d .aL)))] 2)
(S
(F [J 5 (.alloc 31 [(.d .aL)])] 1)
(S
(S
(F [M 7 0] 1)
(.block 0
(.sU (.t 7) [8]
(F [J 6 (.alloc 37 [b8 0,aB 0]),
 W 2 6 8] 2)
(.block 1
(.e_ [T 9 5,
 T 10 3,
 K 11 2 6,
 J 12 (.call (.t 10) [(.t 11)]),
 J 13 (.mK 37 2 1 [b8 0,aB 0] [(0,2,(.t 12))]),
 J 14 (.app 37 2 8 (.t 9) (.t 13)),
 W 1 5 14] [0,
0,
0,
6,
14,
31,
63] true)))))
(S
(F [T 15 5,
 P 16 77 15,
 M 4 16] 3)
.ret))))
def rv:List RV:=[.tmp 4]
theorem enter:En Tryz.prog 71 17 s rv:=En.mk (c:= Tryz.f71.body.getD .ret) Tryz.func71
end revoke_sorted_api_Dot
namespace revoke_Index_threats
abbrev f:Nat:=72
def s:bP:=(S
(F [x 2 27 0,
 x 3 43 1,
 J 4 (.mv (.k (.d .gQ)))] 3)
(S
(F [J 5 (.uj (.func 136) [] [(.t 2),(.t 3)]),
 M 4 5] 2)
.ret))
def rv:List RV:=[.tmp 4]
theorem enter:En Tryz.prog 72 6 s rv:=En.mk (c:= Tryz.f72.body.getD .ret) Tryz.func72
end revoke_Index_threats
namespace revoke_Index_Threats_1
abbrev f:Nat:=73
def s:bP:=(S
(F [x 1 37 0,
 J 2 (.alloc 37 [b8 0,aB 0])] 2)
(S
(F [K 3 2 1,
 W 2 2 3] 2)
.ret))
def rv:List RV:=[.cell 2 (some 2)]
theorem enter:En Tryz.prog 73 4 s rv:=En.mk (c:= Tryz.f73.body.getD .ret) Tryz.func73
end revoke_Index_Threats_1
namespace revoke_Index_none
abbrev f:Nat:=74
def s:bP:=(S
(F [J 2 (.mv (B false))] 1)
(S
(F [M 3 0,
 J 4 (.iZ false 0 (.t 3)),
 M 5 4,
 G 6 0 5 false,
 H 7 (.dA (.t 6)) 5 false,
 H 8 (.aT 1 (.t 7)) 5 false,
 H 9 (.load none (.t 8)) 5 false,
 H 10 (.iZ false 1 (.t 9)) 5 false,
 J 11 (.pick (.t 5) (B true) (.t 10)),
 M 2 11] 10)
.ret))
def rv:List RV:=[.tmp 2]
theorem enter:En Tryz.prog 74 12 s rv:=En.mk (c:= Tryz.f74.body.getD .ret) Tryz.func74
end revoke_Index_none
namespace slices_Clip_LLapi_Dot_Lapi_Dot
abbrev f:Nat:=78
def s:bP:=(S
(F [J 2 (.mv (.k (.d .aL)))] 1)
(S
(F [M 3 0,
 M 4 0,
 L 5 4,
 M 6 0,
 L 7 6,
 J 8 (.IW (.t 3) (.t 5) (.t 7)),
 M 2 8] 7)
.ret))
def rv:List RV:=[.tmp 2]
theorem enter:En Tryz.prog 78 9 s rv:=En.mk (c:= Tryz.f78.body.getD .ret) Tryz.func78
end slices_Clip_LLapi_Dot_Lapi_Dot
namespace ref05_zero
abbrev f:Nat:=108
def s:bP:=(S
(F [x 1 43 0,
 J 2 (.mv (B false))] 2)
(S
(F [D 5 14 1,
 T 6 5,
 P 7 109 6,
 M 3 7] 4)
(S
(F [J 8 (.fC [b8 0,aB 0] []),
 J 4 (.alloc 37 [b8 0,aB 0]),
 W 2 4 8] 3)
(S
(F (M 9 3::
 J 10 (.call (C 111) [(.t 9),(.k (b8 99))])::
 M 11 10::
 H 12 (.aT 15 (.t 1)) 11 false::
 H 13 (.load (some 2) (.t 12)) 11 false::
 H 14 (.load (some 2) (.t 4)) 11 false::
 H 15 (.eqv false [true,true] (.t 13) (.t 14)) 11 false::
 J 16 (.pick (.t 11) (B true) (.t 15))::
 M 17 16::
 G 18 3 17 true::
 H 19 (.call (C 111) [(.t 18),(.k (b8 116))]) 17 true::
 G 20 19 17 true::
 H 21 (.aT 17 (.t 1)) 20 false::
 H 22 (.load none (.t 21)) 20 false::
 H 23 (.bin .eql (.t 22) (.k (aB 0))) 20 false::
 H 24 (.pick (.t 20) (B true) (.t 23)) 17 true::
 U 25 17 24::
 M 26 25::
 G 27 3 26 true::
 H 28 (.call (C 111) [(.t 27),(.k (b8 114))]) 26 true::
 G 29 28 26 true::
 H 30 (.aT 18 (.t 1)) 29 false::
 H 31 (.load none (.t 30)) 29 false::
 H 32 (.bin .eql (.t 31) (.k (b8 0))) 29 false::
 H 33 (.pick (.t 29) (B true) (.t 32)) 26 true::
 U 34 26 33::
 M 35 34::
 G 36 3 35 true::
 H 37 (.call (C 111) [(.t 36),(.k (b8 100))]) 35 true::
 G 38 37 35 true::
 H 39 (.aT 19 (.t 1)) 38 false::
 H 40 (.load none (.t 39)) 38 false::
 H 41 (.bin .eql (.t 40) (.k (b8 0))) 38 false::
 H 42 (.pick (.t 38) (B true) (.t 41)) 35 true::
 U 43 35 42::
 M 44 43::
 G 45 3 44 true::
 H 46 (.call (C 111) [(.t 45),(.k (b8 112))]) 44 true::
 G 47 46 44 true::
 H 48 (.aT 20 (.t 1)) 47 false::
 H 49 (.load none (.t 48)) 47 false::
 H 50 (.bin .eql (.t 49) (.k (bE 0))) 47 false::
 H 51 (.pick (.t 47) (B true) (.t 50)) 44 true::
 U 52 44 51::
 M 53 52::
 G 54 3 53 true::
 H 55 (.call (C 111) [(.t 54),(.k (b8 97))]) 53 true::
 G 56 55 53 true::
 H 57 (.aT 21 (.t 1)) 56 false::
 H 58 (.load (some 2) (.t 57)) 56 false::
 H 59 (.load (some 2) (.t 4)) 56 false::
 H 60 (.eqv false [true,true] (.t 58) (.t 59)) 56 false::
 H 61 (.pick (.t 56) (B true) (.t 60)) 53 true::
 U 62 53 61::
 M 63 62::
 G 64 3 63 true::
 H 65 (.call (C 111) [(.t 64),(.k (b8 118))]) 63 true::
 G 66 65 63 true::
 H 67 (.aT 23 (.t 1)) 66 false::
 H 68 (.load (some 2) (.t 67)) 66 false::
 H 69 (.load (some 2) (.t 4)) 66 false::
 H 70 (.eqv false [true,true] (.t 68) (.t 69)) 66 false::
 H 71 (.pick (.t 66) (B true) (.t 70)) 63 true::
 U 72 63 71::
 M 73 72::
 G 74 3 73 true::
 H 75 (.call (C 111) [(.t 74),(.k (b8 105))]) 73 true::
 G 76 75 73 true::
 H 77 (.aT 25 (.t 1)) 76 false::
 H 78 (.load none (.t 77)) 76 false::
 H 79 (.bin .eql (.t 78) (.k (aB 0))) 76 false::
 H 80 (.pick (.t 76) (B true) (.t 79)) 73 true::
 U 81 73 80::
 M 82 81::
 G 83 3 82 true::
 H 84 (.call (C 111) [(.t 83),(.k (b8 113))]) 82 true::
 G 85 84 82 true::
 H 86 (.aT 26 (.t 1)) 85 false::
 H 87 (.load none (.t 86)) 85 false::
 H 88 (.bin .eql (.t 87) (.k (aB 0))) 85 false::
 H 89 (.pick (.t 85) (B true) (.t 88)) 82 true::
 U 90 82 89::
 M 91 90::
 G 92 3 91 true::
 H 93 (.call (C 111) [(.t 92),(.k (b8 101))]) 91 true::
 G 94 93 91 true::
 H 95 (.aT 27 (.t 1)) 94 false::
 H 96 (.load none (.t 95)) 94 false::
 H 97 (.bin .eql (.t 96) (.k (aB 0))) 94 false::
 H 98 (.pick (.t 94) (B true) (.t 97)) 91 true::
 U 99 91 98::
 M 100 99::
 G 101 3 100 true::
 H 102 (.call (C 111) [(.t 101),(.k (b8 108))]) 100 true::
 G 103 102 100 true::
 H 104 (.aT 28 (.t 1)) 103 false::
 H 105 (.load none (.t 104)) 103 false::
 H 106 (.len (.t 105)) 103 false::
 H 107 (.bin .eql (.t 106) (Z 0)) 103 false::
 H 108 (.pick (.t 103) (B true) (.t 107)) 100 true::
 U 109 100 108::
 M 2 109::[]) 102)
.ret))))
def rv:List RV:=[.tmp 2]
theorem enter:En Tryz.prog 108 110 s rv:=En.mk (c:= Tryz.f108.body.getD .ret) Tryz.func108
end ref05_zero
namespace ref05_Has
abbrev f:Nat:=109
def s:bP:=(S
(F [J 2 (.mv (.k (.d (.str []))))] 1)
(S
(F [J 4 (.mK 9 1 9 [(.d (.str [])),(.d (.str [])),(.d (.str [])),(.d (.str [])),(.d (.str [])),(.d (.str [])),(.d (.str [])),(.d (.str [])),(.d (.str []))] [(0,1,(.k (.d (.str [])))),(1,1,(.k (.d (.str [99,116,114,100,112])))),(2,1,(.k (.d (.str [99,97])))),(3,1,(.k (.d (.str [99,105,113,101])))),(4,1,(.k (.d (.str [99,97,113])))),(5,1,(.k (.d (.str [99,97])))),(6,1,(.k (.d (.str [99,97,118])))),(7,1,(.k (.d (.str [99,97,118])))),(8,1,(.k (.d (.str [99,108]))))]),
 M 3 4] 2)
(S
(S
(F [M 5 0,
 J 6 (.conv .i64 (.t 5)),
 M 7 3,
 L 8 7,
 V 9 .geq 6 8] 5)
(.cond (.t 9)
(S
(F [J 2 (.mv (.k (.d (.str []))))] 1)
.ret)
.skip))
(S
(F [M 10 3,
 M 11 0,
 I 12 1 10 11,
 T 13 12,
 M 2 13] 5)
.ret))))
def rv:List RV:=[.tmp 2]
theorem enter:En Tryz.prog 109 14 s rv:=En.mk (c:= Tryz.f109.body.getD .ret) Tryz.func109
end ref05_Has
namespace ref05_Covers
abbrev f:Nat:=110
def s:bP:=(S
(F [x 2 43 0,
 x 3 37 1,
 J 4 (.mv (B false))] 3)
(S
(.e_ (D 5 0 3::
 T 6 5::
 J 7 (.bin .lss (.t 6) (.k (b8 8)))::
 M 8 7::
 H 9 (.aT 1 (.t 3)) 8 true::
 H 10 (.load none (.t 9)) 8 true::
 H 11 (.bin .geq (.t 10) (.k (aB 1))) 8 true::
 U 12 8 11::
 M 13 12::
 H 14 (.aT 0 (.t 3)) 13 true::
 H 15 (.load none (.t 14)) 13 true::
 H 16 (.aT 2 (.t 2)) 13 true::
 H 17 (.jE 8 1 (.t 16) (.t 15)) 13 true::
 H 18 (.load none (.t 17)) 13 true::
 H 19 (.aT 1 (.t 3)) 13 true::
 H 20 (.load none (.t 19)) 13 true::
 H 21 (.bin .geq (.t 18) (.t 20)) 13 true::
 U 22 13 21::
 M 4 22::[]) (0::
1::
3::
7::
15::
31::
63::
127::
255::
511::
1023::
511::
4095::
8191::
511::
16895::
65535::
131071::
262143::[]) true)
.ret))
def rv:List RV:=[.tmp 4]
theorem enter:En Tryz.prog 110 23 s rv:=En.mk (c:= Tryz.f110.body.getD .ret) Tryz.func110
end ref05_Covers
namespace ref05_in
abbrev f:Nat:=111
def s:bP:=(S
(F [J 4 (.mv (B false))] 1)
(S
(S
(F [J 5 (.mv (Z 0))] 1)
(.block 0
(.loop
(S
(S
(F [M 6 5,
 M 7 0,
 J 8 (.lens (.t 7)),
 V 9 .lss 6 8] 4)
(.cond (.t 9)
.skip
(.exit 0)))
(S
(.block 1
(S
(F [M 12 0,
 M 13 5,
 J 14 (.fq (.t 12) (.t 13)),
 M 15 1,
 V 16 .eql 14 15] 5)
(.cond (.t 16)
(S
(F [J 4 (.mv (B true))] 1)
.ret)
.skip)))
(F [M 10 5,
 Y 11 .add 10 1,
 M 5 11] 3))))))
(S
(F [J 4 (.mv (B false))] 1)
.ret)))
def rv:List RV:=[.tmp 4]
theorem enter:En Tryz.prog 111 17 s rv:=En.mk (c:= Tryz.f111.body.getD .ret) Tryz.func111
end ref05_in
namespace ref05_lines
abbrev f:Nat:=112
def s:bP:=(S
(F [x 1 43 0,
 J 2 (.mv (B false))] 2)
(S
(S
(F [D 5 28 1,
 T 6 5,
 L 7 6,
 Y 8 .lss 7 1,
 M 9 8,
 H 10 (.aT 28 (.t 1)) 9 false,
 H 11 (.load none (.t 10)) 9 false,
 H 12 (.len (.t 11)) 9 false,
 H 13 (.bin .gtr (.t 12) (Z 16)) 9 false,
 J 14 (.pick (.t 9) (B true) (.t 13))] 10)
(.cond (.t 14)
(S
(F [J 2 (.mv (B false))] 1)
.ret)
.skip))
(S
(S
(F [J 3 (.mv (Z 0))] 1)
(.block 0
(.loop
(S
(S
(F [M 15 3,
 D 16 28 1,
 T 17 16,
 L 18 17,
 V 19 .lss 15 18] 5)
(.cond (.t 19)
.skip
(.exit 0)))
(S
(.block 1
(S
(S
(.e_ (K 22 29 1::
 D 23 28 1::
 T 24 23::
 M 25 3::
 I 26 4 24 25::
 D 27 0 26::
 K 28 2 27::
 Q 29 110 22 28::
 O 30 29::
 M 31 30::
 H 32 (.load (some 29) (.t 1)) 31 false::
 H 33 (.aT 28 (.t 1)) 31 false::
 H 34 (.load none (.t 33)) 31 false::
 G 35 3 31 false::
 H 36 (.dF 4 (.t 34) (.t 35)) 31 false::
 H 37 (.aT 2 (.t 36)) 31 false::
 H 38 (.load (some 2) (.t 37)) 31 false::
 H 39 (.call (C 110) [(.t 32),(.t 38)]) 31 false::
 H 40 (.not (.t 39)) 31 false::
 J 41 (.pick (.t 31) (B true) (.t 40))::[]) (0::
0::
2::
0::
14::
30::
62::
127::
255::
511::
1023::
1023::
3071::
1023::
15359::
31743::
64511::
131071::
262143::
524287::[]) true)
(.cond (.t 41)
(S
(F [J 2 (.mv (B false))] 1)
.ret)
.skip))
(S
(F [J 4 (.mv (Z 0))] 1)
(.block 2
(.loop
(S
(S
(F [M 42 4,
 M 43 3,
 V 44 .lss 42 43] 3)
(.cond (.t 44)
.skip
(.exit 2)))
(S
(.block 3
(S
(.e_ [D 47 28 1,
 T 48 47,
 M 49 4,
 I 50 4 48 49,
 D 51 0 50,
 K 52 2 51,
 D 53 28 1,
 T 54 53,
 M 55 3,
 I 56 4 54 55,
 D 57 0 56,
 K 58 2 57,
 J 59 (.eqv false [true,true] (.t 52) (.t 58))] [0,
1,
0,
7,
15,
31,
0,
64,
0,
448,
960,
1984,
4095] true)
(.cond (.t 59)
(S
(F [J 2 (.mv (B false))] 1)
.ret)
.skip)))
(F [M 45 4,
 Y 46 .add 45 1,
 M 4 46] 3))))))))
(F [M 20 3,
 Y 21 .add 20 1,
 M 3 21] 3))))))
(S
(F [J 2 (.mv (B true))] 1)
.ret))))
def rv:List RV:=[.tmp 2]
theorem enter:En Tryz.prog 112 60 s rv:=En.mk (c:= Tryz.f112.body.getD .ret) Tryz.func112
end ref05_lines
namespace ref10_there
abbrev f:Nat:=113
def s:bP:=(S
(F [x 3 37 1,
 J 4 (.mv (Z 0))] 2)
(S
(F [J 5 (.mv (Z 0))] 1)
(S
(S
(F [J 6 (.mv (Z 0))] 1)
(.block 0
(.loop
(S
(S
(F [M 7 6,
 M 8 0,
 L 9 8,
 V 10 .lss 7 9] 4)
(.cond (.t 10)
.skip
(.exit 0)))
(S
(.block 1
(S
(.e_ [M 13 0,
 M 14 6,
 I 15 29 13 14,
 D 16 0 15,
 K 17 2 16,
 K 18 2 3,
 J 19 (.eqv false [true,true] (.t 17) (.t 18))] [0,
0,
3,
7,
15,
0,
63] true)
(.cond (.t 19)
(F [M 20 5,
 Y 21 .add 20 1,
 M 5 21] 3)
.skip)))
(F [M 11 6,
 Y 12 .add 11 1,
 M 6 12] 3))))))
(S
(F [M 22 5,
 M 4 22] 2)
.ret))))
def rv:List RV:=[.tmp 4]
theorem enter:En Tryz.prog 113 23 s rv:=En.mk (c:= Tryz.f113.body.getD .ret) Tryz.func113
end ref10_there
namespace revoke_Index_threats_1
abbrev f:Nat:=136
def s:bP:=(S
(.e_ [T 8 1,
 A 9 8,
 D 10 2 9,
 T 11 10,
 D 12 0 2,
 K 13 2 12,
 J 14 (.look [true,true] true (.d .aL) (.t 11) (.t 13) false),
 L 15 14,
 J 16 (.mv (Z 0))] [0,
1,
3,
7,
0,
16,
63,
127,
0] true)
(.block 0
(.loop
(S
(F [V 17 .lss 16 15] 1)
(S
(.cond (.t 17)
.skip
(.exit 0))
(S
(.block 1
(S
(F [I 18 2 14 16,
 K 19 2 18,
 J 5 (.alloc 37 [b8 0,aB 0]),
 W 2 5 19] 4)
(S
(.e_ [T 20 1,
 A 21 20,
 D 22 3 21,
 T 23 22,
 K 24 2 5,
 J 25 (.look [true,true] true (.d .aL) (.t 23) (.t 24) false),
 L 26 25,
 J 27 (.mv (Z 0))] [0,
1,
3,
7,
0,
31,
63,
0] true)
(.block 2
(.loop
(S
(F [V 28 .lss 27 26] 1)
(S
(.cond (.t 28)
.skip
(.exit 2))
(S
(.block 3
(S
(F [I 29 2 25 27,
 K 30 2 29,
 J 7 (.alloc 37 [b8 0,aB 0]),
 W 2 7 30] 4)
(S
(.e_ [K 31 29 2,
 T 32 1,
 A 33 32,
 D 34 1 33,
 T 35 34,
 K 36 2 7,
 J 37 (.look [true,true] true (.agg bH) (.t 35) (.t 36) false),
 Q 38 137 31 37,
 O 39 38,
 M 40 39,
 G 41 0 40 true,
 H 42 (.load (some 2) (.t 7)) 40 true,
 H 43 (.call (.t 41) [(.t 42)]) 40 true,
 H 44 (.not (.t 43)) 40 true,
 U 45 40 44] [0,
0,
2,
6,
14,
0,
62,
127,
255,
511,
1023,
1023,
4095,
8191,
16383] true)
(.cond (.t 45)
.ret
.skip))))
(F [Y 46 .add 27 1,
 M 27 46] 2)))))))))
(F [Y 47 .add 16 1,
 M 16 47] 2)))))))
def rv:List RV:=[]
theorem enter:En Tryz.prog 136 48 s rv:=En.mk (c:= Tryz.f136.body.getD .ret) Tryz.func136
end revoke_Index_threats_1
end
section
namespace ref10_Known
abbrev f:Nat:=43
def s:bP:=(S
(F [J 2 (.alloc 39 z8)] 1)
(S
(F [J 3 (.alloc 39 z8)] 1)
(S
(S
(F [J 4 (.mv (Z 0))] 1)
(.block 0
(.loop
(S
(S
(F [M 5 4,
 M 6 0,
 L 7 6,
 V 8 .lss 5 7] 4)
(.cond (.t 8)
.skip
(.exit 0)))
(S
(.block 1
(S
(.e_ (M 11 0::
 M 12 4::
 I 13 29 11 12::
 D 14 0 13::
 D 15 0 14::
 T 16 15::
 J 17 (.bin .lss (.t 16) (.k (b8 8)))::
 M 18 17::
 G 19 0 18 true::
 G 20 4 18 true::
 H 21 (.dF 29 (.t 19) (.t 20)) 18 true::
 H 22 (.aT 0 (.t 21)) 18 true::
 H 23 (.aT 1 (.t 22)) 18 true::
 H 24 (.load none (.t 23)) 18 true::
 G 25 0 18 true::
 G 26 4 18 true::
 H 27 (.dF 29 (.t 25) (.t 26)) 18 true::
 H 28 (.aT 0 (.t 27)) 18 true::
 H 29 (.aT 0 (.t 28)) 18 true::
 H 30 (.load none (.t 29)) 18 true::
 H 31 (.jE 8 1 (.t 3) (.t 30)) 18 true::
 H 32 (.load none (.t 31)) 18 true::
 H 33 (.bin .gtr (.t 24) (.t 32)) 18 true::
 U 34 18 33::[]) (0::
0::
3::
7::
15::
31::
63::
127::
255::
255::
1023::
2047::
4095::
8191::
255::
255::
49407::
114943::
246015::
508159::
1032447::
2081023::
4194303::
8388607::[]) true)
(.cond (.t 34)
(.e_ [M 35 0,
 M 36 4,
 I 37 29 35 36,
 D 38 0 37,
 D 39 0 38,
 T 40 39,
 M 41 0,
 M 42 4,
 I 43 29 41 42,
 D 44 0 43,
 D 45 1 44,
 T 46 45,
 J 47 (.jE 8 1 (.t 3) (.t 40)),
 W 1 47 46] [0,
0,
3,
7,
15,
31,
0,
0,
192,
448,
960,
1984,
4095,
8191] true)
.skip)))
(F [M 9 4,
 Y 10 .add 9 1,
 M 4 10] 3))))))
(S
(F [K 48 8 3,
 W 8 2 48] 2)
.ret))))
def rv:List RV:=[.cell 2 (some 8)]
theorem enter:En Tryz.prog 43 49 s rv:=En.mk (c:= Tryz.f43.body.getD .ret) Tryz.func43
end ref10_Known
namespace slices_DeleteFunc_Lapi_Dot_api_Dot
abbrev f:Nat:=143
def s:bP:=(S
(F [J 4 (.mv (.k (.d .aL)))] 1)
(S
(F [M 8 0,
 M 9 1,
 Q 10 145 8 9,
 M 5 10] 4)
(S
(S
(F [M 11 5,
 J 12 (.bin .eql (.t 11) (.k (.d (.int .i64 (-1)))))] 2)
(.cond (.t 12)
(S
(F [M 13 0,
 M 4 13] 2)
.ret)
.skip))
(S
(S
(F [M 14 5,
 Y 15 .add 14 1,
 M 6 15] 3)
(.block 0
(.loop
(S
(S
(F [M 16 6,
 M 17 0,
 L 18 17,
 V 19 .lss 16 18] 4)
(.cond (.t 19)
.skip
(.exit 0)))
(S
(.block 1
(S
(F [M 22 0,
 M 23 6,
 I 24 2 22 23,
 K 25 2 24,
 J 7 (.alloc 37 [b8 0,aB 0]),
 W 2 7 25] 6)
(S
(F [M 26 1,
 K 27 2 7,
 J 28 (.call (.t 26) [(.t 27)]),
 O 29 28] 4)
(.cond (.t 29)
(S
(F [M 30 0,
 M 31 5,
 K 32 2 7,
 I 33 2 30 31,
 W 2 33 32] 5)
(F [M 34 5,
 Y 35 .add 34 1,
 M 5 35] 3))
.skip))))
(F [M 20 6,
 Y 21 .add 20 1,
 M 6 21] 3))))))
(S
(F [M 36 0,
 M 37 5,
 J 38 (.slc 2 (.t 36) (some (.t 37)) none),
 N (.Ns 2 [b8 0,aB 0] (.t 38))] 4)
(S
(F [M 39 0,
 M 40 5,
 J 41 (.slc 2 (.t 39) none (some (.t 40))),
 M 4 41] 4)
.ret))))))
def rv:List RV:=[.tmp 4]
theorem enter:En Tryz.prog 143 42 s rv:=En.mk (c:= Tryz.f143.body.getD .ret) Tryz.func143
end slices_DeleteFunc_Lapi_Dot_api_Dot
namespace slices_IndexFunc_Lapi_Dot_api_Dot
abbrev f:Nat:=145
def s:bP:=(S
(F [J 4 (.mv (Z 0))] 1)
(S
(S
(F [M 6 0,
 L 7 6,
 J 8 (.mv (Z 0))] 3)
(.block 0
(.loop
(S
(F [V 9 .lss 8 7] 1)
(S
(.cond (.t 9)
.skip
(.exit 0))
(S
(.block 1
(S
(F [M 10 8,
 M 5 10] 2)
(S
(F [M 11 1,
 M 12 0,
 M 13 5,
 I 14 2 12 13,
 K 15 2 14,
 J 16 (.call (.t 11) [(.t 15)])] 6)
(.cond (.t 16)
(S
(F [M 17 5,
 M 4 17] 2)
.ret)
.skip))))
(F [Y 18 .add 8 1,
 M 8 18] 2)))))))
(S
(F [J 4 (.mv (.k (.d (.int .i64 (-1)))))] 1)
.ret)))
def rv:List RV:=[.tmp 4]
theorem enter:En Tryz.prog 145 19 s rv:=En.mk (c:= Tryz.f145.body.getD .ret) Tryz.func145
end slices_IndexFunc_Lapi_Dot_api_Dot
end
section
namespace verdict_Of
abbrev f:Nat:=47
def s:bP:=(S
(F [J 2 (.mv (.k (.d .gP)))] 1)
(S
(F [M 6 0,
 P 7 95 6,
 M 5 7,
 E 8 0 5,
 E 9 1 5,
 M 3 8,
 M 4 9] 7)
(S
(F [M 10 3,
 M 2 10] 2)
.ret)))
def rv:List RV:=[.tmp 2]
theorem enter:En Tryz.prog 47 11 s rv:=En.mk (c:= Tryz.f47.body.getD .ret) Tryz.func47
end verdict_Of
namespace verdict_all
abbrev f:Nat:=95
def s:bP:=(S
(F [J 2 (.mv (.k (.d .gP))),
 J 3 (.mv (.k (.d .dZ)))] 2)
(S
(F [M 13 0,
 P 14 19 13,
 M 4 14] 3)
(S
(F [M 15 4,
 P 16 18 15,
 M 5 16] 3)
(S
(F [J 17 (.Bn),
 M 6 17] 2)
(S
(S
(F [M 18 4,
 P 19 65 18,
 L 20 19,
 J 21 (.mv (Z 0))] 4)
(.block 0
(.loop
(S
(F [V 22 .lss 21 20] 1)
(S
(.cond (.t 22)
.skip
(.exit 0))
(S
(.block 1
(S
(F [I 23 2 19 21,
 K 24 2 23,
 J 8 (.alloc 37 [b8 0,aB 0]),
 W 2 8 24] 4)
(F [M 25 6,
 K 26 2 8,
 N (.ru [true,true] true (.t 25) (.t 26) (.k (b8 0)))] 3)))
(F [Y 27 .add 21 1,
 M 21 27] 2)))))))
(S
(F [M 28 5,
 P 29 27 28,
 M 9 29] 3)
(S
(S
(F [M 30 9,
 L 31 30,
 J 32 (.mv (Z 0))] 3)
(.block 2
(.loop
(S
(F [V 33 .lss 32 31] 1)
(S
(.cond (.t 33)
.skip
(.exit 2))
(S
(.block 3
(S
(F [M 34 32,
 M 10 34] 2)
(S
(F [M 35 9,
 M 36 10,
 I 37 1 35 36,
 T 38 37,
 L 39 38,
 J 40 (.mv (Z 0))] 6)
(.block 4
(.loop
(S
(F [V 41 .lss 40 39] 1)
(S
(.cond (.t 41)
.skip
(.exit 4))
(S
(.block 5
(S
(F [I 42 2 38 40,
 K 43 2 42,
 J 12 (.alloc 37 [b8 0,aB 0]),
 W 2 12 43] 4)
(S
(F [M 44 6,
 K 45 2 12,
 N (.ru [true,true] true (.t 44) (.t 45) (.k (b8 2)))] 3)
(S
(F [M 46 5,
 M 47 6,
 K 48 2 12,
 R 49 99 46 47 48,
 L 50 49,
 Y 51 .gtr 50 0] 6)
(.cond (.t 51)
(F [M 52 6,
 K 53 2 12,
 N (.ru [true,true] true (.t 52) (.t 53) (.k (b8 1)))] 3)
.skip)))))
(F [Y 54 .add 40 1,
 M 40 54] 2)))))))))
(F [Y 55 .add 32 1,
 M 32 55] 2)))))))
(S
(F [M 56 6,
 M 57 5,
 M 2 56,
 M 3 57] 4)
.ret))))))))
def rv:List RV:=[.tmp 2,.tmp 3]
theorem enter:En Tryz.prog 95 58 s rv:=En.mk (c:= Tryz.f95.body.getD .ret) Tryz.func95
end verdict_all
namespace verdict_hits
abbrev f:Nat:=99
def s:bP:=(S
(F [x 4 76 1,
 x 5 37 2,
 J 6 (.mv (.k (.d .aL)))] 3)
(S
(F [M 10 0,
 K 11 2 5,
 Q 12 20 10 11,
 M 9 12,
 E 13 0 9,
 E 14 1 9,
 M 7 13,
 M 8 14] 8)
(S
(F [M 15 7,
 J 16 (.uj (.func 150) [] [(.t 4)]),
 Q 17 143 15 16,
 M 6 17] 4)
.ret)))
def rv:List RV:=[.tmp 6]
theorem enter:En Tryz.prog 99 18 s rv:=En.mk (c:= Tryz.f99.body.getD .ret) Tryz.func99
end verdict_hits
namespace verdict_hits_1
abbrev f:Nat:=150
def s:bP:=(S
(F [x 2 37 0,
 J 3 (.mv (B false))] 2)
(S
(F [T 4 1,
 K 5 2 2,
 J 6 (.look [true,true] true (b8 0) (.t 4) (.t 5) false),
 J 7 (.bin .neq (.t 6) (.k (b8 2))),
 M 3 7] 5)
.ret))
def rv:List RV:=[.tmp 3]
theorem enter:En Tryz.prog 150 8 s rv:=En.mk (c:= Tryz.f150.body.getD .ret) Tryz.func150
end verdict_hits_1
end
section
namespace law19_head
abbrev f:Nat:=48
def s:bP:=(S
(F [J 0 (.mv (B false))] 1)
(S
(F [J 15 (.call (C 96) []),
 M 1 15] 2)
(S
(F [M 16 1,
 P 17 47 16,
 M 2 17] 3)
(S
(F [J 18 (.call (C 54) []),
 M 3 18] 2)
(S
(S
(F (M 19 3::
 J 20 (.iZ false 0 (.t 19))::
 M 21 20::
 G 22 2 21 false::
 H 23 (.IX (.t 22)) 21 false::
 H 24 (.bin .neq (.t 23) (Z 5)) 21 false::
 J 25 (.pick (.t 21) (B true) (.t 24))::
 M 26 25::
 G 27 2 26 false::
 H 28 (.fC [b8 0,aB 0] [(1,1,(.k (aB 4)))]) 26 false::
 H 29 (.look [true,true] true (b8 0) (.t 27) (.t 28) false) 26 false::
 H 30 (.bin .neq (.t 29) (.k (b8 1))) 26 false::
 J 31 (.pick (.t 26) (B true) (.t 30))::
 M 32 31::
 G 33 2 32 false::
 H 34 (.fC [b8 0,aB 0] [(1,1,(.k (aB 3)))]) 32 false::
 H 35 (.look [true,true] true (b8 0) (.t 33) (.t 34) false) 32 false::
 H 36 (.bin .neq (.t 35) (.k (b8 2))) 32 false::
 J 37 (.pick (.t 32) (B true) (.t 36))::
 M 38 37::
 G 39 2 38 false::
 H 40 (.fC [b8 0,aB 0] [(0,1,(.k (b8 1))),(1,1,(.k (aB 1)))]) 38 false::
 H 41 (.look [true,true] true (b8 0) (.t 39) (.t 40) false) 38 false::
 H 42 (.bin .neq (.t 41) (.k (b8 2))) 38 false::
 J 43 (.pick (.t 38) (B true) (.t 42))::[]) 25)
(.cond (.t 43)
(S
(F [J 0 (.mv (B false))] 1)
.ret)
.skip))
(S
(S
(F [J 4 (.mv (Z 0))] 1)
(.block 0
(.loop
(S
(S
(F [M 44 4,
 Y 45 .lss 44 4] 2)
(.cond (.t 45)
.skip
(.exit 0)))
(S
(.block 1
(S
(F [M 49 3,
 M 50 1,
 M 51 4,
 I 52 29 50 51,
 K 53 29 52,
 Q 54 55 49 53,
 M 48 54,
 E 55 0 48,
 E 56 1 48,
 M 5 55,
 M 6 56] 11)
(S
(F [M 57 5,
 L 58 57,
 Y 59 .neq 58 0,
 M 60 59,
 G 61 6 60 false,
 H 62 (.bin .neq (.t 61) (Z 0)) 60 false,
 J 63 (.pick (.t 60) (B true) (.t 62))] 7)
(.cond (.t 63)
(S
(F [J 0 (.mv (B false))] 1)
.ret)
.skip))))
(F [M 46 4,
 Y 47 .add 46 1,
 M 4 47] 3))))))
(S
(F [M 65 3,
 M 66 1,
 J 67 (.dF 29 (.t 66) (Z 4)),
 K 68 29 67,
 Q 69 55 65 68,
 M 64 69,
 E 70 0 64,
 E 71 1 64,
 M 7 70,
 M 8 71] 10)
(S
(F [M 73 3,
 J 74 (.fC [b8 0,aB 0] [(1,1,(.k (aB 6)))]),
 J 75 (.fC bH [(0,2,(.t 74))]),
 Q 76 55 73 75,
 M 72 76,
 E 77 0 72,
 E 78 1 72,
 M 9 77,
 M 10 78] 9)
(S
(F [M 80 3,
 J 81 (.fC [b8 0,aB 0] [(1,1,(.k (aB 4)))]),
 Q 82 56 80 81,
 M 79 82,
 E 83 0 79,
 E 84 1 79,
 M 11 83,
 M 12 84] 8)
(S
(F [M 86 1,
 J 87 (.fC [b8 0,aB 0] [(1,1,(.k (aB 4)))]),
 Q 88 50 86 87,
 M 85 88,
 E 89 0 85,
 E 90 1 85,
 M 13 89,
 M 14 90] 8)
(S
(F (M 91 7::
 J 92 (.fC [b8 0,aB 0] [(1,1,(.k (aB 4)))])::
 J 93 (.mK 37 2 1 [b8 0,aB 0] [(0,2,(.t 92))])::
 Q 94 29 91 93::
 M 95 94::
 G 96 8 95 true::
 H 97 (.bin .eql (.t 96) (Z 0)) 95 true::
 U 98 95 97::
 M 99 98::
 G 100 10 99 true::
 H 101 (.bin .eql (.t 100) (Z 9)) 99 true::
 U 102 99 101::
 M 103 102::
 G 104 11 103 true::
 H 105 (.bin .eql (.t 104) (.k (b8 1))) 103 true::
 U 106 103 105::
 M 107 106::
 G 108 12 107 true::
 H 109 (.bin .eql (.t 108) (Z 0)) 107 true::
 U 110 107 109::
 M 111 110::
 G 112 13 111 true::
 H 113 (.fC [b8 0,aB 0] [(0,1,(.k (b8 1))),(1,1,(.k (aB 1)))]) 111 true::
 H 114 (.mK 37 2 1 [b8 0,aB 0] [(0,2,(.t 113))]) 111 true::
 H 115 (.call (C 29) [(.t 112),(.t 114)]) 111 true::
 U 116 111 115::
 M 117 116::
 G 118 14 117 true::
 H 119 (.bin .eql (.t 118) (Z 0)) 117 true::
 U 120 117 119::
 M 0 120::[]) 31)
.ret)))))))))))
def rv:List RV:=[.tmp 0]
theorem enter:En Tryz.prog 48 121 s rv:=En.mk (c:= Tryz.f48.body.getD .ret) Tryz.func48
end law19_head
namespace verdict_Hits
abbrev f:Nat:=50
def s:bP:=(S
(F [x 3 37 1,
 J 4 (.mv (.k (.d .aL))),
 J 5 (.mv (Z 0))] 3)
(S
(F [M 9 0,
 P 10 95 9,
 M 8 10,
 E 11 0 8,
 E 12 1 8,
 M 6 11,
 M 7 12] 7)
(S
(S
(F [M 13 6,
 K 14 2 3,
 J 15 (.look [true,true] true (b8 0) (.t 13) (.t 14) false),
 J 16 (.bin .eql (.t 15) (.k (b8 0)))] 4)
(.cond (.t 16)
(S
(F [J 4 (.mv (.k (.d .aL))),
 J 5 (.mv (Z 7))] 2)
.ret)
.skip))
(S
(F [M 17 7,
 M 18 6,
 K 19 2 3,
 R 20 99 17 18 19,
 M 4 20,
 J 5 (.mv (Z 0))] 6)
.ret))))
def rv:List RV:=[.tmp 4,.tmp 5]
theorem enter:En Tryz.prog 50 21 s rv:=En.mk (c:= Tryz.f50.body.getD .ret) Tryz.func50
end verdict_Hits
namespace verdict_New
abbrev f:Nat:=54
def s:bP:=(S
(F [J 0 (.mv (.k (.d .dZ)))] 1)
(S
(F [J 1 (.Bn),
 J 2 (.fC [(.d .aL),(.d .gP),aB 0,aB 0,aB 0,aB 0,aB 0,aB 0,aB 0,aB 0] [(1,1,(.t 1))]),
 x 3 98 2,
 M 0 3] 4)
.ret))
def rv:List RV:=[.tmp 0]
theorem enter:En Tryz.prog 54 4 s rv:=En.mk (c:= Tryz.f54.body.getD .ret) Tryz.func54
end verdict_New
namespace verdict_Engine_Put
abbrev f:Nat:=55
def s:bP:=(S
(F [x 2 90 0,
 x 3 43 1,
 J 4 (.mv (.k (.d .aL))),
 J 5 (.mv (Z 0))] 4)
(S
(S
(F [T 12 2,
 P 13 101 12] 2)
(.cond (.t 13)
(S
(F [J 4 (.mv (.k (.d .aL))),
 J 5 (.mv (Z 1))] 2)
.ret)
.skip))
(S
(.e_ [T 15 2,
 A 16 15,
 D 17 2 16,
 K 18 8 17,
 D 19 0 3,
 K 20 2 19,
 Q 21 102 18 20,
 M 14 21,
 E 22 0 14,
 E 23 1 14,
 J 6 (.alloc 39 z8),
 W 8 6 22,
 M 7 23] [0,
1,
3,
7,
0,
16,
63,
127,
255,
255,
0,
1535,
4095] true)
(S
(S
(.e_ [M 24 7,
 Y 25 .neq 24 0,
 M 26 25,
 H 27 (.load none (.t 2)) 26 false,
 H 28 (.dA (.t 27)) 26 false,
 H 29 (.aT 2 (.t 28)) 26 false,
 H 30 (.load (some 8) (.t 29)) 26 false,
 H 31 (.aT 2 (.t 3)) 26 false,
 H 32 (.load (some 8) (.t 31)) 26 false,
 H 33 (.call (C 103) [(.t 30),(.t 32)]) 26 false,
 H 34 (.not (.t 33)) 26 false,
 J 35 (.pick (.t 26) (B true) (.t 34))] [0,
1,
3,
7,
15,
31,
63,
7,
135,
511,
1023,
2047] true)
(.cond (.t 35)
(S
(F [J 4 (.mv (.k (.d .aL))),
 J 5 (.mv (Z 9))] 2)
.ret)
.skip))
(S
(F [D 36 28 3,
 T 37 36,
 P 38 104 37,
 D 39 28 3,
 W 1 39 38] 5)
(S
(F [T 40 2,
 A 41 40,
 D 42 1 41,
 T 43 42,
 J 8 (.alloc 76 [(.d .gP)]),
 W 1 8 43] 6)
(S
(.e_ (T 44 2::
 T 45 2::
 T 46 2::
 A 47 46::
 D 48 0 47::
 T 49 48::
 K 50 29 3::
 J 51 (.mK 43 29 1 bH [(0,29,(.t 50))])::
 J 52 (.app 43 29 144 (.t 49) (.t 51))::
 K 53 8 6::
 A 54 44::
 D 55 0 54::
 W 1 55 52::
 A 56 45::
 D 57 2 56::
 W 8 57 53::[]) (0::
0::
0::
4::
12::
28::
0::
64::
252::
0::
509::
1533::
3581::
8191::
16383::
32767::[]) true)
(S
(.e_ [T 58 2,
 T 59 2,
 A 60 59,
 D 61 0 60,
 T 62 61,
 P 63 47 62,
 A 64 58,
 D 65 1 64,
 W 1 65 63] [0,
0,
2,
6,
14,
30,
63,
127,
255] true)
(S
(F [J 66 (.uj (.func 105) [] [(.t 8),(.t 2)]),
 M 9 66] 2)
(S
(F [J 10 (.mv (.k (.d .aL)))] 1)
(S
(S
(F [T 67 2,
 A 68 67,
 D 69 1 68,
 T 70 69,
 J 71 (.mq (.t 70))] 5)
(.block 0
(.loop
(S
(F [J 72 (.kQ (.t 71)),
 E 73 0 72] 2)
(S
(.cond (.t 73)
.skip
(.exit 0))
(.block 1
(S
(F [J 74 (.nv (.t 71)),
 E 75 0 74,
 J 11 (.alloc 37 [b8 0,aB 0]),
 W 2 11 75] 4)
(S
(F [M 76 9,
 K 77 2 11,
 J 78 (.call (.t 76) [(.t 77)])] 3)
(.cond (.t 78)
(F [M 79 10,
 K 80 2 11,
 J 81 (.mK 37 2 1 [b8 0,aB 0] [(0,2,(.t 80))]),
 J 82 (.app 37 2 8 (.t 79) (.t 81)),
 M 10 82] 5)
.skip)))))))))
(S
(F [M 83 10,
 P 84 77 83,
 M 4 84,
 J 5 (.mv (Z 0))] 4)
.ret))))))))))))
def rv:List RV:=[.tmp 4,.tmp 5]
theorem enter:En Tryz.prog 55 85 s rv:=En.mk (c:= Tryz.f55.body.getD .ret) Tryz.func55
end verdict_Engine_Put
namespace verdict_Engine_Verdict
abbrev f:Nat:=56
def s:bP:=(S
(F [x 3 37 1,
 J 4 (.mv (.k (b8 0))),
 J 5 (.mv (Z 0))] 3)
(S
(S
(F [M 8 0,
 P 9 101 8] 2)
(.cond (.t 9)
(S
(F [J 4 (.mv (.k (b8 0))),
 J 5 (.mv (Z 1))] 2)
.ret)
.skip))
(S
(.e_ [M 11 0,
 A 12 11,
 D 13 1 12,
 T 14 13,
 K 15 2 3,
 J 16 (.look [true,true] true (b8 0) (.t 14) (.t 15) true),
 M 10 16,
 E 17 0 10,
 E 18 1 10,
 M 6 17,
 M 7 18] [0,
1,
3,
7,
0,
31,
63,
127,
127,
255,
1023] true)
(S
(S
(F [M 19 7,
 O 20 19] 2)
(.cond (.t 20)
(S
(F [J 4 (.mv (.k (b8 0))),
 J 5 (.mv (Z 7))] 2)
.ret)
.skip))
(S
(F [M 21 6,
 M 4 21,
 J 5 (.mv (Z 0))] 3)
.ret)))))
def rv:List RV:=[.tmp 4,.tmp 5]
theorem enter:En Tryz.prog 56 22 s rv:=En.mk (c:= Tryz.f56.body.getD .ret) Tryz.func56
end verdict_Engine_Verdict
namespace verdict_Engine_Known
abbrev f:Nat:=57
def s:bP:=(S
(F [J 2 (.alloc 39 z8)] 1)
(S
(S
(F [M 3 0,
 P 4 101 3] 2)
(.cond (.t 4)
(S
(F [J 5 (.fC z8 []),
 W 8 2 5] 2)
.ret)
.skip))
(S
(F [M 6 0,
 A 7 6,
 D 8 2 7,
 K 9 8 8,
 W 8 2 9] 5)
.ret)))
def rv:List RV:=[.cell 2 (some 8)]
theorem enter:En Tryz.prog 57 10 s rv:=En.mk (c:= Tryz.f57.body.getD .ret) Tryz.func57
end verdict_Engine_Known
namespace law19_row
abbrev f:Nat:=96
def s:bP:=(S
(F [J 0 (.mv (.k (.d .aL)))] 1)
(S
(F [J 2 (.fC [b8 0,aB 0] [(1,1,(.k (aB 1)))]),
 J 1 (.alloc 37 [b8 0,aB 0]),
 W 2 1 2] 3)
(S
(F (K 3 2 1::
 K 4 2 1::
 J 5 (.fC bH [(0,2,(.t 3)),(10,1,(.k (bE 1))),(11,1,(.k (aB 1))),(12,2,(.t 4))])::
 J 6 (.fC [b8 0,aB 0] [(1,1,(.k (aB 2)))])::
 J 7 (.fC z8 [(0,1,(.k (aB 1)))])::
 K 8 2 1::
 K 9 2 1::
 J 10 (.fC bH [(0,2,(.t 6)),(2,8,(.t 7)),(10,1,(.k (bE 2))),(11,1,(.k (aB 1))),(12,2,(.t 8)),(14,1,(.k (b8 1))),(15,2,(.t 9)),(17,1,(.k (aB 2))),(18,1,(.k (b8 2))),(20,1,(.k (bE 9)))])::
 J 11 (.fC [b8 0,aB 0] [(1,1,(.k (aB 3)))])::
 J 12 (.fC z8 [(0,1,(.k (aB 2)))])::
 K 13 2 1::
 J 14 (.fC [b8 0,aB 0] [(1,1,(.k (aB 2)))])::
 J 15 (.fC bH [(0,2,(.t 11)),(2,8,(.t 12)),(10,1,(.k (bE 3))),(11,1,(.k (aB 2))),(12,2,(.t 13)),(14,1,(.k (b8 3))),(15,2,(.t 14)),(26,1,(.k (aB 1)))])::
 J 16 (.fC [b8 0,aB 0] [(1,1,(.k (aB 4)))])::
 J 17 (.fC z8 [(0,1,(.k (aB 3)))])::
 K 18 2 1::
 J 19 (.fC [b8 0,aB 0] [(1,1,(.k (aB 2)))])::
 J 20 (.fC [b8 0,aB 0] [(1,1,(.k (aB 3)))])::
 J 21 (.fC bH [(0,2,(.t 16)),(2,8,(.t 17)),(10,1,(.k (bE 4))),(11,1,(.k (aB 2))),(12,2,(.t 18)),(14,1,(.k (b8 4))),(15,2,(.t 19)),(21,2,(.t 20)),(26,1,(.k (aB 2)))])::
 J 22 (.fC [b8 0,aB 0] [(0,1,(.k (b8 1))),(1,1,(.k (aB 1)))])::
 J 23 (.fC z8 [(0,1,(.k (aB 3)))])::
 K 24 2 1::
 K 25 2 1::
 J 26 (.fC [b8 0,aB 0] [(1,1,(.k (aB 2)))])::
 J 27 (.fC bH [(0,2,(.t 22)),(2,8,(.t 23)),(10,1,(.k (bE 4))),(11,1,(.k (aB 1))),(12,2,(.t 24)),(14,1,(.k (b8 2))),(15,2,(.t 25)),(21,2,(.t 26))])::
 J 28 (.mK 43 29 5 [b8 0,aB 0,aB 0,aB 0,aB 0,aB 0,aB 0,aB 0,aB 0,aB 0,bE 0,aB 0,b8 0,aB 0,b8 0,b8 0,aB 0,aB 0,b8 0,b8 0,bE 0,b8 0,aB 0,b8 0,aB 0,aB 0,aB 0,aB 0,(.d .aL),b8 0,aB 0,aB 0,aB 0,aB 0,aB 0,aB 0,aB 0,aB 0,aB 0,bE 0,aB 0,b8 0,aB 0,b8 0,b8 0,aB 0,aB 0,b8 0,b8 0,bE 0,b8 0,aB 0,b8 0,aB 0,aB 0,aB 0,aB 0,(.d .aL),b8 0,aB 0,aB 0,aB 0,aB 0,aB 0,aB 0,aB 0,aB 0,aB 0,bE 0,aB 0,b8 0,aB 0,b8 0,b8 0,aB 0,aB 0,b8 0,b8 0,bE 0,b8 0,aB 0,b8 0,aB 0,aB 0,aB 0,aB 0,(.d .aL),b8 0,aB 0,aB 0,aB 0,aB 0,aB 0,aB 0,aB 0,aB 0,aB 0,bE 0,aB 0,b8 0,aB 0,b8 0,b8 0,aB 0,aB 0,b8 0,b8 0,bE 0,b8 0,aB 0,b8 0,aB 0,aB 0,aB 0,aB 0,(.d .aL),b8 0,aB 0,aB 0,aB 0,aB 0,aB 0,aB 0,aB 0,aB 0,aB 0,bE 0,aB 0,b8 0,aB 0,b8 0,b8 0,aB 0,aB 0,b8 0,b8 0,bE 0,b8 0,aB 0,b8 0,aB 0,aB 0,aB 0,aB 0,(.d .aL)] [(0,29,(.t 5)),(29,29,(.t 10)),(58,29,(.t 15)),(87,29,(.t 21)),(116,29,(.t 27))])::
 M 0 28::[]) 27)
.ret)))
def rv:List RV:=[.tmp 0]
theorem enter:En Tryz.prog 96 29 s rv:=En.mk (c:= Tryz.f96.body.getD .ret) Tryz.func96
end law19_row
namespace verdict_Engine_none
abbrev f:Nat:=101
def s:bP:=(S
(F [J 2 (.mv (B false))] 1)
(S
(F [M 3 0,
 J 4 (.iZ false 0 (.t 3)),
 M 5 4,
 G 6 0 5 false,
 H 7 (.dA (.t 6)) 5 false,
 H 8 (.aT 1 (.t 7)) 5 false,
 H 9 (.load none (.t 8)) 5 false,
 H 10 (.iZ false 1 (.t 9)) 5 false,
 J 11 (.pick (.t 5) (B true) (.t 10)),
 M 2 11] 10)
.ret))
def rv:List RV:=[.tmp 2]
theorem enter:En Tryz.prog 101 12 s rv:=En.mk (c:= Tryz.f101.body.getD .ret) Tryz.func101
end verdict_Engine_none
namespace vector_Put
abbrev f:Nat:=102
def s:bP:=(S
(F [x 2 39 0,
 x 3 37 1,
 J 4 (.alloc 39 z8),
 J 5 (.mv (Z 0))] 4)
(S
(S
(F [K 8 2 3,
 P 9 141 8,
 O 10 9] 3)
(.cond (.t 10)
(S
(F [J 11 (.fC z8 []),
 W 8 4 11,
 J 5 (.mv (Z 2))] 3)
.ret)
.skip))
(S
(S
(F [K 13 8 2,
 D 14 0 3,
 T 15 14,
 Q 16 156 13 15,
 M 12 16,
 E 17 0 12,
 E 18 1 12,
 J 6 (.alloc 37 [b8 0,aB 0]),
 W 2 6 17,
 M 7 18] 10)
(S
(F [M 19 7,
 Y 20 .neq 19 0,
 M 21 20,
 H 22 (.load (some 2) (.t 6)) 21 false,
 H 23 (.load (some 2) (.t 3)) 21 false,
 H 24 (.eqv true [true,true] (.t 22) (.t 23)) 21 false,
 J 25 (.pick (.t 21) (B true) (.t 24))] 7)
(.cond (.t 25)
(S
(F [J 26 (.fC z8 []),
 W 8 4 26,
 J 5 (.mv (Z 9))] 3)
.ret)
.skip)))
(S
(F [D 27 0 3,
 T 28 27,
 D 29 1 3,
 T 30 29,
 J 31 (.jE 8 1 (.t 2) (.t 28)),
 W 1 31 30] 6)
(S
(F [K 32 8 2,
 W 8 4 32,
 J 5 (.mv (Z 0))] 3)
.ret)))))
def rv:List RV:=[.cell 4 (some 8),.tmp 5]
theorem enter:En Tryz.prog 102 33 s rv:=En.mk (c:= Tryz.f102.body.getD .ret) Tryz.func102
end vector_Put
namespace vector_Above
abbrev f:Nat:=103
def s:bP:=(S
(F [x 2 39 0,
 x 3 39 1,
 J 4 (.mv (B false))] 3)
(S
(.e_ [K 5 8 2,
 K 6 8 3,
 J 7 (.mK 39 8 2 [aB 0,aB 0,aB 0,aB 0,aB 0,aB 0,aB 0,aB 0,aB 0,aB 0,aB 0,aB 0,aB 0,aB 0,aB 0,aB 0] [(0,8,(.t 5)),(8,8,(.t 6))]),
 P 8 157 7,
 K 9 8 2,
 J 10 (.eqv false [true,true,true,true,true,true,true,true] (.t 8) (.t 9)),
 M 4 10] [0,
0,
3,
7,
0,
31,
63] true)
.ret))
def rv:List RV:=[.tmp 4]
theorem enter:En Tryz.prog 103 11 s rv:=En.mk (c:= Tryz.f103.body.getD .ret) Tryz.func103
end vector_Above
namespace verdict_Engine_Put_1
abbrev f:Nat:=105
def s:bP:=(S
(F [x 3 37 0,
 J 4 (.mv (B false))] 2)
(S
(F [T 8 1,
 K 9 2 3,
 J 10 (.look [true,true] true (b8 0) (.t 8) (.t 9) true),
 M 7 10,
 E 11 0 7,
 E 12 1 7,
 M 5 11,
 M 6 12] 8)
(S
(.e_ [M 13 6,
 M 14 13,
 G 15 5 14 true,
 H 16 (.load none (.t 2)) 14 true,
 H 17 (.dA (.t 16)) 14 true,
 H 18 (.aT 1 (.t 17)) 14 true,
 H 19 (.load none (.t 18)) 14 true,
 H 20 (.load (some 2) (.t 3)) 14 true,
 H 21 (.look [true,true] true (b8 0) (.t 19) (.t 20) false) 14 true,
 H 22 (.bin .neq (.t 15) (.t 21)) 14 true,
 U 23 14 22,
 M 4 23] [0,
1,
3,
3,
11,
27,
59,
3,
251,
511,
1023,
2047] true)
.ret)))
def rv:List RV:=[.tmp 4]
theorem enter:En Tryz.prog 105 24 s rv:=En.mk (c:= Tryz.f105.body.getD .ret) Tryz.func105
end verdict_Engine_Put_1
namespace vector_Next
abbrev f:Nat:=156
def s:bP:=(S
(F [x 2 39 0,
 J 4 (.alloc 37 [b8 0,aB 0]),
 J 5 (.mv (Z 0))] 3)
(S
(.block 0
(S
(F [M 7 1,
 J 8 (.conv .i64 (.t 7)),
 Y 9 .geq 8 8,
 M 6 9] 4)
(.cond (.t 6)
(S
(F [J 10 (.fC [b8 0,aB 0] []),
 W 2 4 10,
 J 5 (.mv (Z 2))] 3)
.ret)
(S
(F [M 12 1,
 J 13 (.jE 8 1 (.t 2) (.t 12)),
 T 14 13,
 J 15 (.bin .add (.t 14) (.k (aB 1))),
 J 16 (.bin .eql (.t 15) (.k (aB 0))),
 M 11 16] 6)
(.cond (.t 11)
(S
(F [J 17 (.fC [b8 0,aB 0] []),
 W 2 4 17,
 J 5 (.mv (Z 6))] 3)
.ret)
.skip)))))
(S
(F [M 18 1,
 M 19 1,
 J 20 (.jE 8 1 (.t 2) (.t 19)),
 T 21 20,
 J 22 (.bin .add (.t 21) (.k (aB 1))),
 J 23 (.fC [b8 0,aB 0] [(0,1,(.t 18)),(1,1,(.t 22))]),
 W 2 4 23,
 J 5 (.mv (Z 0))] 8)
.ret)))
def rv:List RV:=[.cell 4 (some 2),.tmp 5]
theorem enter:En Tryz.prog 156 24 s rv:=En.mk (c:= Tryz.f156.body.getD .ret) Tryz.func156
end vector_Next
namespace vector_Merge
abbrev f:Nat:=157
def s:bP:=(S
(F [J 2 (.alloc 39 z8)] 1)
(S
(F [J 3 (.call (C 187) [(C 188)]),
 M 4 0,
 Q 5 186 3 4,
 W 8 2 5] 4)
.ret))
def rv:List RV:=[.cell 2 (some 8)]
theorem enter:En Tryz.prog 157 6 s rv:=En.mk (c:= Tryz.f157.body.getD .ret) Tryz.func157
end vector_Merge
namespace vector_all_api_Vector
abbrev f:Nat:=186
def s:bP:=(S
(F [J 4 (.alloc 39 z8)] 1)
(S
(S
(F [M 7 1,
 L 8 7,
 J 9 (.mv (Z 0))] 3)
(.block 0
(.loop
(S
(F [V 10 .lss 9 8] 1)
(S
(.cond (.t 10)
.skip
(.exit 0))
(S
(.block 1
(S
(F [M 11 9,
 I 12 8 7 9,
 K 13 8 12,
 J 6 (.alloc 39 z8),
 M 5 11,
 W 8 6 13] 6)
(S
(F [M 14 0,
 K 15 8 4,
 K 16 8 6,
 J 17 (.call (.t 14) [(.t 15),(.t 16)]),
 W 8 4 17] 5)
(S
(F [M 18 5,
 Y 19 .eql 18 0] 2)
(.cond (.t 19)
(F [K 20 8 6,
 W 8 4 20] 2)
.skip)))))
(F [Y 21 .add 9 1,
 M 9 21] 2)))))))
(S
(F [K 22 8 4,
 W 8 4 22] 2)
.ret)))
def rv:List RV:=[.cell 4 (some 8)]
theorem enter:En Tryz.prog 186 23 s rv:=En.mk (c:= Tryz.f186.body.getD .ret) Tryz.func186
end vector_all_api_Vector
namespace vector_each
abbrev f:Nat:=187
def s:bP:=(S
(F [x 1 217 0,
 J 2 (.mv (.k (.d .gQ)))] 2)
(S
(F [J 3 (.uj (.func 197) [] [(.t 1)]),
 M 2 3] 2)
.ret))
def rv:List RV:=[.tmp 2]
theorem enter:En Tryz.prog 187 4 s rv:=En.mk (c:= Tryz.f187.body.getD .ret) Tryz.func187
end vector_each
namespace vector_Merge_1
abbrev f:Nat:=188
def s:bP:=(S
(F [J 4 (.mv (.k (aB 0)))] 1)
(S
(F [M 5 0,
 M 6 1,
 J 7 (.mx (.t 5) (.t 6)),
 M 4 7] 4)
.ret))
def rv:List RV:=[.tmp 4]
theorem enter:En Tryz.prog 188 8 s rv:=En.mk (c:= Tryz.f188.body.getD .ret) Tryz.func188
end vector_Merge_1
namespace vector_each_1
abbrev f:Nat:=197
def s:bP:=(S
(F [x 3 39 0,
 x 4 39 1,
 J 5 (.alloc 39 z8)] 3)
(S
(S
(F [J 7 (.mv (Z 0))] 1)
(.block 0
(.loop
(S
(F [Y 8 .lss 7 8] 1)
(S
(.cond (.t 8)
.skip
(.exit 0))
(S
(.block 1
(S
(F [M 9 7,
 M 6 9] 2)
(.e_ [M 10 6,
 T 11 2,
 M 12 6,
 J 13 (.jE 8 1 (.t 3) (.t 12)),
 T 14 13,
 M 15 6,
 J 16 (.jE 8 1 (.t 4) (.t 15)),
 T 17 16,
 J 18 (.call (.t 11) [(.t 14),(.t 17)]),
 J 19 (.jE 8 1 (.t 5) (.t 10)),
 W 1 19 18] [0,
0,
0,
4,
12,
0,
32,
96,
254,
511,
1023] true)))
(F [Y 20 .add 7 1,
 M 7 20] 2)))))))
(S
(F [K 21 8 5,
 W 8 5 21] 2)
.ret)))
def rv:List RV:=[.cell 5 (some 8)]
theorem enter:En Tryz.prog 197 22 s rv:=En.mk (c:= Tryz.f197.body.getD .ret) Tryz.func197
end vector_each_1
end
end Go.Proofs.YtaelhkkjgfobhaaGreat
