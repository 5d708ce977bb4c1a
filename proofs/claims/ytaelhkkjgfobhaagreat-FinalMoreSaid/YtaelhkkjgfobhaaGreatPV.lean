/-
 The code of the functions in the small form, by program (gen.py); each is checked against the translation by the kernel.
-/
import Derived.Test.YtaelhkkjgfobhaaGreatChecked
import Derived.Test.YtaelhkkjgfobhaaGreatP4
set_option linter.unusedVariables false
set_option linter.unusedSimpArgs false
set_option linter.unusedSectionVars false
namespace Go.Proofs.YtaelhkkjgfobhaaGreat
open Go.Sl Go.Sl.Co Go.Proofs
section
theorem mixed: Tryz.prog.follows .mixedOrders=true:=by kernel_rfl
abbrev IP:Nat:=4
abbrev j3:Nat:=22
abbrev C':Nat:=35
abbrev qV:Nat:=37
abbrev h9:Nat:=39
abbrev oL:Nat:=41
abbrev cN:Nat:=43
abbrev gT:Nat:=148
namespace ref10_Great
abbrev f:Nat:=14
def s:bY:=(.seq
(F [J 2 (.mv (B false))] 1)
(.seq
(F [J 3 (.mv (Z 0))] 1)
(.seq
(.seq
(F [J 4 (.mv (Z 0))] 1)
(.block 0
(.loop
(.seq
(.seq
(F [M 5 4,
 M 6 0,
 J 7 (.len (.t 6)),
 J 8 (.bin .lss (.t 5) (.t 7)),
 M 9 8,
 G 10 4 9 true,
 H 11 (.bin .lss (.t 10) (Z 100)) 9 true,
 J 12 (.pick (.t 9) (.t 11) (B false))] 8)
(.cond (.t 12)
.skip
(.exit 0)))
(.seq
(.block 1
(F [M 15 3,
 M 16 0,
 M 17 4,
 J 18 (.fK 29 (.t 16) (.t 17)),
 J 19 (.bp 28 (.t 18)),
 J 20 (.load none (.t 19)),
 J 21 (.len (.t 20)),
 J 22 (.bin .add (.t 15) (.t 21)),
 M 3 22] 9))
(F [M 13 4,
 J 14 (.bin .add (.t 13) (Z 1)),
 M 4 14] 3))))))
(.seq
(F [M 23 0,
 J 24 (.len (.t 23)),
 J 25 (.bin .gtr (.t 24) (Z 80)),
 M 26 25,
 G 27 3 26 false,
 H 28 (.bin .gtr (.t 27) (Z 300)) 26 false,
 J 29 (.pick (.t 26) (B true) (.t 28)),
 M 2 29] 8)
.ret))))
def rv:List RV:=[.tmp 2]
theorem enter:En Tryz.prog 14 30 s rv:=En.mk (c:= Tryz.f14.body.getD .ret) Tryz.func14 rfl (by kernel_rfl) (by kernel_rfl) (by kernel_rfl) (by kernel_rfl)
end ref10_Great
namespace shape_New
abbrev f:Nat:=19
def s:bY:=(.seq
(F [J 2 (.mv (.k (.d .jr)))] 1)
(.seq
(F [M 12 0,
 J 13 (.call (C 69) [(.t 12)]),
 J 14 (.yG),
 J 15 (.yG),
 J 16 (.yG),
 J 17 (.fI [(.d .jr),(.d .ir),(.d .ir),(.d .ir)] [(0,1,(.t 13)),(1,1,(.t 14)),(2,1,(.t 15)),(3,1,(.t 16))]),
 J 18 (.box 117 (.t 17)),
 M 3 18] 8)
(.seq
(.seq
(F [M 19 0,
 J 20 (.len (.t 19)),
 J 21 (.mv (Z 0))] 3)
(.block 0
(.loop
(.seq
(F [J 22 (.bin .lss (.t 21) (.t 20))] 1)
(.seq
(.cond (.t 22)
.skip
(.exit 0))
(.seq
(.block 1
(.seq
(F [J 23 (.fK 29 (.t 19) (.t 21)),
 J 24 (.load (some 29) (.t 23)),
 J 5 (.alloc 43 cq),
 N (.store 29 (.t 5) (.t 24))] 4)
(.seq
(.eM [M 26 3,
 J 27 (.dz (.t 26)),
 J 28 (.bp 1 (.t 27)),
 J 29 (.load none (.t 28)),
 J 30 (.bp 0 (.t 5)),
 J 31 (.load (some 2) (.t 30)),
 J 32 (.look [true,true] true (.agg cq) (.t 29) (.t 31) true),
 M 25 32,
 J 33 (.ext 0 (.t 25)),
 J 34 (.ext 1 (.t 25)),
 J 6 (.alloc 43 cq),
 N (.store 29 (.t 6) (.t 33)),
 M 7 34] [0,
1,
3,
7,
0,
16,
63,
127,
255,
255,
0,
1535,
4095] true)
(.seq
(F [M 35 7,
 J 36 (.not (.t 35))] 2)
(.cond (.t 36)
(.eM [M 37 3,
 J 38 (.dz (.t 37)),
 J 39 (.bp 1 (.t 38)),
 J 40 (.load none (.t 39)),
 J 41 (.bp 0 (.t 5)),
 J 42 (.load (some 2) (.t 41)),
 J 43 (.load (some 29) (.t 5)),
 N (.pG [true,true] true (.t 40) (.t 42) (.t 43))] [0,
1,
3,
7,
0,
16,
0,
127] true)
.skip)))))
(F [J 44 (.bin .add (.t 21) (Z 1)),
 M 21 44] 2)))))))
(.seq
(.seq
(F [M 45 3,
 J 46 (.dz (.t 45)),
 J 47 (.bp 1 (.t 46)),
 J 48 (.load none (.t 47)),
 J 49 (.lT (.t 48))] 5)
(.block 2
(.loop
(.seq
(F [J 50 (.kf (.t 49)),
 J 51 (.ext 0 (.t 50))] 2)
(.seq
(.cond (.t 51)
.skip
(.exit 2))
(.block 3
(.seq
(F [J 52 (.mT (.t 49)),
 J 53 (.ext 0 (.t 52)),
 J 54 (.ext 1 (.t 52)),
 J 8 (.alloc 37 [b8 0,ay 0]),
 J 9 (.alloc 43 cq),
 N (.store 2 (.t 8) (.t 53)),
 N (.store 29 (.t 9) (.t 54))] 7)
(.seq
(F [J 55 (.bp 14 (.t 9)),
 J 56 (.load none (.t 55)),
 J 57 (.bin .eql (.t 56) (.k (b8 3))),
 M 58 57,
 G 59 3 58 true,
 H 60 (.load (some 29) (.t 9)) 58 true,
 H 61 (.call (C 70) [(.t 59),(.t 60)]) 58 true,
 H 62 (.bin .eql (.t 61) (Z 0)) 58 true,
 J 63 (.pick (.t 58) (.t 62) (B false))] 9)
(.cond (.t 63)
(.eM [M 64 3,
 J 65 (.dz (.t 64)),
 J 66 (.bp 2 (.t 65)),
 J 67 (.load none (.t 66)),
 J 68 (.load (some 2) (.t 8)),
 N (.pG [true,true] true (.t 67) (.t 68) (Z 1))] [0,
1,
3,
7,
0,
31] true)
.skip)))))))))
(.seq
(.seq
(F [M 69 3,
 J 70 (.dz (.t 69)),
 J 71 (.bp 1 (.t 70)),
 J 72 (.load none (.t 71)),
 J 73 (.lT (.t 72))] 5)
(.block 4
(.loop
(.seq
(F [J 74 (.kf (.t 73)),
 J 75 (.ext 0 (.t 74))] 2)
(.seq
(.cond (.t 75)
.skip
(.exit 4))
(.block 5
(.seq
(F [J 76 (.mT (.t 73)),
 J 77 (.ext 0 (.t 76)),
 J 78 (.ext 1 (.t 76)),
 J 10 (.alloc 37 [b8 0,ay 0]),
 J 11 (.alloc 43 cq),
 N (.store 2 (.t 10) (.t 77)),
 N (.store 29 (.t 11) (.t 78))] 7)
(.seq
(F [J 79 (.bp 14 (.t 11)),
 J 80 (.load none (.t 79)),
 J 81 (.bin .eql (.t 80) (.k (b8 4))),
 M 82 81,
 G 83 3 82 true,
 H 84 (.load (some 29) (.t 11)) 82 true,
 H 85 (.call (C 70) [(.t 83),(.t 84)]) 82 true,
 H 86 (.bin .eql (.t 85) (Z 0)) 82 true,
 J 87 (.pick (.t 82) (.t 86) (B false))] 9)
(.cond (.t 87)
(.eM [M 88 3,
 J 89 (.dz (.t 88)),
 J 90 (.bp 3 (.t 89)),
 J 91 (.load none (.t 90)),
 J 92 (.load (some 2) (.t 10)),
 J 93 (.bp 21 (.t 11)),
 J 94 (.load (some 2) (.t 93)),
 N (.pG [true,true] true (.t 91) (.t 92) (.t 94))] [0,
1,
3,
7,
0,
0,
32,
127] true)
.skip)))))))))
(.seq
(F [M 95 3,
 M 2 95] 2)
.ret))))))
def rv:List RV:=[.tmp 2]
theorem enter:En Tryz.prog 19 96 s rv:=En.mk (c:= Tryz.f19.body.getD .ret) Tryz.func19 rfl (by kernel_rfl) (by kernel_rfl) (by kernel_rfl) (by kernel_rfl)
end shape_New
namespace ref03_In
abbrev f:Nat:=21
def s:bY:=(.seq
(F [J 3 (.box 37 (.t 1)),
 J 4 (.mv (B false))] 2)
(.seq
(.seq
(F [J 5 (.mv (Z 0))] 1)
(.block 0
(.loop
(.seq
(.seq
(F [M 6 5,
 M 7 0,
 J 8 (.len (.t 7)),
 J 9 (.bin .lss (.t 6) (.t 8))] 4)
(.cond (.t 9)
.skip
(.exit 0)))
(.seq
(.block 1
(.seq
(.eM [M 12 0,
 M 13 5,
 J 14 (.fK 2 (.t 12) (.t 13)),
 J 15 (.load (some 2) (.t 14)),
 J 16 (.load (some 2) (.t 3)),
 J 17 (.eqv false [true,true] (.t 15) (.t 16))] [0,
0,
3,
7,
0,
31] true)
(.cond (.t 17)
(.seq
(F [J 4 (.mv (B true))] 1)
.ret)
.skip)))
(F [M 10 5,
 J 11 (.bin .add (.t 10) (Z 1)),
 M 5 11] 3))))))
(.seq
(F [J 4 (.mv (B false))] 1)
.ret)))
def rv:List RV:=[.tmp 4]
theorem enter:En Tryz.prog 21 18 s rv:=En.mk (c:= Tryz.f21.body.getD .ret) Tryz.func21 rfl (by kernel_rfl) (by kernel_rfl) (by kernel_rfl) (by kernel_rfl)
end ref03_In
namespace ref03_Same
abbrev f:Nat:=29
def s:bY:=(.seq
(F [J 4 (.mv (B false))] 1)
(.seq
(.seq
(F [M 6 0,
 J 7 (.len (.t 6)),
 M 8 1,
 J 9 (.len (.t 8)),
 J 10 (.bin .neq (.t 7) (.t 9))] 5)
(.cond (.t 10)
(.seq
(F [J 4 (.mv (B false))] 1)
.ret)
.skip))
(.seq
(.seq
(F [J 5 (.mv (Z 0))] 1)
(.block 0
(.loop
(.seq
(.seq
(F [M 11 5,
 M 12 0,
 J 13 (.len (.t 12)),
 J 14 (.bin .lss (.t 11) (.t 13))] 4)
(.cond (.t 14)
.skip
(.exit 0)))
(.seq
(.block 1
(.seq
(.eM [M 17 0,
 M 18 5,
 J 19 (.fK 2 (.t 17) (.t 18)),
 J 20 (.load (some 2) (.t 19)),
 M 21 1,
 M 22 5,
 J 23 (.fK 2 (.t 21) (.t 22)),
 J 24 (.load (some 2) (.t 23)),
 J 25 (.eqv true [true,true] (.t 20) (.t 24))] [0,
0,
3,
7,
0,
0,
48,
112,
255] true)
(.cond (.t 25)
(.seq
(F [J 4 (.mv (B false))] 1)
.ret)
.skip)))
(F [M 15 5,
 J 16 (.bin .add (.t 15) (Z 1)),
 M 5 16] 3))))))
(.seq
(F [J 4 (.mv (B true))] 1)
.ret))))
def rv:List RV:=[.tmp 4]
theorem enter:En Tryz.prog 29 26 s rv:=En.mk (c:= Tryz.f29.body.getD .ret) Tryz.func29 rfl (by kernel_rfl) (by kernel_rfl) (by kernel_rfl) (by kernel_rfl)
end ref03_Same
namespace ref03_May
abbrev f:Nat:=41
def s:bY:=(.seq
(F [J 1 (.box 37 (.t 0)),
 J 2 (.mv (B false))] 2)
(.seq
(F [J 3 (.bp 0 (.t 1)),
 J 4 (.load none (.t 3)),
 J 5 (.bin .leq (.t 4) (.k (b8 7))),
 M 6 5,
 H 7 (.bp 1 (.t 1)) 6 true,
 H 8 (.load none (.t 7)) 6 true,
 H 9 (.bin .geq (.t 8) (.k (ay 1))) 6 true,
 J 10 (.pick (.t 6) (.t 9) (B false)),
 M 2 10] 9)
.ret))
def rv:List RV:=[.tmp 2]
theorem enter:En Tryz.prog 41 11 s rv:=En.mk (c:= Tryz.f41.body.getD .ret) Tryz.func41 rfl (by kernel_rfl) (by kernel_rfl) (by kernel_rfl) (by kernel_rfl)
end ref03_May
namespace ref04_Covers
abbrev f:Nat:=45
def s:bY:=(.seq
(F [J 2 (.box 39 (.t 0)),
 J 3 (.box 37 (.t 1)),
 J 4 (.mv (B false))] 3)
(.seq
(.eM [J 5 (.load (some 2) (.t 3)),
 J 6 (.call (C 41) [(.t 5)]),
 M 7 6,
 H 8 (.bp 1 (.t 3)) 7 true,
 H 9 (.load none (.t 8)) 7 true,
 H 10 (.bp 0 (.t 3)) 7 true,
 H 11 (.load none (.t 10)) 7 true,
 H 12 (.sD 8 1 (.t 2) (.t 11)) 7 true,
 H 13 (.load none (.t 12)) 7 true,
 H 14 (.bin .leq (.t 9) (.t 13)) 7 true,
 J 15 (.pick (.t 7) (.t 14) (B false)),
 M 4 15] [0,
1,
3,
7,
15,
7,
39,
103,
231,
511,
1023,
2047] true)
.ret))
def rv:List RV:=[.tmp 4]
theorem enter:En Tryz.prog 45 16 s rv:=En.mk (c:= Tryz.f45.body.getD .ret) Tryz.func45 rfl (by kernel_rfl) (by kernel_rfl) (by kernel_rfl) (by kernel_rfl)
end ref04_Covers
namespace shape_Shape_Tree
abbrev f:Nat:=64
def s:bY:=(.seq
(F [J 2 (.mv (.k (.d .jr)))] 1)
(.seq
(.seq
(F [M 3 0,
 J 4 (.call (C 115) [(.t 3)])] 2)
(.cond (.t 4)
(.seq
(F [J 2 (.mv (.k (.d .jr)))] 1)
.ret)
.skip))
(.seq
(F [M 5 0,
 J 6 (.dz (.t 5)),
 J 7 (.bp 0 (.t 6)),
 J 8 (.load none (.t 7)),
 M 2 8] 5)
.ret)))
def rv:List RV:=[.tmp 2]
theorem enter:En Tryz.prog 64 9 s rv:=En.mk (c:= Tryz.f64.body.getD .ret) Tryz.func64 rfl (by kernel_rfl) (by kernel_rfl) (by kernel_rfl) (by kernel_rfl)
end shape_Shape_Tree
namespace shape_Shape_Dots
abbrev f:Nat:=65
def s:bY:=(.seq
(F [J 2 (.mv (.k (.d .aP)))] 1)
(.seq
(.seq
(F [M 3 0,
 J 4 (.call (C 115) [(.t 3)])] 2)
(.cond (.t 4)
(.seq
(F [J 2 (.mv (.k (.d .aP)))] 1)
.ret)
.skip))
(.seq
(F [M 5 0,
 J 6 (.dz (.t 5)),
 J 7 (.bp 1 (.t 6)),
 J 8 (.load none (.t 7)),
 J 9 (.call (C 117) [(.t 8)]),
 J 10 (.call (C 116) [(.t 9),(C 118)]),
 M 2 10] 7)
.ret)))
def rv:List RV:=[.tmp 2]
theorem enter:En Tryz.prog 65 11 s rv:=En.mk (c:= Tryz.f65.body.getD .ret) Tryz.func65 rfl (by kernel_rfl) (by kernel_rfl) (by kernel_rfl) (by kernel_rfl)
end shape_Shape_Dots
namespace shape_Shape_Good
abbrev f:Nat:=66
def s:bY:=(.seq
(F [J 3 (.box 37 (.t 1)),
 J 4 (.mv (B false))] 2)
(.seq
(F [M 8 0,
 J 9 (.load (some 2) (.t 3)),
 J 10 (.call (C 67) [(.t 8),(.t 9)]),
 M 7 10,
 J 11 (.ext 0 (.t 7)),
 J 12 (.ext 1 (.t 7)),
 J 5 (.alloc 43 cq),
 N (.store 29 (.t 5) (.t 11)),
 M 6 12] 9)
(.seq
(F [M 13 6,
 M 14 13,
 G 15 0 14 true,
 H 16 (.load (some 29) (.t 5)) 14 true,
 H 17 (.call (C 70) [(.t 15),(.t 16)]) 14 true,
 H 18 (.bin .eql (.t 17) (Z 0)) 14 true,
 J 19 (.pick (.t 14) (.t 18) (B false)),
 M 4 19] 8)
.ret)))
def rv:List RV:=[.tmp 4]
theorem enter:En Tryz.prog 66 20 s rv:=En.mk (c:= Tryz.f66.body.getD .ret) Tryz.func66 rfl (by kernel_rfl) (by kernel_rfl) (by kernel_rfl) (by kernel_rfl)
end shape_Shape_Good
namespace shape_Shape_Op
abbrev f:Nat:=67
def s:bY:=(.seq
(F [J 3 (.box 37 (.t 1)),
 J 4 (.alloc 43 cq),
 J 5 (.mv (B false))] 3)
(.seq
(.seq
(F [M 8 0,
 J 9 (.call (C 115) [(.t 8)])] 2)
(.cond (.t 9)
(.seq
(F [J 10 (.fI cq []),
 N (.store 29 (.t 4) (.t 10)),
 J 5 (.mv (B false))] 3)
.ret)
.skip))
(.seq
(.eM [M 12 0,
 J 13 (.dz (.t 12)),
 J 14 (.bp 1 (.t 13)),
 J 15 (.load none (.t 14)),
 J 16 (.load (some 2) (.t 3)),
 J 17 (.look [true,true] true (.agg cq) (.t 15) (.t 16) true),
 M 11 17,
 J 18 (.ext 0 (.t 11)),
 J 19 (.ext 1 (.t 11)),
 J 6 (.alloc 43 cq),
 N (.store 29 (.t 6) (.t 18)),
 M 7 19] [0,
1,
3,
7,
0,
31,
63,
127,
127,
0,
767,
2047] true)
(.seq
(F [J 20 (.bp 28 (.t 6)),
 J 21 (.load none (.t 20)),
 J 22 (.call (C 104) [(.t 21)]),
 J 23 (.bp 28 (.t 6)),
 N (.store 1 (.t 23) (.t 22))] 5)
(.seq
(F [J 24 (.load (some 29) (.t 6)),
 M 25 7,
 N (.store 29 (.t 4) (.t 24)),
 M 5 25] 4)
.ret)))))
def rv:List RV:=[.cell 4 (some 29),.tmp 5]
theorem enter:En Tryz.prog 67 26 s rv:=En.mk (c:= Tryz.f67.body.getD .ret) Tryz.func67 rfl (by kernel_rfl) (by kernel_rfl) (by kernel_rfl) (by kernel_rfl)
end shape_Shape_Op
namespace tree_Tree_Chain
abbrev f:Nat:=68
def s:bY:=(.seq
(F [J 3 (.box 37 (.t 1)),
 J 4 (.mv (.k (.d .aP))),
 J 5 (.mv (Z 0))] 3)
(.seq
(.seq
(F [M 11 0,
 J 12 (.load (some 2) (.t 3)),
 J 13 (.call (C 119) [(.t 11),(.t 12)]),
 M 10 13,
 J 14 (.ext 0 (.t 10)),
 J 15 (.ext 1 (.t 10)),
 J 6 (.alloc 158 [b8 0,ay 0,b8 0,ay 0,b8 0,ay 0,ay 0,b8 0,b8 0,bU 0,i6 0]),
 N (.store 11 (.t 6) (.t 14)),
 M 7 15] 9)
(.seq
(F [M 16 7,
 J 17 (.bin .neq (.t 16) (Z 0))] 2)
(.cond (.t 17)
(.seq
(F [M 18 7,
 J 4 (.mv (.k (.d .aP))),
 M 5 18] 3)
.ret)
.skip)))
(.seq
(F [J 8 (.alloc 31 [(.d .aP)])] 1)
(.seq
(.seq
(F [M 19 0,
 J 20 (.load (some 2) (.t 3)),
 J 21 (.call (C 120) [(.t 19),(.t 20)])] 3)
(.block 0
(.qH (.t 21) [22]
(F [J 9 (.alloc 158 [b8 0,ay 0,b8 0,ay 0,b8 0,ay 0,ay 0,b8 0,b8 0,bU 0,i6 0]),
 N (.store 11 (.t 9) (.t 22))] 2)
(.block 1
(F [J 23 (.load none (.t 8)),
 J 24 (.bp 0 (.t 9)),
 J 25 (.load (some 2) (.t 24)),
 J 26 (.pz 37 2 1 [b8 0,ay 0] [(0,2,(.t 25))]),
 J 27 (.app 37 2 8 (.t 23) (.t 26)),
 N (.store 1 (.t 8) (.t 27))] 6)))))
(.seq
(F [J 28 (.load none (.t 8)),
 M 4 28,
 J 5 (.mv (Z 0))] 3)
.ret)))))
def rv:List RV:=[.tmp 4,.tmp 5]
theorem enter:En Tryz.prog 68 29 s rv:=En.mk (c:= Tryz.f68.body.getD .ret) Tryz.func68 rfl (by kernel_rfl) (by kernel_rfl) (by kernel_rfl) (by kernel_rfl)
end tree_Tree_Chain
namespace tree_New
abbrev f:Nat:=69
def s:bY:=(.seq
(F [J 2 (.mv (.k (.d .jr)))] 1)
(.seq
(F [J 8 (.yG),
 J 9 (.yG),
 J 10 (.fI [(.d .ir),(.d .ir)] [(0,1,(.t 8)),(1,1,(.t 9))]),
 J 11 (.box 166 (.t 10)),
 M 3 11] 5)
(.seq
(F [J 12 (.yG),
 J 4 (.alloc 114 [(.d .ir)]),
 N (.store 1 (.t 4) (.t 12))] 3)
(.seq
(F [M 13 0,
 J 14 (.call (C 106) [(.t 13)]),
 J 15 (.rC (.func 122) [] [(.t 4)]),
 J 16 (.call (C 121) [(.t 14),(.t 15)]),
 M 5 16] 5)
(.seq
(.seq
(F [J 6 (.mv (B true))] 1)
(.block 0
(.loop
(.seq
(.seq
(F [M 17 6] 1)
(.cond (.t 17)
.skip
(.exit 0)))
(.block 1
(.seq
(F [M 18 5,
 J 19 (.len (.t 18)),
 M 7 19] 3)
(.seq
(F [M 20 5,
 M 21 3,
 J 22 (.rC (.func 123) [(.t 21)] []),
 J 23 (.call (C 121) [(.t 20),(.t 22)]),
 M 5 23] 5)
(F [M 24 5,
 J 25 (.len (.t 24)),
 M 26 7,
 J 27 (.bin .lss (.t 25) (.t 26)),
 M 6 27] 5))))))))
(.seq
(F [M 28 3,
 M 2 28] 2)
.ret))))))
def rv:List RV:=[.tmp 2]
theorem enter:En Tryz.prog 69 29 s rv:=En.mk (c:= Tryz.f69.body.getD .ret) Tryz.func69 rfl (by kernel_rfl) (by kernel_rfl) (by kernel_rfl) (by kernel_rfl)
end tree_New
namespace shape_Shape_Why
abbrev f:Nat:=70
def s:bY:=(.seq
(F [J 2 (.box 29 (.t 0)),
 J 3 (.box 43 (.t 1)),
 J 4 (.mv (Z 0))] 3)
(.seq
(.seq
(F [J 10 (.load none (.t 2)),
 J 11 (.call (C 115) [(.t 10)])] 2)
(.cond (.t 11)
(.seq
(F [J 4 (.mv (Z 1))] 1)
.ret)
.skip))
(.seq
(F [J 13 (.load none (.t 2)),
 J 14 (.bp 15 (.t 3)),
 J 15 (.load (some 2) (.t 14)),
 J 16 (.load (some 29) (.t 3)),
 J 17 (.call (C 124) [(.t 13),(.t 15),(.t 16)]),
 M 12 17,
 J 18 (.ext 0 (.t 12)),
 J 19 (.ext 1 (.t 12)),
 J 5 (.alloc 158 [b8 0,ay 0,b8 0,ay 0,b8 0,ay 0,ay 0,b8 0,b8 0,bU 0,i6 0]),
 J 6 (.alloc 4 [(.d (.bool false))]),
 N (.store 11 (.t 5) (.t 18)),
 N (.store 1 (.t 6) (.t 19))] 12)
(.seq
(F [J 20 (.bp 14 (.t 3)),
 J 21 (.load none (.t 20)),
 J 22 (.bin .eql (.t 21) (.k (b8 0))),
 J 7 (.alloc 4 [(.d (.bool false))]),
 N (.store 1 (.t 7) (.t 22))] 5)
(.seq
(.seq
(F (J 23 (.rC (.func 125) [] [(.t 3)])::
 J 24 (.fI [i6 0,(.d .f_)] [(0,1,(Z 2)),(1,1,(.t 23))])::
 J 25 (.rC (.func 126) [] [(.t 2),(.t 3)])::
 J 26 (.fI [i6 0,(.d .f_)] [(0,1,(Z 271)),(1,1,(.t 25))])::
 J 27 (.rC (.func 128) [] [(.t 7),(.t 6)])::
 J 28 (.fI [i6 0,(.d .f_)] [(0,1,(Z 272)),(1,1,(.t 27))])::
 J 29 (.rC (.func 129) [] [(.t 7),(.t 5),(.t 3)])::
 J 30 (.fI [i6 0,(.d .f_)] [(0,1,(Z 273)),(1,1,(.t 29))])::
 J 31 (.rC (.func 130) [] [(.t 5),(.t 3)])::
 J 32 (.fI [i6 0,(.d .f_)] [(0,1,(Z 274)),(1,1,(.t 31))])::
 J 33 (.rC (.func 132) [] [(.t 3),(.t 2)])::
 J 34 (.fI [i6 0,(.d .f_)] [(0,1,(Z 275)),(1,1,(.t 33))])::
 J 35 (.rC (.func 134) [] [(.t 2),(.t 3)])::
 J 36 (.fI [i6 0,(.d .f_)] [(0,1,(Z 276)),(1,1,(.t 35))])::
 J 37 (.fI [i6 0,(.d .f_),i6 0,(.d .f_),i6 0,(.d .f_),i6 0,(.d .f_),i6 0,(.d .f_),i6 0,(.d .f_),i6 0,(.d .f_)] [(0,2,(.t 24)),(2,2,(.t 26)),(4,2,(.t 28)),(6,2,(.t 30)),(8,2,(.t 32)),(10,2,(.t 34)),(12,2,(.t 36))])::
 J 38 (.mv (Z 0))::[]) 16)
(.block 0
(.loop
(.seq
(F [J 39 (.bin .lss (.t 38) (Z 7))] 1)
(.seq
(.cond (.t 39)
.skip
(.exit 0))
(.seq
(.block 1
(.seq
(F [J 40 (.index 7 2 true (.t 37) (.t 38)),
 J 9 (.alloc 171 [i6 0,(.d .f_)]),
 N (.store 2 (.t 9) (.t 40))] 3)
(.seq
(F [J 41 (.bp 1 (.t 9)),
 J 42 (.load none (.t 41)),
 J 43 (.call (.t 42) [])] 3)
(.cond (.t 43)
(.seq
(F [J 44 (.bp 0 (.t 9)),
 J 45 (.load none (.t 44)),
 M 4 45] 3)
.ret)
.skip))))
(F [J 46 (.bin .add (.t 38) (Z 1)),
 M 38 46] 2)))))))
(.seq
(F [J 4 (.mv (Z 0))] 1)
.ret))))))
def rv:List RV:=[.tmp 4]
theorem enter:En Tryz.prog 70 47 s rv:=En.mk (c:= Tryz.f70.body.getD .ret) Tryz.func70 rfl (by kernel_rfl) (by kernel_rfl) (by kernel_rfl) (by kernel_rfl)
end shape_Shape_Why
namespace dot_Sort
abbrev f:Nat:=77
def s:bY:=(.seq
(F [J 2 (.mv (.k (.d .aP)))] 1)
(.seq
(F [M 3 0,
 J 4 (.call (C 139) [(.t 3)]),
 J 5 (.call (C 140) [(.t 4)]),
 M 2 5] 4)
.ret))
def rv:List RV:=[.tmp 2]
theorem enter:En Tryz.prog 77 6 s rv:=En.mk (c:= Tryz.f77.body.getD .ret) Tryz.func77 rfl (by kernel_rfl) (by kernel_rfl) (by kernel_rfl) (by kernel_rfl)
end dot_Sort
namespace vector_Covers
abbrev f:Nat:=85
def s:bY:=(.seq
(F [J 2 (.box 39 (.t 0)),
 J 3 (.box 37 (.t 1)),
 J 4 (.mv (B false))] 3)
(.seq
(.eM [J 5 (.load (some 2) (.t 3)),
 J 6 (.call (C 141) [(.t 5)]),
 M 7 6,
 H 8 (.bp 0 (.t 3)) 7 true,
 H 9 (.load none (.t 8)) 7 true,
 H 10 (.sD 8 1 (.t 2) (.t 9)) 7 true,
 H 11 (.load none (.t 10)) 7 true,
 H 12 (.bp 1 (.t 3)) 7 true,
 H 13 (.load none (.t 12)) 7 true,
 H 14 (.bin .geq (.t 11) (.t 13)) 7 true,
 J 15 (.pick (.t 7) (.t 14) (B false)),
 M 4 15] [0,
1,
3,
7,
15,
31,
63,
7,
135,
511,
1023,
2047] true)
.ret))
def rv:List RV:=[.tmp 4]
theorem enter:En Tryz.prog 85 16 s rv:=En.mk (c:= Tryz.f85.body.getD .ret) Tryz.func85 rfl (by kernel_rfl) (by kernel_rfl) (by kernel_rfl) (by kernel_rfl)
end vector_Covers
namespace slices_Clone_Lapi_Claim_api_Claim
abbrev f:Nat:=104
def s:bY:=(.seq
(F [J 2 (.mv (.k (.d .aP)))] 1)
(.seq
(.seq
(F [M 3 0,
 J 4 (.jM false 3 (.t 3))] 2)
(.cond (.t 4)
(.seq
(F [J 2 (.mv (.k (.d .aP)))] 1)
.ret)
.skip))
(.seq
(F [J 5 (.pz 148 4 0 [] []),
 M 6 0,
 J 7 (.app 148 4 16 (.t 5) (.t 6)),
 M 2 7] 4)
.ret)))
def rv:List RV:=[.tmp 2]
theorem enter:En Tryz.prog 104 8 s rv:=En.mk (c:= Tryz.f104.body.getD .ret) Tryz.func104 rfl (by kernel_rfl) (by kernel_rfl) (by kernel_rfl) (by kernel_rfl)
end slices_Clone_Lapi_Claim_api_Claim
namespace slices_Clone_Lapi_Op_api_Op
abbrev f:Nat:=106
def s:bY:=(.seq
(F [J 2 (.mv (.k (.d .aP)))] 1)
(.seq
(.seq
(F [M 3 0,
 J 4 (.jM false 3 (.t 3))] 2)
(.cond (.t 4)
(.seq
(F [J 2 (.mv (.k (.d .aP)))] 1)
.ret)
.skip))
(.seq
(F [J 5 (.pz 43 29 0 [] []),
 M 6 0,
 J 7 (.app 43 29 144 (.t 5) (.t 6)),
 M 2 7] 4)
.ret)))
def rv:List RV:=[.tmp 2]
theorem enter:En Tryz.prog 106 8 s rv:=En.mk (c:= Tryz.f106.body.getD .ret) Tryz.func106 rfl (by kernel_rfl) (by kernel_rfl) (by kernel_rfl) (by kernel_rfl)
end slices_Clone_Lapi_Op_api_Op
namespace shape_Shape_none
abbrev f:Nat:=115
def s:bY:=(.seq
(F [J 2 (.mv (B false))] 1)
(.seq
(F [M 3 0,
 J 4 (.jM false 0 (.t 3)),
 M 5 4,
 G 6 0 5 false,
 H 7 (.dz (.t 6)) 5 false,
 H 8 (.bp 1 (.t 7)) 5 false,
 H 9 (.load none (.t 8)) 5 false,
 H 10 (.jM false 1 (.t 9)) 5 false,
 J 11 (.pick (.t 5) (B true) (.t 10)),
 M 2 11] 10)
.ret))
def rv:List RV:=[.tmp 2]
theorem enter:En Tryz.prog 115 12 s rv:=En.mk (c:= Tryz.f115.body.getD .ret) Tryz.func115 rfl (by kernel_rfl) (by kernel_rfl) (by kernel_rfl) (by kernel_rfl)
end shape_Shape_none
namespace slices_SortedFunc_api_Dot
abbrev f:Nat:=116
def s:bY:=(.seq
(F [J 4 (.mv (.k (.d .aP)))] 1)
(.seq
(F [M 6 0,
 J 7 (.call (C 159) [(.t 6)]),
 M 5 7] 3)
(.seq
(F [M 8 5,
 M 9 1,
 J 10 (.call (C 160) [(.t 8),(.t 9)])] 3)
(.seq
(F [M 11 5,
 M 4 11] 2)
.ret))))
def rv:List RV:=[.tmp 4]
theorem enter:En Tryz.prog 116 12 s rv:=En.mk (c:= Tryz.f116.body.getD .ret) Tryz.func116 rfl (by kernel_rfl) (by kernel_rfl) (by kernel_rfl) (by kernel_rfl)
end slices_SortedFunc_api_Dot
namespace maps_Keys_map_api_Dot_api_Op_api_Dot_api_Op
abbrev f:Nat:=117
def s:bY:=(.seq
(F [J 1 (.box 107 (.t 0)),
 J 2 (.mv (.k (.d .f_)))] 2)
(.seq
(F [J 3 (.rC (.func 161) [] [(.t 1)]),
 M 2 3] 2)
.ret))
def rv:List RV:=[.tmp 2]
theorem enter:En Tryz.prog 117 4 s rv:=En.mk (c:= Tryz.f117.body.getD .ret) Tryz.func117 rfl (by kernel_rfl) (by kernel_rfl) (by kernel_rfl) (by kernel_rfl)
end maps_Keys_map_api_Dot_api_Op_api_Dot_api_Op
namespace dot_Compare
abbrev f:Nat:=118
def s:bY:=(.seq
(F [J 2 (.box 37 (.t 0)),
 J 3 (.box 37 (.t 1)),
 J 4 (.mv (Z 0))] 3)
(.seq
(.eM [J 5 (.bp 0 (.t 2)),
 J 6 (.load none (.t 5)),
 J 7 (.bp 0 (.t 3)),
 J 8 (.load none (.t 7)),
 J 9 (.call (C 148) [(.t 6),(.t 8)]),
 J 10 (.bp 1 (.t 2)),
 J 11 (.load none (.t 10)),
 J 12 (.bp 1 (.t 3)),
 J 13 (.load none (.t 12)),
 J 14 (.call (C 149) [(.t 11),(.t 13)]),
 J 15 (.pz 3 1 2 [i6 0,i6 0] [(0,1,(.t 9)),(1,1,(.t 14))]),
 J 16 (.call (C 146) [(.t 15)]),
 M 4 16] [0,
1,
0,
4,
15,
0,
32,
0,
128,
511,
1023,
2047,
4095] true)
.ret))
def rv:List RV:=[.tmp 4]
theorem enter:En Tryz.prog 118 17 s rv:=En.mk (c:= Tryz.f118.body.getD .ret) Tryz.func118 rfl (by kernel_rfl) (by kernel_rfl) (by kernel_rfl) (by kernel_rfl)
end dot_Compare
namespace tree_Tree_Get
abbrev f:Nat:=119
def s:bY:=(.seq
(F [J 3 (.box 37 (.t 1)),
 J 4 (.alloc 158 [b8 0,ay 0,b8 0,ay 0,b8 0,ay 0,ay 0,b8 0,b8 0,bU 0,i6 0]),
 J 5 (.mv (Z 0))] 3)
(.seq
(.seq
(F [M 8 0,
 J 9 (.call (C 162) [(.t 8)])] 2)
(.cond (.t 9)
(.seq
(F [J 10 (.fI [b8 0,ay 0,b8 0,ay 0,b8 0,ay 0,ay 0,b8 0,b8 0,bU 0,i6 0] []),
 N (.store 11 (.t 4) (.t 10)),
 J 5 (.mv (Z 1))] 3)
.ret)
.skip))
(.seq
(.eM [M 12 0,
 J 13 (.dz (.t 12)),
 J 14 (.bp 0 (.t 13)),
 J 15 (.load none (.t 14)),
 J 16 (.load (some 2) (.t 3)),
 J 17 (.look [true,true] true (.agg [b8 0,ay 0,b8 0,ay 0,b8 0,ay 0,ay 0,b8 0,b8 0,bU 0,i6 0]) (.t 15) (.t 16) true),
 M 11 17,
 J 18 (.ext 0 (.t 11)),
 J 19 (.ext 1 (.t 11)),
 J 6 (.alloc 158 [b8 0,ay 0,b8 0,ay 0,b8 0,ay 0,ay 0,b8 0,b8 0,bU 0,i6 0]),
 N (.store 11 (.t 6) (.t 18)),
 M 7 19] [0,
1,
3,
7,
0,
31,
63,
127,
127,
0,
767,
2047] true)
(.seq
(.seq
(F [M 20 7,
 J 21 (.not (.t 20))] 2)
(.cond (.t 21)
(.seq
(F [J 22 (.fI [b8 0,ay 0,b8 0,ay 0,b8 0,ay 0,ay 0,b8 0,b8 0,bU 0,i6 0] []),
 N (.store 11 (.t 4) (.t 22)),
 J 5 (.mv (Z 7))] 3)
.ret)
.skip))
(.seq
(F [J 23 (.load (some 11) (.t 6)),
 N (.store 11 (.t 4) (.t 23)),
 J 5 (.mv (Z 0))] 3)
.ret)))))
def rv:List RV:=[.cell 4 (some 11),.tmp 5]
theorem enter:En Tryz.prog 119 24 s rv:=En.mk (c:= Tryz.f119.body.getD .ret) Tryz.func119 rfl (by kernel_rfl) (by kernel_rfl) (by kernel_rfl) (by kernel_rfl)
end tree_Tree_Get
namespace tree_Tree_up
abbrev f:Nat:=120
def s:bY:=(.seq
(F [J 2 (.box 105 (.t 0)),
 J 3 (.box 37 (.t 1)),
 J 4 (.mv (.k (.d .f_)))] 3)
(.seq
(F [J 5 (.rC (.func 163) [] [(.t 2),(.t 3)]),
 M 4 5] 2)
.ret))
def rv:List RV:=[.tmp 4]
theorem enter:En Tryz.prog 120 6 s rv:=En.mk (c:= Tryz.f120.body.getD .ret) Tryz.func120 rfl (by kernel_rfl) (by kernel_rfl) (by kernel_rfl) (by kernel_rfl)
end tree_Tree_up
namespace slices_DeleteFunc_Lapi_Op_api_Op
abbrev f:Nat:=121
def s:bY:=(.seq
(F [J 4 (.mv (.k (.d .aP)))] 1)
(.seq
(F [M 8 0,
 M 9 1,
 J 10 (.call (C 164) [(.t 8),(.t 9)]),
 M 5 10] 4)
(.seq
(.seq
(F [M 11 5,
 J 12 (.bin .eql (.t 11) (.k (.d (.int .i64 (-1)))))] 2)
(.cond (.t 12)
(.seq
(F [M 13 0,
 M 4 13] 2)
.ret)
.skip))
(.seq
(.seq
(F [M 14 5,
 J 15 (.bin .add (.t 14) (Z 1)),
 M 6 15] 3)
(.block 0
(.loop
(.seq
(.seq
(F [M 16 6,
 M 17 0,
 J 18 (.len (.t 17)),
 J 19 (.bin .lss (.t 16) (.t 18))] 4)
(.cond (.t 19)
.skip
(.exit 0)))
(.seq
(.block 1
(.seq
(F [M 22 0,
 M 23 6,
 J 24 (.fK 29 (.t 22) (.t 23)),
 J 25 (.load (some 29) (.t 24)),
 J 7 (.alloc 43 cq),
 N (.store 29 (.t 7) (.t 25))] 6)
(.seq
(F [M 26 1,
 J 27 (.load (some 29) (.t 7)),
 J 28 (.call (.t 26) [(.t 27)]),
 J 29 (.not (.t 28))] 4)
(.cond (.t 29)
(.seq
(F [M 30 0,
 M 31 5,
 J 32 (.load (some 29) (.t 7)),
 J 33 (.fK 29 (.t 30) (.t 31)),
 N (.store 29 (.t 33) (.t 32))] 5)
(F [M 34 5,
 J 35 (.bin .add (.t 34) (Z 1)),
 M 5 35] 3))
.skip))))
(F [M 20 6,
 J 21 (.bin .add (.t 20) (Z 1)),
 M 6 21] 3))))))
(.seq
(F [M 36 0,
 M 37 5,
 J 38 (.slc 29 (.t 36) (some (.t 37)) none),
 N (.JQ 29 cq (.t 38))] 4)
(.seq
(F [M 39 0,
 M 40 5,
 J 41 (.slc 29 (.t 39) none (some (.t 40))),
 M 4 41] 4)
.ret))))))
def rv:List RV:=[.tmp 4]
theorem enter:En Tryz.prog 121 42 s rv:=En.mk (c:= Tryz.f121.body.getD .ret) Tryz.func121 rfl (by kernel_rfl) (by kernel_rfl) (by kernel_rfl) (by kernel_rfl)
end slices_DeleteFunc_Lapi_Op_api_Op
namespace tree_New_1
abbrev f:Nat:=122
def s:bY:=(.seq
(F [J 2 (.box 43 (.t 0)),
 J 3 (.mv (B false))] 2)
(.seq
(.eM [J 4 (.load none (.t 1)),
 J 5 (.bp 0 (.t 2)),
 J 6 (.load (some 2) (.t 5)),
 J 7 (.look [true,true] true (i6 0) (.t 4) (.t 6) false),
 J 8 (.bin .add (.t 7) (Z 1)),
 J 9 (.rD [true,true] true (i6 0) (.t 4) (.t 6)),
 J 10 (.ext 1 (.t 9)),
 N (.rE (.t 4) (.t 10) (.t 8))] [0,
0,
2,
7,
15,
7,
39,
127] true)
(.seq
(F [J 11 (.load none (.t 1)),
 J 12 (.bp 0 (.t 2)),
 J 13 (.load (some 2) (.t 12)),
 J 14 (.look [true,true] true (i6 0) (.t 11) (.t 13) false),
 J 15 (.bin .gtr (.t 14) (Z 1)),
 M 16 15,
 H 17 (.bp 14 (.t 2)) 16 false,
 H 18 (.load none (.t 17)) 16 false,
 H 19 (.bin .gtr (.t 18) (.k (b8 1))) 16 false,
 J 20 (.pick (.t 16) (B true) (.t 19)),
 M 3 20] 11)
.ret)))
def rv:List RV:=[.tmp 3]
theorem enter:En Tryz.prog 122 21 s rv:=En.mk (c:= Tryz.f122.body.getD .ret) Tryz.func122 rfl (by kernel_rfl) (by kernel_rfl) (by kernel_rfl) (by kernel_rfl)
end tree_New_1
namespace tree_Tree_put
abbrev f:Nat:=123
def s:bY:=(.seq
(F [J 3 (.box 43 (.t 1)),
 J 4 (.mv (B false))] 2)
(.seq
(F [J 6 (.bp 0 (.t 3)),
 J 7 (.load (some 2) (.t 6)),
 J 8 (.bp 0 (.t 3)),
 J 9 (.load (some 2) (.t 8)),
 J 10 (.bp 11 (.t 3)),
 J 11 (.load none (.t 10)),
 J 12 (.fI [b8 0,ay 0,b8 0,ay 0,b8 0,ay 0,ay 0,b8 0,b8 0,bU 0,i6 0] [(0,2,(.t 7)),(2,2,(.t 9)),(6,1,(.t 11)),(7,1,(.k (b8 7))),(8,1,(.k (b8 8))),(9,1,(.k (bU 1099511627776)))]),
 J 5 (.alloc 158 [b8 0,ay 0,b8 0,ay 0,b8 0,ay 0,ay 0,b8 0,b8 0,bU 0,i6 0]),
 N (.store 11 (.t 5) (.t 12))] 9)
(.seq
(.block 0
(.seq
(F (J 14 (.bp 14 (.t 3))::
 J 15 (.load none (.t 14))::
 J 16 (.bin .eql (.t 15) (.k (b8 0)))::
 M 17 16::
 H 18 (.bp 12 (.t 3)) 17 true::
 H 19 (.load (some 2) (.t 18)) 17 true::
 H 20 (.bp 0 (.t 3)) 17 true::
 H 21 (.load (some 2) (.t 20)) 17 true::
 H 22 (.eqv true [true,true] (.t 19) (.t 21)) 17 true::
 J 23 (.pick (.t 17) (.t 22) (B false))::
 M 24 23::
 H 25 (.bp 14 (.t 3)) 24 false::
 H 26 (.load none (.t 25)) 24 false::
 H 27 (.bin .eql (.t 26) (.k (b8 1))) 24 false::
 G 28 27 24 false::
 G 29 0 28 true::
 H 30 (.load (some 29) (.t 3)) 28 true::
 H 31 (.call (C 133) [(.t 29),(.t 30)]) 28 true::
 H 32 (.bin .neq (.t 31) (Z 0)) 28 true::
 H 33 (.pick (.t 28) (.t 32) (B false)) 24 false::
 J 34 (.pick (.t 24) (B true) (.t 33))::
 M 13 34::[]) 22)
(.cond (.t 13)
(.seq
(F [J 4 (.mv (B false))] 1)
.ret)
(.seq
(F [J 36 (.bp 14 (.t 3)),
 J 37 (.load none (.t 36)),
 J 38 (.bin .eql (.t 37) (.k (b8 1))),
 M 35 38] 4)
(.cond (.t 35)
(.eM (J 39 (.bp 0 (.t 3))::
 J 40 (.load (some 2) (.t 39))::
 J 41 (.bp 12 (.t 3))::
 J 42 (.load (some 2) (.t 41))::
 J 43 (.bp 15 (.t 3))::
 J 44 (.load (some 2) (.t 43))::
 J 45 (.bp 17 (.t 3))::
 J 46 (.load none (.t 45))::
 J 47 (.bp 18 (.t 3))::
 J 48 (.load none (.t 47))::
 J 49 (.bp 19 (.t 3))::
 J 50 (.load none (.t 49))::
 J 51 (.bp 20 (.t 3))::
 J 52 (.load none (.t 51))::
 M 53 0::
 J 54 (.dz (.t 53))::
 J 55 (.bp 0 (.t 54))::
 J 56 (.load none (.t 55))::
 J 57 (.bp 15 (.t 3))::
 J 58 (.load (some 2) (.t 57))::
 J 59 (.look [true,true] true (.agg [b8 0,ay 0,b8 0,ay 0,b8 0,ay 0,ay 0,b8 0,b8 0,bU 0,i6 0]) (.t 56) (.t 58) false)::
 J 60 (.field 10 none (.t 59))::
 J 61 (.bin .add (.t 60) (Z 1))::
 J 62 (.fI [b8 0,ay 0,b8 0,ay 0,b8 0,ay 0,ay 0,b8 0,b8 0,bU 0,i6 0] [(0,2,(.t 40)),(2,2,(.t 42)),(4,2,(.t 44)),(6,1,(.t 46)),(7,1,(.t 48)),(8,1,(.t 50)),(9,1,(.t 52)),(10,1,(.t 61))])::
 N (.store 11 (.t 5) (.t 62))::[]) (0::
1::
0::
4::
0::
16::
0::
64::
0::
256::
0::
1024::
0::
4096::
0::
16384::
49152::
114688::
0::
262144::
1032192::
2080768::
4177920::
8388607::
16777215::[]) true)
.skip)))))
(.seq
(.eM (M 63 0::
 J 64 (.dz (.t 63))::
 J 65 (.bp 0 (.t 64))::
 J 66 (.load none (.t 65))::
 J 67 (.bp 0 (.t 3))::
 J 68 (.load (some 2) (.t 67))::
 M 69 0::
 J 70 (.dz (.t 69))::
 J 71 (.bp 1 (.t 70))::
 J 72 (.load none (.t 71))::
 J 73 (.bp 0 (.t 3))::
 J 74 (.load (some 2) (.t 73))::
 J 75 (.load (some 11) (.t 5))::
 J 76 (.load (some 29) (.t 3))::
 J 77 (.rD [true,true] true (.agg [b8 0,ay 0,b8 0,ay 0,b8 0,ay 0,ay 0,b8 0,b8 0,bU 0,i6 0]) (.t 66) (.t 68))::
 J 78 (.ext 1 (.t 77))::
 N (.rE (.t 66) (.t 78) (.t 75))::
 J 79 (.rD [true,true] true (.agg cq) (.t 72) (.t 74))::
 J 80 (.ext 1 (.t 79))::
 N (.rE (.t 72) (.t 80) (.t 76))::[]) (0::
1::
3::
7::
0::
16::
0::
64::
192::
448::
0::
1024::
0::
0::
1023::
17407::
54271::
122879::
253951::
524287::[]) true)
(.seq
(F [J 4 (.mv (B true))] 1)
.ret)))))
def rv:List RV:=[.tmp 4]
theorem enter:En Tryz.prog 123 81 s rv:=En.mk (c:= Tryz.f123.body.getD .ret) Tryz.func123 rfl (by kernel_rfl) (by kernel_rfl) (by kernel_rfl) (by kernel_rfl)
end tree_Tree_put
namespace shape_Shape_cred
abbrev f:Nat:=124
def s:bY:=(.seq
(F [J 4 (.box 37 (.t 1)),
 J 5 (.box 43 (.t 2)),
 J 6 (.alloc 158 [b8 0,ay 0,b8 0,ay 0,b8 0,ay 0,ay 0,b8 0,b8 0,bU 0,i6 0]),
 J 7 (.mv (B false))] 4)
(.seq
(.eM [M 11 0,
 J 12 (.dz (.t 11)),
 J 13 (.bp 0 (.t 12)),
 J 14 (.load none (.t 13)),
 J 15 (.load (some 2) (.t 4)),
 J 16 (.call (C 119) [(.t 14),(.t 15)]),
 M 10 16,
 J 17 (.ext 0 (.t 10)),
 J 18 (.ext 1 (.t 10)),
 J 8 (.alloc 158 [b8 0,ay 0,b8 0,ay 0,b8 0,ay 0,ay 0,b8 0,b8 0,bU 0,i6 0]),
 N (.store 11 (.t 8) (.t 17)),
 M 9 18] [0,
1,
3,
7,
0,
31,
63,
127,
127,
0,
767,
2047] true)
(.seq
(.eM (J 19 (.load (some 11) (.t 8))::
 M 20 9::
 J 21 (.bin .eql (.t 20) (Z 0))::
 M 22 21::
 H 23 (.bp 2 (.t 8)) 22 true::
 H 24 (.load (some 2) (.t 23)) 22 true::
 H 25 (.bp 12 (.t 5)) 22 true::
 H 26 (.load (some 2) (.t 25)) 22 true::
 H 27 (.eqv false [true,true] (.t 24) (.t 26)) 22 true::
 J 28 (.pick (.t 22) (.t 27) (B false))::
 M 29 28::
 G 30 0 29 true::
 H 31 (.load (some 2) (.t 4)) 29 true::
 H 32 (.load (some 29) (.t 5)) 29 true::
 H 33 (.call (C 165) [(.t 30),(.t 31),(.t 32)]) 29 true::
 J 34 (.pick (.t 29) (.t 33) (B false))::
 N (.store 11 (.t 6) (.t 19))::
 M 7 34::[]) (0::
0::
2::
6::
14::
30::
14::
78::
254::
510::
1022::
2046::
2046::
2046::
16382::
32766::
32767::
131071::[]) true)
.ret)))
def rv:List RV:=[.cell 6 (some 11),.tmp 7]
theorem enter:En Tryz.prog 124 35 s rv:=En.mk (c:= Tryz.f124.body.getD .ret) Tryz.func124 rfl (by kernel_rfl) (by kernel_rfl) (by kernel_rfl) (by kernel_rfl)
end shape_Shape_cred
namespace shape_Shape_Why_1
abbrev f:Nat:=125
def s:bY:=(.seq
(F [J 1 (.mv (B false))] 1)
(.seq
(F [J 2 (.bp 14 (.t 0)),
 J 3 (.load none (.t 2)),
 J 4 (.bin .gtr (.t 3) (.k (b8 8))),
 M 1 4] 4)
.ret))
def rv:List RV:=[.tmp 1]
theorem enter:En Tryz.prog 125 5 s rv:=En.mk (c:= Tryz.f125.body.getD .ret) Tryz.func125 rfl (by kernel_rfl) (by kernel_rfl) (by kernel_rfl) (by kernel_rfl)
end shape_Shape_Why_1
namespace shape_Shape_Why_2
abbrev f:Nat:=126
def s:bY:=(.seq
(F [J 2 (.mv (B false))] 1)
(.seq
(F [J 3 (.load none (.t 0)),
 J 4 (.load (some 29) (.t 1)),
 J 5 (.call (C 127) [(.t 3),(.t 4)]),
 J 6 (.not (.t 5)),
 M 2 6] 5)
.ret))
def rv:List RV:=[.tmp 2]
theorem enter:En Tryz.prog 126 7 s rv:=En.mk (c:= Tryz.f126.body.getD .ret) Tryz.func126 rfl (by kernel_rfl) (by kernel_rfl) (by kernel_rfl) (by kernel_rfl)
end shape_Shape_Why_2
namespace shape_Shape_cart
abbrev f:Nat:=127
def s:bY:=(.seq
(F [J 3 (.box 43 (.t 1)),
 J 4 (.mv (B false))] 2)
(.seq
(.eM [M 8 0,
 J 9 (.dz (.t 8)),
 J 10 (.bp 1 (.t 9)),
 J 11 (.load none (.t 10)),
 J 12 (.bp 12 (.t 3)),
 J 13 (.load (some 2) (.t 12)),
 J 14 (.look [true,true] true (.agg cq) (.t 11) (.t 13) true),
 M 7 14,
 J 15 (.ext 0 (.t 7)),
 J 16 (.ext 1 (.t 7)),
 J 5 (.alloc 43 cq),
 N (.store 29 (.t 5) (.t 15)),
 M 6 16] [0,
1,
3,
7,
0,
16,
63,
127,
255,
255,
0,
1535,
4095] true)
(.seq
(.seq
(F [J 17 (.bp 14 (.t 3)),
 J 18 (.load none (.t 17)),
 J 19 (.bin .eql (.t 18) (.k (b8 0)))] 3)
(.cond (.t 19)
(.seq
(F [J 20 (.bp 12 (.t 3)),
 J 21 (.load (some 2) (.t 20)),
 J 22 (.bp 0 (.t 3)),
 J 23 (.load (some 2) (.t 22)),
 J 24 (.eqv false [true,true] (.t 21) (.t 23)),
 M 4 24] 6)
.ret)
.skip))
(.seq
(F (M 25 6::
 M 26 25::
 H 27 (.bp 14 (.t 5)) 26 true::
 H 28 (.load none (.t 27)) 26 true::
 H 29 (.bin .eql (.t 28) (.k (b8 0))) 26 true::
 J 30 (.pick (.t 26) (.t 29) (B false))::
 M 31 30::
 H 32 (.bp 12 (.t 5)) 31 true::
 H 33 (.load (some 2) (.t 32)) 31 true::
 H 34 (.bp 0 (.t 5)) 31 true::
 H 35 (.load (some 2) (.t 34)) 31 true::
 H 36 (.eqv false [true,true] (.t 33) (.t 35)) 31 true::
 J 37 (.pick (.t 31) (.t 36) (B false))::
 M 38 37::
 H 39 (.load (some 29) (.t 5)) 38 true::
 H 40 (.load (some 29) (.t 3)) 38 true::
 H 41 (.call (C 137) [(.t 39),(.t 40)]) 38 true::
 J 42 (.pick (.t 38) (.t 41) (B false))::
 M 4 42::[]) 19)
.ret))))
def rv:List RV:=[.tmp 4]
theorem enter:En Tryz.prog 127 43 s rv:=En.mk (c:= Tryz.f127.body.getD .ret) Tryz.func127 rfl (by kernel_rfl) (by kernel_rfl) (by kernel_rfl) (by kernel_rfl)
end shape_Shape_cart
namespace shape_Shape_Why_3
abbrev f:Nat:=128
def s:bY:=(.seq
(F [J 2 (.mv (B false))] 1)
(.seq
(F [J 3 (.load none (.t 0)),
 J 4 (.not (.t 3)),
 M 5 4,
 H 6 (.load none (.t 1)) 5 true,
 H 7 (.not (.t 6)) 5 true,
 J 8 (.pick (.t 5) (.t 7) (B false)),
 M 2 8] 7)
.ret))
def rv:List RV:=[.tmp 2]
theorem enter:En Tryz.prog 128 9 s rv:=En.mk (c:= Tryz.f128.body.getD .ret) Tryz.func128 rfl (by kernel_rfl) (by kernel_rfl) (by kernel_rfl) (by kernel_rfl)
end shape_Shape_Why_3
namespace shape_Shape_Why_4
abbrev f:Nat:=129
def s:bY:=(.seq
(F [J 3 (.mv (B false))] 1)
(.seq
(F [J 4 (.load none (.t 0)),
 J 5 (.not (.t 4)),
 M 6 5,
 H 7 (.bp 6 (.t 1)) 6 true,
 H 8 (.load none (.t 7)) 6 true,
 H 9 (.bp 11 (.t 2)) 6 true,
 H 10 (.load none (.t 9)) 6 true,
 H 11 (.bin .neq (.t 8) (.t 10)) 6 true,
 J 12 (.pick (.t 6) (.t 11) (B false)),
 M 3 12] 10)
.ret))
def rv:List RV:=[.tmp 3]
theorem enter:En Tryz.prog 129 13 s rv:=En.mk (c:= Tryz.f129.body.getD .ret) Tryz.func129 rfl (by kernel_rfl) (by kernel_rfl) (by kernel_rfl) (by kernel_rfl)
end shape_Shape_Why_4
namespace shape_Shape_Why_5
abbrev f:Nat:=130
def s:bY:=(.seq
(F [J 2 (.mv (B false))] 1)
(.seq
(.eM [J 3 (.bp 7 (.t 0)),
 J 4 (.load none (.t 3)),
 J 5 (.bp 14 (.t 1)),
 J 6 (.load none (.t 5)),
 J 7 (.call (C 131) [(.t 6)]),
 J 8 (.bin .and (.t 4) (.t 7)),
 J 9 (.bp 14 (.t 1)),
 J 10 (.load none (.t 9)),
 J 11 (.call (C 131) [(.t 10)]),
 J 12 (.bin .neq (.t 8) (.t 11)),
 M 2 12] [0,
1,
0,
4,
12,
31,
0,
64,
220,
511,
1023] true)
.ret))
def rv:List RV:=[.tmp 2]
theorem enter:En Tryz.prog 130 13 s rv:=En.mk (c:= Tryz.f130.body.getD .ret) Tryz.func130 rfl (by kernel_rfl) (by kernel_rfl) (by kernel_rfl) (by kernel_rfl)
end shape_Shape_Why_5
namespace shape_Needs
abbrev f:Nat:=131
def s:bY:=(.seq
(F [J 2 (.mv (.k (b8 0)))] 1)
(.seq
(F [J 4 (.fI [b8 0,b8 0,b8 0,b8 0,b8 0,b8 0,b8 0,b8 0,b8 0] [(1,1,(.k (b8 1))),(2,1,(.k (b8 1))),(3,1,(.k (b8 2))),(4,1,(.k (b8 2))),(5,1,(.k (b8 2))),(6,1,(.k (b8 4))),(7,1,(.k (b8 4))),(8,1,(.k (b8 2)))]),
 J 3 (.alloc 195 [b8 0,b8 0,b8 0,b8 0,b8 0,b8 0,b8 0,b8 0,b8 0]),
 N (.store 9 (.t 3) (.t 4))] 3)
(.seq
(.seq
(F [M 5 0,
 J 6 (.conv .i64 (.t 5)),
 J 7 (.bin .geq (.t 6) (Z 9))] 3)
(.cond (.t 7)
(.seq
(F [J 2 (.mv (.k (b8 0)))] 1)
.ret)
.skip))
(.seq
(F [M 8 0,
 J 9 (.sD 9 1 (.t 3) (.t 8)),
 J 10 (.load none (.t 9)),
 M 2 10] 4)
.ret))))
def rv:List RV:=[.tmp 2]
theorem enter:En Tryz.prog 131 11 s rv:=En.mk (c:= Tryz.f131.body.getD .ret) Tryz.func131 rfl (by kernel_rfl) (by kernel_rfl) (by kernel_rfl) (by kernel_rfl)
end shape_Needs
namespace shape_Shape_Why_6
abbrev f:Nat:=132
def s:bY:=(.seq
(F [J 2 (.mv (B false))] 1)
(.seq
(.eM [J 3 (.bp 14 (.t 0)),
 J 4 (.load none (.t 3)),
 J 5 (.bin .eql (.t 4) (.k (b8 1))),
 M 6 5,
 H 7 (.load none (.t 1)) 6 true,
 H 8 (.dz (.t 7)) 6 true,
 H 9 (.bp 0 (.t 8)) 6 true,
 H 10 (.load none (.t 9)) 6 true,
 H 11 (.load (some 29) (.t 0)) 6 true,
 H 12 (.call (C 133) [(.t 10),(.t 11)]) 6 true,
 H 13 (.bin .neq (.t 12) (Z 0)) 6 true,
 J 14 (.pick (.t 6) (.t 13) (B false)),
 M 2 14] [0,
1,
3,
7,
15,
31,
63,
127,
15,
511,
1023,
2047,
4095] true)
.ret))
def rv:List RV:=[.tmp 2]
theorem enter:En Tryz.prog 132 15 s rv:=En.mk (c:= Tryz.f132.body.getD .ret) Tryz.func132 rfl (by kernel_rfl) (by kernel_rfl) (by kernel_rfl) (by kernel_rfl)
end shape_Shape_Why_6
namespace tree_Tree_Why
abbrev f:Nat:=133
def s:bY:=(.seq
(F [J 2 (.box 105 (.t 0)),
 J 3 (.box 43 (.t 1)),
 J 4 (.mv (Z 0))] 3)
(.seq
(.seq
(F [J 9 (.load none (.t 2)),
 J 10 (.call (C 162) [(.t 9)])] 2)
(.cond (.t 10)
(.seq
(F [J 4 (.mv (Z 1))] 1)
.ret)
.skip))
(.seq
(.eM [J 12 (.load none (.t 2)),
 J 13 (.dz (.t 12)),
 J 14 (.bp 0 (.t 13)),
 J 15 (.load none (.t 14)),
 J 16 (.bp 15 (.t 3)),
 J 17 (.load (some 2) (.t 16)),
 J 18 (.look [true,true] true (.agg [b8 0,ay 0,b8 0,ay 0,b8 0,ay 0,ay 0,b8 0,b8 0,bU 0,i6 0]) (.t 15) (.t 17) true),
 M 11 18,
 J 19 (.ext 0 (.t 11)),
 J 20 (.ext 1 (.t 11)),
 J 5 (.alloc 158 [b8 0,ay 0,b8 0,ay 0,b8 0,ay 0,ay 0,b8 0,b8 0,bU 0,i6 0]),
 J 6 (.alloc 4 [(.d (.bool false))]),
 N (.store 11 (.t 5) (.t 19)),
 N (.store 1 (.t 6) (.t 20))] [0,
1,
3,
7,
0,
16,
63,
127,
255,
255,
0,
0,
3583,
8191] true)
(.seq
(.seq
(F [J 21 (.rC (.func 166) [] [(.t 3)]),
 J 22 (.fI [i6 0,(.d .f_)] [(0,1,(Z 2)),(1,1,(.t 21))]),
 J 23 (.rC (.func 167) [] [(.t 6),(.t 5),(.t 3),(.t 2)]),
 J 24 (.fI [i6 0,(.d .f_)] [(0,1,(Z 272)),(1,1,(.t 23))]),
 J 25 (.rC (.func 168) [] [(.t 5),(.t 3)]),
 J 26 (.fI [i6 0,(.d .f_)] [(0,1,(Z 273)),(1,1,(.t 25))]),
 J 27 (.rC (.func 169) [] [(.t 5)]),
 J 28 (.fI [i6 0,(.d .f_)] [(0,1,(Z 274)),(1,1,(.t 27))]),
 J 29 (.rC (.func 170) [] [(.t 3),(.t 5)]),
 J 30 (.fI [i6 0,(.d .f_)] [(0,1,(Z 275)),(1,1,(.t 29))]),
 J 31 (.fI [i6 0,(.d .f_),i6 0,(.d .f_),i6 0,(.d .f_),i6 0,(.d .f_),i6 0,(.d .f_)] [(0,2,(.t 22)),(2,2,(.t 24)),(4,2,(.t 26)),(6,2,(.t 28)),(8,2,(.t 30))]),
 J 32 (.mv (Z 0))] 12)
(.block 0
(.loop
(.seq
(F [J 33 (.bin .lss (.t 32) (Z 5))] 1)
(.seq
(.cond (.t 33)
.skip
(.exit 0))
(.seq
(.block 1
(.seq
(F [J 34 (.index 5 2 true (.t 31) (.t 32)),
 J 8 (.alloc 197 [i6 0,(.d .f_)]),
 N (.store 2 (.t 8) (.t 34))] 3)
(.seq
(F [J 35 (.bp 1 (.t 8)),
 J 36 (.load none (.t 35)),
 J 37 (.call (.t 36) [])] 3)
(.cond (.t 37)
(.seq
(F [J 38 (.bp 0 (.t 8)),
 J 39 (.load none (.t 38)),
 M 4 39] 3)
.ret)
.skip))))
(F [J 40 (.bin .add (.t 32) (Z 1)),
 M 32 40] 2)))))))
(.seq
(F [J 4 (.mv (Z 0))] 1)
.ret)))))
def rv:List RV:=[.tmp 4]
theorem enter:En Tryz.prog 133 41 s rv:=En.mk (c:= Tryz.f133.body.getD .ret) Tryz.func133 rfl (by kernel_rfl) (by kernel_rfl) (by kernel_rfl) (by kernel_rfl)
end tree_Tree_Why
namespace shape_Shape_Why_7
abbrev f:Nat:=134
def s:bY:=(.seq
(F [J 2 (.mv (B false))] 1)
(.seq
(F [J 3 (.load none (.t 0)),
 J 4 (.load (some 29) (.t 1)),
 J 5 (.call (C 135) [(.t 3),(.t 4)]),
 J 6 (.not (.t 5)),
 M 2 6] 5)
.ret))
def rv:List RV:=[.tmp 2]
theorem enter:En Tryz.prog 134 7 s rv:=En.mk (c:= Tryz.f134.body.getD .ret) Tryz.func134 rfl (by kernel_rfl) (by kernel_rfl) (by kernel_rfl) (by kernel_rfl)
end shape_Shape_Why_7
namespace shape_Shape_target
abbrev f:Nat:=135
def s:bY:=(.seq
(F [J 2 (.box 29 (.t 0)),
 J 3 (.box 43 (.t 1)),
 J 4 (.mv (B false))] 3)
(.seq
(.seq
(F [J 7 (.bp 14 (.t 3)),
 J 8 (.load none (.t 7))] 2)
(.block 0
(.seq
(F [J 10 (.bin .eql (.t 8) (.k (b8 2))),
 M 9 10] 2)
(.cond (.t 9)
(.seq
(F [J 12 (.load none (.t 2)),
 J 13 (.bp 21 (.t 3)),
 J 14 (.load (some 2) (.t 13)),
 J 15 (.load (some 29) (.t 3)),
 J 16 (.call (C 124) [(.t 12),(.t 14),(.t 15)]),
 M 11 16,
 J 17 (.ext 0 (.t 11)),
 J 18 (.ext 1 (.t 11)),
 J 5 (.alloc 158 [b8 0,ay 0,b8 0,ay 0,b8 0,ay 0,ay 0,b8 0,b8 0,bU 0,i6 0]),
 N (.store 11 (.t 5) (.t 17)),
 M 6 18] 11)
(.seq
(.eM [M 19 6,
 M 20 19,
 H 21 (.load none (.t 2)) 20 true,
 H 22 (.dz (.t 21)) 20 true,
 H 23 (.bp 0 (.t 22)) 20 true,
 H 24 (.load none (.t 23)) 20 true,
 H 25 (.bp 15 (.t 3)) 20 true,
 H 26 (.load (some 2) (.t 25)) 20 true,
 H 27 (.bp 21 (.t 3)) 20 true,
 H 28 (.load (some 2) (.t 27)) 20 true,
 H 29 (.call (C 171) [(.t 24),(.t 26),(.t 28)]) 20 true,
 J 30 (.pick (.t 20) (.t 29) (B false)),
 M 4 30] [0,
1,
3,
7,
15,
31,
3,
67,
3,
259,
1023,
2047,
4095] true)
.ret))
(.seq
(.seq
(F [J 32 (.bin .eql (.t 8) (.k (b8 4))),
 M 31 32] 2)
(.cond (.t 31)
.skip
(F [J 33 (.bin .eql (.t 8) (.k (b8 5))),
 M 31 33] 2)))
(.cond (.t 31)
(.seq
(F [J 34 (.load none (.t 2)),
 J 35 (.bp 21 (.t 3)),
 J 36 (.load (some 2) (.t 35)),
 J 37 (.load (some 29) (.t 3)),
 J 38 (.call (C 172) [(.t 34),(.t 36),(.t 37)]),
 M 4 38] 6)
.ret)
(.seq
(.seq
(F [J 40 (.bin .eql (.t 8) (.k (b8 6))),
 M 39 40] 2)
(.cond (.t 39)
.skip
(F [J 41 (.bin .eql (.t 8) (.k (b8 7))),
 M 39 41] 2)))
(.cond (.t 39)
(.seq
(F [J 42 (.load none (.t 2)),
 J 43 (.bp 21 (.t 3)),
 J 44 (.load (some 2) (.t 43)),
 J 45 (.bp 23 (.t 3)),
 J 46 (.load (some 2) (.t 45)),
 J 47 (.fI [b8 0,ay 0,b8 0,ay 0] [(0,2,(.t 44)),(2,2,(.t 46))]),
 J 48 (.load (some 29) (.t 3)),
 J 49 (.call (C 173) [(.t 42),(.t 47),(.t 48)]),
 M 4 49] 9)
.ret)
(.seq
(F [J 51 (.bin .eql (.t 8) (.k (b8 8))),
 M 50 51] 2)
(.cond (.t 50)
(.seq
(F [J 52 (.bp 28 (.t 3)),
 J 53 (.load none (.t 52)),
 J 54 (.rC (.func 175) [] [(.t 2),(.t 3)]),
 J 55 (.call (C 174) [(.t 53),(.t 54)]),
 J 56 (.not (.t 55)),
 M 4 56] 6)
.ret)
.skip))))))))))
(.seq
(F [J 4 (.mv (B true))] 1)
.ret)))
def rv:List RV:=[.tmp 4]
theorem enter:En Tryz.prog 135 57 s rv:=En.mk (c:= Tryz.f135.body.getD .ret) Tryz.func135 rfl (by kernel_rfl) (by kernel_rfl) (by kernel_rfl) (by kernel_rfl)
end shape_Shape_target
namespace order_Before
abbrev f:Nat:=137
def s:bY:=(.seq
(F [J 2 (.box 43 (.t 0)),
 J 3 (.box 43 (.t 1)),
 J 4 (.mv (B false))] 3)
(.seq
(F [J 5 (.bp 2 (.t 3)),
 J 6 (.load (some 8) (.t 5)),
 J 7 (.bp 0 (.t 2)),
 J 8 (.load (some 2) (.t 7)),
 J 9 (.call (C 85) [(.t 6),(.t 8)]),
 M 4 9] 6)
.ret))
def rv:List RV:=[.tmp 4]
theorem enter:En Tryz.prog 137 10 s rv:=En.mk (c:= Tryz.f137.body.getD .ret) Tryz.func137 rfl (by kernel_rfl) (by kernel_rfl) (by kernel_rfl) (by kernel_rfl)
end order_Before
namespace dot_setOf
abbrev f:Nat:=139
def s:bY:=(.seq
(F [J 2 (.mv (.k (.d .ir)))] 1)
(.seq
(F [J 6 (.yG),
 M 3 6] 2)
(.seq
(.seq
(F [M 7 0,
 J 8 (.len (.t 7)),
 J 9 (.mv (Z 0))] 3)
(.block 0
(.loop
(.seq
(F [J 10 (.bin .lss (.t 9) (.t 8))] 1)
(.seq
(.cond (.t 10)
.skip
(.exit 0))
(.seq
(.block 1
(.seq
(F [J 11 (.fK 2 (.t 7) (.t 9)),
 J 12 (.load (some 2) (.t 11)),
 J 5 (.alloc 37 [b8 0,ay 0]),
 N (.store 2 (.t 5) (.t 12))] 4)
(F [M 13 3,
 J 14 (.load (some 2) (.t 5)),
 N (.pG [true,true] true (.t 13) (.t 14) (Z 1))] 3)))
(F [J 15 (.bin .add (.t 9) (Z 1)),
 M 9 15] 2)))))))
(.seq
(F [M 16 3,
 M 2 16] 2)
.ret))))
def rv:List RV:=[.tmp 2]
theorem enter:En Tryz.prog 139 17 s rv:=En.mk (c:= Tryz.f139.body.getD .ret) Tryz.func139 rfl (by kernel_rfl) (by kernel_rfl) (by kernel_rfl) (by kernel_rfl)
end dot_setOf
namespace dot_set_list
abbrev f:Nat:=140
def s:bY:=(.seq
(F [J 2 (.mv (.k (.d .aP)))] 1)
(.seq
(F [M 3 0,
 J 4 (.call (C 177) [(.t 3)]),
 J 5 (.call (C 116) [(.t 4),(C 118)]),
 M 2 5] 4)
.ret))
def rv:List RV:=[.tmp 2]
theorem enter:En Tryz.prog 140 6 s rv:=En.mk (c:= Tryz.f140.body.getD .ret) Tryz.func140 rfl (by kernel_rfl) (by kernel_rfl) (by kernel_rfl) (by kernel_rfl)
end dot_set_list
namespace dot_May
abbrev f:Nat:=141
def s:bY:=(.seq
(F [J 1 (.box 37 (.t 0)),
 J 2 (.mv (B false))] 2)
(.seq
(F [J 3 (.bp 0 (.t 1)),
 J 4 (.load none (.t 3)),
 J 5 (.bin .lss (.t 4) (.k (b8 8))),
 M 6 5,
 H 7 (.bp 1 (.t 1)) 6 true,
 H 8 (.load none (.t 7)) 6 true,
 H 9 (.bin .gtr (.t 8) (.k (ay 0))) 6 true,
 J 10 (.pick (.t 6) (.t 9) (B false)),
 M 2 10] 9)
.ret))
def rv:List RV:=[.tmp 2]
theorem enter:En Tryz.prog 141 11 s rv:=En.mk (c:= Tryz.f141.body.getD .ret) Tryz.func141 rfl (by kernel_rfl) (by kernel_rfl) (by kernel_rfl) (by kernel_rfl)
end dot_May
namespace cmp_Or_int
abbrev f:Nat:=146
def s:bY:=(.seq
(F [J 2 (.mv (Z 0))] 1)
(.seq
(F [J 3 (.mv (Z 0))] 1)
(.seq
(.seq
(F [M 6 0,
 J 7 (.len (.t 6)),
 J 8 (.mv (Z 0))] 3)
(.block 0
(.loop
(.seq
(F [J 9 (.bin .lss (.t 8) (.t 7))] 1)
(.seq
(.cond (.t 9)
.skip
(.exit 0))
(.seq
(.block 1
(.seq
(F [J 10 (.fK 1 (.t 6) (.t 8)),
 J 11 (.load none (.t 10)),
 M 5 11] 3)
(.seq
(F [M 12 5,
 M 13 3,
 J 14 (.bin .neq (.t 12) (.t 13))] 3)
(.cond (.t 14)
(.seq
(F [M 15 5,
 M 2 15] 2)
.ret)
.skip))))
(F [J 16 (.bin .add (.t 8) (Z 1)),
 M 8 16] 2)))))))
(.seq
(F [M 17 3,
 M 2 17] 2)
.ret))))
def rv:List RV:=[.tmp 2]
theorem enter:En Tryz.prog 146 18 s rv:=En.mk (c:= Tryz.f146.body.getD .ret) Tryz.func146 rfl (by kernel_rfl) (by kernel_rfl) (by kernel_rfl) (by kernel_rfl)
end cmp_Or_int
namespace cmp_Compare_uint8
abbrev f:Nat:=148
def s:bY:=(.seq
(F [J 4 (.mv (Z 0))] 1)
(.seq
(F [M 7 0,
 J 8 (.call (C 179) [(.t 7)]),
 M 5 8] 3)
(.seq
(F [M 9 1,
 J 10 (.call (C 179) [(.t 9)]),
 M 6 10] 3)
(.seq
(.seq
(F [M 11 5] 1)
(.cond (.t 11)
(.seq
(.seq
(F [M 12 6] 1)
(.cond (.t 12)
(.seq
(F [J 4 (.mv (Z 0))] 1)
.ret)
.skip))
(.seq
(F [J 4 (.mv (.k (.d (.int .i64 (-1)))))] 1)
.ret))
.skip))
(.seq
(.seq
(F [M 13 6] 1)
(.cond (.t 13)
(.seq
(F [J 4 (.mv (Z 1))] 1)
.ret)
.skip))
(.seq
(.seq
(F [M 14 0,
 M 15 1,
 J 16 (.bin .lss (.t 14) (.t 15))] 3)
(.cond (.t 16)
(.seq
(F [J 4 (.mv (.k (.d (.int .i64 (-1)))))] 1)
.ret)
.skip))
(.seq
(.seq
(F [M 17 0,
 M 18 1,
 J 19 (.bin .gtr (.t 17) (.t 18))] 3)
(.cond (.t 19)
(.seq
(F [J 4 (.mv (Z 1))] 1)
.ret)
.skip))
(.seq
(F [J 4 (.mv (Z 0))] 1)
.ret))))))))
def rv:List RV:=[.tmp 4]
theorem enter:En Tryz.prog 148 20 s rv:=En.mk (c:= Tryz.f148.body.getD .ret) Tryz.func148 rfl (by kernel_rfl) (by kernel_rfl) (by kernel_rfl) (by kernel_rfl)
end cmp_Compare_uint8
namespace cmp_Compare_uint32
abbrev f:Nat:=149
def s:bY:=(.seq
(F [J 4 (.mv (Z 0))] 1)
(.seq
(F [M 7 0,
 J 8 (.call (C 180) [(.t 7)]),
 M 5 8] 3)
(.seq
(F [M 9 1,
 J 10 (.call (C 180) [(.t 9)]),
 M 6 10] 3)
(.seq
(.seq
(F [M 11 5] 1)
(.cond (.t 11)
(.seq
(.seq
(F [M 12 6] 1)
(.cond (.t 12)
(.seq
(F [J 4 (.mv (Z 0))] 1)
.ret)
.skip))
(.seq
(F [J 4 (.mv (.k (.d (.int .i64 (-1)))))] 1)
.ret))
.skip))
(.seq
(.seq
(F [M 13 6] 1)
(.cond (.t 13)
(.seq
(F [J 4 (.mv (Z 1))] 1)
.ret)
.skip))
(.seq
(.seq
(F [M 14 0,
 M 15 1,
 J 16 (.bin .lss (.t 14) (.t 15))] 3)
(.cond (.t 16)
(.seq
(F [J 4 (.mv (.k (.d (.int .i64 (-1)))))] 1)
.ret)
.skip))
(.seq
(.seq
(F [M 17 0,
 M 18 1,
 J 19 (.bin .gtr (.t 17) (.t 18))] 3)
(.cond (.t 19)
(.seq
(F [J 4 (.mv (Z 1))] 1)
.ret)
.skip))
(.seq
(F [J 4 (.mv (Z 0))] 1)
.ret))))))))
def rv:List RV:=[.tmp 4]
theorem enter:En Tryz.prog 149 20 s rv:=En.mk (c:= Tryz.f149.body.getD .ret) Tryz.func149 rfl (by kernel_rfl) (by kernel_rfl) (by kernel_rfl) (by kernel_rfl)
end cmp_Compare_uint32
namespace slices_Collect_api_Dot
abbrev f:Nat:=159
def s:bY:=(.seq
(F [J 2 (.mv (.k (.d .aP)))] 1)
(.seq
(F [M 3 0,
 J 4 (.call (C 189) [(.k (.d .aP)),(.t 3)]),
 M 2 4] 3)
.ret))
def rv:List RV:=[.tmp 2]
theorem enter:En Tryz.prog 159 5 s rv:=En.mk (c:= Tryz.f159.body.getD .ret) Tryz.func159 rfl (by kernel_rfl) (by kernel_rfl) (by kernel_rfl) (by kernel_rfl)
end slices_Collect_api_Dot
namespace slices_SortFunc_Lapi_Dot_api_Dot
abbrev f:Nat:=160
end slices_SortFunc_Lapi_Dot_api_Dot
namespace maps_Keys_map_api_Dot_api_Op_api_Dot_api_Op_1
abbrev f:Nat:=161
def s:bY:=(.seq
(F [J 4 (.load none (.t 1)),
 J 5 (.lT (.t 4))] 2)
(.block 0
(.loop
(.seq
(F [J 6 (.kf (.t 5)),
 J 7 (.ext 0 (.t 6))] 2)
(.seq
(.cond (.t 7)
.skip
(.exit 0))
(.block 1
(.seq
(F [J 8 (.mT (.t 5)),
 J 9 (.ext 0 (.t 8)),
 J 3 (.alloc 37 [b8 0,ay 0]),
 N (.store 2 (.t 3) (.t 9))] 4)
(.seq
(F [M 10 0,
 J 11 (.load (some 2) (.t 3)),
 J 12 (.call (.t 10) [(.t 11)]),
 J 13 (.not (.t 12))] 4)
(.cond (.t 13)
.ret
.skip)))))))))
def rv:List RV:=[]
theorem enter:En Tryz.prog 161 14 s rv:=En.mk (c:= Tryz.f161.body.getD .ret) Tryz.func161 rfl (by kernel_rfl) (by kernel_rfl) (by kernel_rfl) (by kernel_rfl)
end maps_Keys_map_api_Dot_api_Op_api_Dot_api_Op_1
namespace tree_Tree_none
abbrev f:Nat:=162
def s:bY:=(.seq
(F [J 2 (.mv (B false))] 1)
(.seq
(F [M 3 0,
 J 4 (.jM false 0 (.t 3)),
 M 5 4,
 G 6 0 5 false,
 H 7 (.dz (.t 6)) 5 false,
 H 8 (.bp 0 (.t 7)) 5 false,
 H 9 (.load none (.t 8)) 5 false,
 H 10 (.jM false 1 (.t 9)) 5 false,
 J 11 (.pick (.t 5) (B true) (.t 10)),
 M 2 11] 10)
.ret))
def rv:List RV:=[.tmp 2]
theorem enter:En Tryz.prog 162 12 s rv:=En.mk (c:= Tryz.f162.body.getD .ret) Tryz.func162 rfl (by kernel_rfl) (by kernel_rfl) (by kernel_rfl) (by kernel_rfl)
end tree_Tree_none
namespace tree_Tree_up_1
abbrev f:Nat:=163
def s:bY:=(.seq
(.eM [J 7 (.load none (.t 1)),
 J 8 (.dz (.t 7)),
 J 9 (.bp 0 (.t 8)),
 J 10 (.load none (.t 9)),
 J 11 (.load (some 2) (.t 2)),
 J 12 (.look [true,true] true (.agg [b8 0,ay 0,b8 0,ay 0,b8 0,ay 0,ay 0,b8 0,b8 0,bU 0,i6 0]) (.t 10) (.t 11) true),
 M 6 12,
 J 13 (.ext 0 (.t 6)),
 J 14 (.ext 1 (.t 6)),
 J 4 (.alloc 158 [b8 0,ay 0,b8 0,ay 0,b8 0,ay 0,ay 0,b8 0,b8 0,bU 0,i6 0]),
 N (.store 11 (.t 4) (.t 13)),
 M 5 14] [0,
1,
3,
7,
0,
31,
63,
127,
127,
0,
767,
2047] true)
(.block 0
(.loop
(.seq
(.seq
(F [M 15 5,
 M 16 15,
 G 17 0 16 true,
 H 18 (.load (some 11) (.t 4)) 16 true,
 H 19 (.call (.t 17) [(.t 18)]) 16 true,
 J 20 (.pick (.t 16) (.t 19) (B false)),
 M 21 20,
 H 22 (.bp 10 (.t 4)) 21 true,
 H 23 (.load none (.t 22)) 21 true,
 H 24 (.bin .gtr (.t 23) (Z 0)) 21 true,
 J 25 (.pick (.t 21) (.t 24) (B false))] 11)
(.cond (.t 25)
.skip
(.exit 0)))
(.seq
(.block 1
(.eM [J 27 (.load none (.t 1)),
 J 28 (.dz (.t 27)),
 J 29 (.bp 0 (.t 28)),
 J 30 (.load none (.t 29)),
 J 31 (.bp 4 (.t 4)),
 J 32 (.load (some 2) (.t 31)),
 J 33 (.look [true,true] true (.agg [b8 0,ay 0,b8 0,ay 0,b8 0,ay 0,ay 0,b8 0,b8 0,bU 0,i6 0]) (.t 30) (.t 32) true),
 M 26 33,
 J 34 (.ext 0 (.t 26)),
 J 35 (.ext 1 (.t 26)),
 N (.store 11 (.t 4) (.t 34)),
 M 5 35] [0,
1,
3,
7,
0,
16,
63,
127,
255,
255,
511,
2047] true))
(.seq
(F [J 36 (.load (some 11) (.t 4))] 1)
(F [J 4 (.alloc 158 [b8 0,ay 0,b8 0,ay 0,b8 0,ay 0,ay 0,b8 0,b8 0,bU 0,i6 0]),
 N (.store 11 (.t 4) (.t 36))] 2)))))))
def rv:List RV:=[]
theorem enter:En Tryz.prog 163 37 s rv:=En.mk (c:= Tryz.f163.body.getD .ret) Tryz.func163 rfl (by kernel_rfl) (by kernel_rfl) (by kernel_rfl) (by kernel_rfl)
end tree_Tree_up_1
namespace slices_IndexFunc_Lapi_Op_api_Op
abbrev f:Nat:=164
def s:bY:=(.seq
(F [J 4 (.mv (Z 0))] 1)
(.seq
(.seq
(F [M 6 0,
 J 7 (.len (.t 6)),
 J 8 (.mv (Z 0))] 3)
(.block 0
(.loop
(.seq
(F [J 9 (.bin .lss (.t 8) (.t 7))] 1)
(.seq
(.cond (.t 9)
.skip
(.exit 0))
(.seq
(.block 1
(.seq
(F [M 10 8,
 M 5 10] 2)
(.seq
(F [M 11 1,
 M 12 0,
 M 13 5,
 J 14 (.fK 29 (.t 12) (.t 13)),
 J 15 (.load (some 29) (.t 14)),
 J 16 (.call (.t 11) [(.t 15)])] 6)
(.cond (.t 16)
(.seq
(F [M 17 5,
 M 4 17] 2)
.ret)
.skip))))
(F [J 18 (.bin .add (.t 8) (Z 1)),
 M 8 18] 2)))))))
(.seq
(F [J 4 (.mv (.k (.d (.int .i64 (-1)))))] 1)
.ret)))
def rv:List RV:=[.tmp 4]
theorem enter:En Tryz.prog 164 19 s rv:=En.mk (c:= Tryz.f164.body.getD .ret) Tryz.func164 rfl (by kernel_rfl) (by kernel_rfl) (by kernel_rfl) (by kernel_rfl)
end slices_IndexFunc_Lapi_Op_api_Op
namespace shape_Shape_before
abbrev f:Nat:=165
def s:bY:=(.seq
(F [J 4 (.box 37 (.t 1)),
 J 5 (.box 43 (.t 2)),
 J 6 (.mv (B false))] 3)
(.seq
(.eM [M 10 0,
 J 11 (.dz (.t 10)),
 J 12 (.bp 1 (.t 11)),
 J 13 (.load none (.t 12)),
 J 14 (.load (some 2) (.t 4)),
 J 15 (.look [true,true] true (.agg cq) (.t 13) (.t 14) true),
 M 9 15,
 J 16 (.ext 0 (.t 9)),
 J 17 (.ext 1 (.t 9)),
 J 7 (.alloc 43 cq),
 N (.store 29 (.t 7) (.t 16)),
 M 8 17] [0,
1,
3,
7,
0,
31,
63,
127,
127,
0,
767,
2047] true)
(.seq
(F [M 18 8,
 M 19 18,
 H 20 (.load (some 29) (.t 7)) 19 true,
 H 21 (.load (some 29) (.t 5)) 19 true,
 H 22 (.call (C 137) [(.t 20),(.t 21)]) 19 true,
 J 23 (.pick (.t 19) (.t 22) (B false)),
 M 6 23] 7)
.ret)))
def rv:List RV:=[.tmp 6]
theorem enter:En Tryz.prog 165 24 s rv:=En.mk (c:= Tryz.f165.body.getD .ret) Tryz.func165 rfl (by kernel_rfl) (by kernel_rfl) (by kernel_rfl) (by kernel_rfl)
end shape_Shape_before
namespace tree_Tree_Why_1
abbrev f:Nat:=166
def s:bY:=(.seq
(F [J 1 (.mv (B false))] 1)
(.seq
(F [J 2 (.bp 14 (.t 0)),
 J 3 (.load none (.t 2)),
 J 4 (.bin .neq (.t 3) (.k (b8 1))),
 M 1 4] 4)
.ret))
def rv:List RV:=[.tmp 1]
theorem enter:En Tryz.prog 166 5 s rv:=En.mk (c:= Tryz.f166.body.getD .ret) Tryz.func166 rfl (by kernel_rfl) (by kernel_rfl) (by kernel_rfl) (by kernel_rfl)
end tree_Tree_Why_1
namespace tree_Tree_Why_2
abbrev f:Nat:=167
def s:bY:=(.seq
(F [J 4 (.mv (B false))] 1)
(.seq
(.eM (J 5 (.load none (.t 0))::
 J 6 (.not (.t 5))::
 M 7 6::
 H 8 (.bp 2 (.t 1)) 7 false::
 H 9 (.load (some 2) (.t 8)) 7 false::
 H 10 (.bp 12 (.t 2)) 7 false::
 H 11 (.load (some 2) (.t 10)) 7 false::
 H 12 (.eqv true [true,true] (.t 9) (.t 11)) 7 false::
 J 13 (.pick (.t 7) (B true) (.t 12))::
 M 14 13::
 H 15 (.load none (.t 3)) 14 false::
 H 16 (.dz (.t 15)) 14 false::
 H 17 (.bp 1 (.t 16)) 14 false::
 H 18 (.load none (.t 17)) 14 false::
 H 19 (.bp 15 (.t 2)) 14 false::
 H 20 (.load (some 2) (.t 19)) 14 false::
 H 21 (.look [true,true] true (.agg cq) (.t 18) (.t 20) false) 14 false::
 H 22 (.load (some 29) (.t 2)) 14 false::
 H 23 (.call (C 137) [(.t 21),(.t 22)]) 14 false::
 H 24 (.not (.t 23)) 14 false::
 J 25 (.pick (.t 14) (B true) (.t 24))::
 M 4 25::[]) (0::
1::
3::
7::
15::
7::
39::
127::
255::
511::
1023::
2047::
4095::
8191::
1023::
17407::
65535::
1023::
262143::
524287::
1048575::
2097151::[]) true)
.ret))
def rv:List RV:=[.tmp 4]
theorem enter:En Tryz.prog 167 26 s rv:=En.mk (c:= Tryz.f167.body.getD .ret) Tryz.func167 rfl (by kernel_rfl) (by kernel_rfl) (by kernel_rfl) (by kernel_rfl)
end tree_Tree_Why_2
namespace tree_Tree_Why_3
abbrev f:Nat:=168
def s:bY:=(.seq
(F [J 2 (.mv (B false))] 1)
(.seq
(F [J 3 (.bp 6 (.t 0)),
 J 4 (.load none (.t 3)),
 J 5 (.bp 11 (.t 1)),
 J 6 (.load none (.t 5)),
 J 7 (.bin .neq (.t 4) (.t 6)),
 M 2 7] 6)
.ret))
def rv:List RV:=[.tmp 2]
theorem enter:En Tryz.prog 168 8 s rv:=En.mk (c:= Tryz.f168.body.getD .ret) Tryz.func168 rfl (by kernel_rfl) (by kernel_rfl) (by kernel_rfl) (by kernel_rfl)
end tree_Tree_Why_3
namespace tree_Tree_Why_4
abbrev f:Nat:=169
def s:bY:=(.seq
(F [J 1 (.mv (B false))] 1)
(.seq
(F [J 2 (.bp 7 (.t 0)),
 J 3 (.load none (.t 2)),
 J 4 (.bin .and (.t 3) (.k (b8 1))),
 J 5 (.bin .eql (.t 4) (.k (b8 0))),
 M 1 5] 5)
.ret))
def rv:List RV:=[.tmp 1]
theorem enter:En Tryz.prog 169 6 s rv:=En.mk (c:= Tryz.f169.body.getD .ret) Tryz.func169 rfl (by kernel_rfl) (by kernel_rfl) (by kernel_rfl) (by kernel_rfl)
end tree_Tree_Why_4
namespace tree_Tree_Why_5
abbrev f:Nat:=170
def s:bY:=(.seq
(F [J 2 (.mv (B false))] 1)
(.seq
(F (J 3 (.bp 18 (.t 0))::
 J 4 (.load none (.t 3))::
 J 5 (.bin .eql (.t 4) (.k (b8 0)))::
 M 6 5::
 H 7 (.bp 18 (.t 0)) 6 false::
 H 8 (.load none (.t 7)) 6 false::
 H 9 (.bp 7 (.t 1)) 6 false::
 H 10 (.load none (.t 9)) 6 false::
 H 11 (.bin .andNot (.t 8) (.t 10)) 6 false::
 H 12 (.bin .neq (.t 11) (.k (b8 0))) 6 false::
 J 13 (.pick (.t 6) (B true) (.t 12))::
 M 14 13::
 H 15 (.bp 17 (.t 0)) 14 false::
 H 16 (.load none (.t 15)) 14 false::
 H 17 (.bin .eql (.t 16) (.k (ay 0))) 14 false::
 J 18 (.pick (.t 14) (B true) (.t 17))::
 M 19 18::
 H 20 (.bp 19 (.t 0)) 19 false::
 H 21 (.load none (.t 20)) 19 false::
 H 22 (.bp 8 (.t 1)) 19 false::
 H 23 (.load none (.t 22)) 19 false::
 H 24 (.bin .geq (.t 21) (.t 23)) 19 false::
 J 25 (.pick (.t 19) (B true) (.t 24))::
 M 26 25::
 H 27 (.bp 20 (.t 0)) 26 false::
 H 28 (.load none (.t 27)) 26 false::
 H 29 (.bp 9 (.t 1)) 26 false::
 H 30 (.load none (.t 29)) 26 false::
 H 31 (.bin .gtr (.t 28) (.t 30)) 26 false::
 J 32 (.pick (.t 26) (B true) (.t 31))::
 M 2 32::[]) 31)
.ret))
def rv:List RV:=[.tmp 2]
theorem enter:En Tryz.prog 170 33 s rv:=En.mk (c:= Tryz.f170.body.getD .ret) Tryz.func170 rfl (by kernel_rfl) (by kernel_rfl) (by kernel_rfl) (by kernel_rfl)
end tree_Tree_Why_5
namespace tree_Tree_Above
abbrev f:Nat:=171
def s:bY:=(.seq
(F [J 4 (.box 37 (.t 1)),
 J 5 (.box 37 (.t 2)),
 J 6 (.alloc 4 [(.d (.bool false))])] 3)
(.seq
(.seq
(F [M 8 0,
 J 9 (.call (C 162) [(.t 8)]),
 M 10 9,
 H 11 (.load (some 2) (.t 4)) 10 false,
 H 12 (.load (some 2) (.t 5)) 10 false,
 H 13 (.eqv false [true,true] (.t 11) (.t 12)) 10 false,
 J 14 (.pick (.t 10) (B true) (.t 13))] 7)
(.cond (.t 14)
(.seq
(F [N (.store 1 (.t 6) (B false))] 1)
.ret)
.skip))
(.seq
(.seq
(F [M 15 0,
 J 16 (.load (some 2) (.t 5)),
 J 17 (.call (C 120) [(.t 15),(.t 16)])] 3)
(.block 0
(.qH (.t 17) [18]
(F [J 7 (.alloc 158 [b8 0,ay 0,b8 0,ay 0,b8 0,ay 0,ay 0,b8 0,b8 0,bU 0,i6 0]),
 N (.store 11 (.t 7) (.t 18))] 2)
(.block 1
(.seq
(F [J 19 (.bp 0 (.t 7)),
 J 20 (.load (some 2) (.t 19)),
 J 21 (.load (some 2) (.t 4)),
 J 22 (.eqv false [true,true] (.t 20) (.t 21))] 4)
(.cond (.t 22)
(.seq
(F [N (.store 1 (.t 6) (B true))] 1)
.ret)
.skip))))))
(.seq
(F [N (.store 1 (.t 6) (B false))] 1)
.ret))))
def rv:List RV:=[.cell 6 none]
theorem enter:En Tryz.prog 171 23 s rv:=En.mk (c:= Tryz.f171.body.getD .ret) Tryz.func171 rfl (by kernel_rfl) (by kernel_rfl) (by kernel_rfl) (by kernel_rfl)
end tree_Tree_Above
namespace shape_Shape_line
abbrev f:Nat:=172
def s:bY:=(.seq
(F [J 4 (.box 37 (.t 1)),
 J 5 (.box 43 (.t 2)),
 J 6 (.mv (B false))] 3)
(.seq
(.eM (M 7 0::
 J 8 (.dz (.t 7))::
 J 9 (.bp 2 (.t 8))::
 J 10 (.load none (.t 9))::
 J 11 (.load (some 2) (.t 4))::
 J 12 (.look [true,true] true (i6 0) (.t 10) (.t 11) false)::
 J 13 (.bin .gtr (.t 12) (Z 0))::
 M 14 13::
 G 15 0 14 true::
 H 16 (.dz (.t 15)) 14 true::
 H 17 (.bp 1 (.t 16)) 14 true::
 H 18 (.load none (.t 17)) 14 true::
 H 19 (.load (some 2) (.t 4)) 14 true::
 H 20 (.look [true,true] true (.agg cq) (.t 18) (.t 19) false) 14 true::
 H 21 (.field 12 (some 2) (.t 20)) 14 true::
 H 22 (.bp 12 (.t 5)) 14 true::
 H 23 (.load (some 2) (.t 22)) 14 true::
 H 24 (.eqv false [true,true] (.t 21) (.t 23)) 14 true::
 J 25 (.pick (.t 14) (.t 24) (B false))::
 M 26 25::
 G 27 0 26 true::
 H 28 (.load (some 2) (.t 4)) 26 true::
 H 29 (.load (some 29) (.t 5)) 26 true::
 H 30 (.call (C 165) [(.t 27),(.t 28),(.t 29)]) 26 true::
 J 31 (.pick (.t 26) (.t 30) (B false))::
 M 6 31::[]) (0::
1::
3::
7::
0::
31::
63::
127::
255::
511::
1023::
2047::
255::
8191::
16383::
255::
33023::
131071::
262143::
524287::
1048575::
1048575::
1048575::
8388607::
16777215::
33554431::[]) true)
.ret))
def rv:List RV:=[.tmp 6]
theorem enter:En Tryz.prog 172 32 s rv:=En.mk (c:= Tryz.f172.body.getD .ret) Tryz.func172 rfl (by kernel_rfl) (by kernel_rfl) (by kernel_rfl) (by kernel_rfl)
end shape_Shape_line
namespace shape_Shape_claim
abbrev f:Nat:=173
def s:bY:=(.seq
(F [J 4 (.box 148 (.t 1)),
 J 5 (.box 43 (.t 2)),
 J 6 (.mv (B false))] 3)
(.seq
(.eM [M 10 0,
 J 11 (.dz (.t 10)),
 J 12 (.bp 3 (.t 11)),
 J 13 (.load none (.t 12)),
 J 14 (.bp 2 (.t 4)),
 J 15 (.load (some 2) (.t 14)),
 J 16 (.look [true,true] true (.agg [b8 0,ay 0]) (.t 13) (.t 15) true),
 M 9 16,
 J 17 (.ext 0 (.t 9)),
 J 18 (.ext 1 (.t 9)),
 J 7 (.alloc 37 [b8 0,ay 0]),
 N (.store 2 (.t 7) (.t 17)),
 M 8 18] [0,
1,
3,
7,
0,
16,
63,
127,
255,
255,
0,
1535,
4095] true)
(.seq
(F (M 19 0::
 J 20 (.bp 0 (.t 4))::
 J 21 (.load (some 2) (.t 20))::
 J 22 (.load (some 29) (.t 5))::
 J 23 (.call (C 172) [(.t 19),(.t 21),(.t 22)])::
 M 24 23::
 H 25 (.bp 2 (.t 4)) 24 true::
 H 26 (.load (some 2) (.t 25)) 24 true::
 H 27 (.bp 0 (.t 4)) 24 true::
 H 28 (.load (some 2) (.t 27)) 24 true::
 H 29 (.eqv false [true,true] (.t 26) (.t 28)) 24 true::
 G 30 29 24 true::
 G 31 8 30 false::
 G 32 31 30 false::
 H 33 (.load (some 2) (.t 7)) 32 true::
 H 34 (.bp 0 (.t 4)) 32 true::
 H 35 (.load (some 2) (.t 34)) 32 true::
 H 36 (.eqv false [true,true] (.t 33) (.t 35)) 32 true::
 H 37 (.pick (.t 32) (.t 36) (B false)) 30 false::
 G 38 37 30 false::
 G 39 0 38 true::
 H 40 (.bp 2 (.t 4)) 38 true::
 H 41 (.load (some 2) (.t 40)) 38 true::
 H 42 (.load (some 29) (.t 5)) 38 true::
 H 43 (.call (C 165) [(.t 39),(.t 41),(.t 42)]) 38 true::
 H 44 (.pick (.t 38) (.t 43) (B false)) 30 false::
 H 45 (.pick (.t 30) (B true) (.t 44)) 24 true::
 J 46 (.pick (.t 24) (.t 45) (B false))::
 M 6 46::[]) 29)
.ret)))
def rv:List RV:=[.tmp 6]
theorem enter:En Tryz.prog 173 47 s rv:=En.mk (c:= Tryz.f173.body.getD .ret) Tryz.func173 rfl (by kernel_rfl) (by kernel_rfl) (by kernel_rfl) (by kernel_rfl)
end shape_Shape_claim
namespace slices_ContainsFunc_Lapi_Claim_api_Claim
abbrev f:Nat:=174
def s:bY:=(.seq
(F [J 4 (.mv (B false))] 1)
(.seq
(F [M 5 0,
 M 6 1,
 J 7 (.call (C 192) [(.t 5),(.t 6)]),
 J 8 (.bin .geq (.t 7) (Z 0)),
 M 4 8] 5)
.ret))
def rv:List RV:=[.tmp 4]
theorem enter:En Tryz.prog 174 9 s rv:=En.mk (c:= Tryz.f174.body.getD .ret) Tryz.func174 rfl (by kernel_rfl) (by kernel_rfl) (by kernel_rfl) (by kernel_rfl)
end slices_ContainsFunc_Lapi_Claim_api_Claim
namespace shape_Shape_target_1
abbrev f:Nat:=175
def s:bY:=(.seq
(F [J 3 (.box 148 (.t 0)),
 J 4 (.mv (B false))] 2)
(.seq
(F [J 5 (.load none (.t 1)),
 J 6 (.load (some 4) (.t 3)),
 J 7 (.load (some 29) (.t 2)),
 J 8 (.call (C 173) [(.t 5),(.t 6),(.t 7)]),
 J 9 (.not (.t 8)),
 M 4 9] 6)
.ret))
def rv:List RV:=[.tmp 4]
theorem enter:En Tryz.prog 175 10 s rv:=En.mk (c:= Tryz.f175.body.getD .ret) Tryz.func175 rfl (by kernel_rfl) (by kernel_rfl) (by kernel_rfl) (by kernel_rfl)
end shape_Shape_target_1
namespace maps_Keys_dot_set_api_Dot_int
abbrev f:Nat:=177
def s:bY:=(.seq
(F [J 1 (.box 174 (.t 0)),
 J 2 (.mv (.k (.d .f_)))] 2)
(.seq
(F [J 3 (.rC (.func 194) [] [(.t 1)]),
 M 2 3] 2)
.ret))
def rv:List RV:=[.tmp 2]
theorem enter:En Tryz.prog 177 4 s rv:=En.mk (c:= Tryz.f177.body.getD .ret) Tryz.func177 rfl (by kernel_rfl) (by kernel_rfl) (by kernel_rfl) (by kernel_rfl)
end maps_Keys_dot_set_api_Dot_int
namespace cmp_isNaN_uint8
abbrev f:Nat:=179
def s:bY:=(.seq
(F [J 2 (.mv (B false))] 1)
(.seq
(F [M 3 0,
 M 4 0,
 J 5 (.bin .neq (.t 3) (.t 4)),
 M 2 5] 4)
.ret))
def rv:List RV:=[.tmp 2]
theorem enter:En Tryz.prog 179 6 s rv:=En.mk (c:= Tryz.f179.body.getD .ret) Tryz.func179 rfl (by kernel_rfl) (by kernel_rfl) (by kernel_rfl) (by kernel_rfl)
end cmp_isNaN_uint8
namespace cmp_isNaN_uint32
abbrev f:Nat:=180
def s:bY:=(.seq
(F [J 2 (.mv (B false))] 1)
(.seq
(F [M 3 0,
 M 4 0,
 J 5 (.bin .neq (.t 3) (.t 4)),
 M 2 5] 4)
.ret))
def rv:List RV:=[.tmp 2]
theorem enter:En Tryz.prog 180 6 s rv:=En.mk (c:= Tryz.f180.body.getD .ret) Tryz.func180 rfl (by kernel_rfl) (by kernel_rfl) (by kernel_rfl) (by kernel_rfl)
end cmp_isNaN_uint32
namespace slices_AppendSeq_Lapi_Dot_api_Dot
abbrev f:Nat:=189
def s:bY:=(.seq
(F [J 2 (.box 31 (.t 0)),
 J 4 (.mv (.k (.d .aP)))] 2)
(.seq
(.seq
(F [M 6 1] 1)
(.block 0
(.qH (.t 6) [7]
(F [J 5 (.alloc 37 [b8 0,ay 0]),
 N (.store 2 (.t 5) (.t 7))] 2)
(.block 1
(F [J 8 (.load none (.t 2)),
 J 9 (.load (some 2) (.t 5)),
 J 10 (.pz 37 2 1 [b8 0,ay 0] [(0,2,(.t 9))]),
 J 11 (.app 37 2 8 (.t 8) (.t 10)),
 N (.store 1 (.t 2) (.t 11))] 5)))))
(.seq
(F [J 12 (.load none (.t 2)),
 M 4 12] 2)
.ret)))
def rv:List RV:=[.tmp 4]
theorem enter:En Tryz.prog 189 13 s rv:=En.mk (c:= Tryz.f189.body.getD .ret) Tryz.func189 rfl (by kernel_rfl) (by kernel_rfl) (by kernel_rfl) (by kernel_rfl)
end slices_AppendSeq_Lapi_Dot_api_Dot
namespace slices_IndexFunc_Lapi_Claim_api_Claim
abbrev f:Nat:=192
def s:bY:=(.seq
(F [J 4 (.mv (Z 0))] 1)
(.seq
(.seq
(F [M 6 0,
 J 7 (.len (.t 6)),
 J 8 (.mv (Z 0))] 3)
(.block 0
(.loop
(.seq
(F [J 9 (.bin .lss (.t 8) (.t 7))] 1)
(.seq
(.cond (.t 9)
.skip
(.exit 0))
(.seq
(.block 1
(.seq
(F [M 10 8,
 M 5 10] 2)
(.seq
(F [M 11 1,
 M 12 0,
 M 13 5,
 J 14 (.fK 4 (.t 12) (.t 13)),
 J 15 (.load (some 4) (.t 14)),
 J 16 (.call (.t 11) [(.t 15)])] 6)
(.cond (.t 16)
(.seq
(F [M 17 5,
 M 4 17] 2)
.ret)
.skip))))
(F [J 18 (.bin .add (.t 8) (Z 1)),
 M 8 18] 2)))))))
(.seq
(F [J 4 (.mv (.k (.d (.int .i64 (-1)))))] 1)
.ret)))
def rv:List RV:=[.tmp 4]
theorem enter:En Tryz.prog 192 19 s rv:=En.mk (c:= Tryz.f192.body.getD .ret) Tryz.func192 rfl (by kernel_rfl) (by kernel_rfl) (by kernel_rfl) (by kernel_rfl)
end slices_IndexFunc_Lapi_Claim_api_Claim
namespace maps_Keys_dot_set_api_Dot_int_1
abbrev f:Nat:=194
def s:bY:=(.seq
(F [J 4 (.load none (.t 1)),
 J 5 (.lT (.t 4))] 2)
(.block 0
(.loop
(.seq
(F [J 6 (.kf (.t 5)),
 J 7 (.ext 0 (.t 6))] 2)
(.seq
(.cond (.t 7)
.skip
(.exit 0))
(.block 1
(.seq
(F [J 8 (.mT (.t 5)),
 J 9 (.ext 0 (.t 8)),
 J 3 (.alloc 37 [b8 0,ay 0]),
 N (.store 2 (.t 3) (.t 9))] 4)
(.seq
(F [M 10 0,
 J 11 (.load (some 2) (.t 3)),
 J 12 (.call (.t 10) [(.t 11)]),
 J 13 (.not (.t 12))] 4)
(.cond (.t 13)
.ret
.skip)))))))))
def rv:List RV:=[]
theorem enter:En Tryz.prog 194 14 s rv:=En.mk (c:= Tryz.f194.body.getD .ret) Tryz.func194 rfl (by kernel_rfl) (by kernel_rfl) (by kernel_rfl) (by kernel_rfl)
end maps_Keys_dot_set_api_Dot_int_1
end
section
namespace revoke_New
abbrev f:Nat:=18
def s:bY:=(.seq
(F [J 2 (.mv (.k (.d .jr)))] 1)
(.seq
(.seq
(F [M 8 0,
 J 9 (.call (C 64) [(.t 8)]),
 J 10 (.jM false 0 (.t 9))] 3)
(.cond (.t 10)
(.seq
(F [J 2 (.mv (.k (.d .jr)))] 1)
.ret)
.skip))
(.seq
(F [M 11 0,
 J 12 (.yG),
 J 13 (.yG),
 J 14 (.yG),
 J 15 (.fI [(.d .jr),(.d .ir),(.d .ir),(.d .ir)] [(0,1,(.t 11)),(1,1,(.t 12)),(2,1,(.t 13)),(3,1,(.t 14))]),
 J 16 (.box 110 (.t 15)),
 M 3 16] 7)
(.seq
(.seq
(F [M 17 0,
 J 18 (.call (C 65) [(.t 17)]),
 J 19 (.len (.t 18)),
 J 20 (.mv (Z 0))] 4)
(.block 0
(.loop
(.seq
(F [J 21 (.bin .lss (.t 20) (.t 19))] 1)
(.seq
(.cond (.t 21)
.skip
(.exit 0))
(.seq
(.block 1
(.seq
(F [J 22 (.fK 2 (.t 18) (.t 20)),
 J 23 (.load (some 2) (.t 22)),
 J 5 (.alloc 37 [b8 0,ay 0]),
 N (.store 2 (.t 5) (.t 23))] 4)
(.seq
(.seq
(F [M 24 0,
 J 25 (.load (some 2) (.t 5)),
 J 26 (.call (C 66) [(.t 24),(.t 25)]),
 J 27 (.not (.t 26))] 4)
(.cond (.t 27)
(.exit 1)
.skip))
(.seq
(F [M 29 0,
 J 30 (.load (some 2) (.t 5)),
 J 31 (.call (C 67) [(.t 29),(.t 30)]),
 M 28 31,
 J 32 (.ext 0 (.t 28)),
 J 33 (.ext 1 (.t 28)),
 J 6 (.alloc 43 cq),
 N (.store 29 (.t 6) (.t 32)),
 M 7 33] 9)
(.seq
(.eM [M 34 3,
 J 35 (.dz (.t 34)),
 J 36 (.bp 1 (.t 35)),
 J 37 (.load none (.t 36)),
 J 38 (.load (some 2) (.t 5)),
 J 39 (.load (some 29) (.t 6)),
 N (.pG [true,true] true (.t 37) (.t 38) (.t 39))] [0,
1,
3,
7,
0,
0,
63] true)
(.seq
(.eM [M 41 3,
 J 42 (.dz (.t 41)),
 J 43 (.bp 2 (.t 42)),
 J 44 (.load none (.t 43)),
 J 45 (.load (some 2) (.t 5)),
 M 46 0,
 J 47 (.call (C 64) [(.t 46)]),
 J 48 (.bp 15 (.t 6)),
 J 49 (.load (some 2) (.t 48)),
 J 50 (.call (C 68) [(.t 47),(.t 49)]),
 M 40 50,
 J 51 (.ext 0 (.t 40)),
 J 52 (.ext 1 (.t 40)),
 N (.pG [true,true] true (.t 44) (.t 45) (.t 51))] [0,
1,
3,
7,
0,
0,
32,
0,
128,
480,
992,
2016,
2016,
4095] true)
(.seq
(.seq
(F [J 53 (.bp 14 (.t 6)),
 J 54 (.load none (.t 53)),
 J 55 (.bin .eql (.t 54) (.k (b8 0)))] 3)
(.cond (.t 55)
(.eM [M 56 3,
 J 57 (.dz (.t 56)),
 J 58 (.bp 2 (.t 57)),
 J 59 (.load none (.t 58)),
 J 60 (.load (some 2) (.t 5)),
 N (.pG [true,true] true (.t 59) (.t 60) (.k (.d .aP)))] [0,
1,
3,
7,
0,
31] true)
.skip))
(.seq
(F [J 61 (.bp 14 (.t 6)),
 J 62 (.load none (.t 61)),
 J 63 (.bin .eql (.t 62) (.k (b8 2)))] 3)
(.cond (.t 63)
(.eM [M 64 3,
 J 65 (.dz (.t 64)),
 J 66 (.bp 3 (.t 65)),
 J 67 (.load none (.t 66)),
 J 68 (.bp 21 (.t 6)),
 J 69 (.load (some 2) (.t 68)),
 J 71 (.load (some 2) (.t 5)),
 J 72 (.pz 37 2 1 [b8 0,ay 0] [(0,2,(.t 71))]),
 J 73 (.rD [true,true] true (.d .aP) (.t 67) (.t 69)),
 J 70 (.ext 0 (.t 73)),
 J 74 (.app 37 2 8 (.t 70) (.t 72)),
 J 75 (.ext 1 (.t 73)),
 N (.rE (.t 67) (.t 75) (.t 74))] [0,
1,
3,
7,
0,
16,
0,
64,
255,
511,
1023,
511,
4095] true)
.skip)))))))))
(F [J 76 (.bin .add (.t 20) (Z 1)),
 M 20 76] 2)))))))
(.seq
(F [M 77 3,
 M 2 77] 2)
.ret)))))
def rv:List RV:=[.tmp 2]
theorem enter:En Tryz.prog 18 78 s rv:=En.mk (c:= Tryz.f18.body.getD .ret) Tryz.func18 rfl (by kernel_rfl) (by kernel_rfl) (by kernel_rfl) (by kernel_rfl)
end revoke_New
namespace revoke_Index_Threats
abbrev f:Nat:=20
def s:bY:=(.seq
(F [J 3 (.box 37 (.t 1)),
 J 4 (.mv (.k (.d .aP))),
 J 5 (.mv (Z 0))] 3)
(.seq
(.seq
(F [M 9 0,
 J 10 (.load (some 2) (.t 3)),
 J 11 (.call (C 24) [(.t 9),(.t 10)]),
 M 8 11,
 J 12 (.ext 0 (.t 8)),
 J 13 (.ext 1 (.t 8)),
 M 6 12,
 M 7 13] 8)
(.seq
(F [M 14 7,
 J 15 (.bin .neq (.t 14) (Z 0))] 2)
(.cond (.t 15)
(.seq
(F [M 16 7,
 J 4 (.mv (.k (.d .aP))),
 M 5 16] 3)
.ret)
.skip)))
(.seq
(.eM [M 17 0,
 M 18 0,
 J 19 (.dz (.t 18)),
 J 20 (.bp 1 (.t 19)),
 J 21 (.load none (.t 20)),
 J 22 (.load (some 2) (.t 3)),
 J 23 (.look [true,true] true (.agg cq) (.t 21) (.t 22) false),
 J 24 (.call (C 72) [(.t 17),(.t 23)]),
 J 25 (.call (C 71) [(.t 24),(C 73)]),
 M 4 25,
 J 5 (.mv (Z 0))] [0,
0,
2,
6,
14,
0,
62,
127,
255,
511,
1023] true)
.ret)))
def rv:List RV:=[.tmp 4,.tmp 5]
theorem enter:En Tryz.prog 20 26 s rv:=En.mk (c:= Tryz.f20.body.getD .ret) Tryz.func20 rfl (by kernel_rfl) (by kernel_rfl) (by kernel_rfl) (by kernel_rfl)
end revoke_Index_Threats
namespace revoke_Index_Level
abbrev f:Nat:=24
def s:bY:=(.seq
(F [J 3 (.box 37 (.t 1)),
 J 4 (.mv (Z 0)),
 J 5 (.mv (Z 0))] 3)
(.seq
(.seq
(F [M 8 0,
 J 9 (.call (C 74) [(.t 8)])] 2)
(.cond (.t 9)
(.seq
(F [J 4 (.mv (Z 0)),
 J 5 (.mv (Z 1))] 2)
.ret)
.skip))
(.seq
(.seq
(.eM [M 11 0,
 J 12 (.dz (.t 11)),
 J 13 (.bp 1 (.t 12)),
 J 14 (.load none (.t 13)),
 J 15 (.load (some 2) (.t 3)),
 J 16 (.look [true,true] true (.agg cq) (.t 14) (.t 15) true),
 M 10 16,
 J 17 (.ext 0 (.t 10)),
 J 18 (.ext 1 (.t 10)),
 J 6 (.alloc 43 cq),
 N (.store 29 (.t 6) (.t 17)),
 M 7 18] [0,
1,
3,
7,
0,
31,
63,
127,
127,
0,
767,
2047] true)
(.seq
(F [M 19 7,
 J 20 (.not (.t 19))] 2)
(.cond (.t 20)
(.seq
(F [J 4 (.mv (Z 0)),
 J 5 (.mv (Z 7))] 2)
.ret)
.skip)))
(.seq
(.eM [M 21 0,
 J 22 (.dz (.t 21)),
 J 23 (.bp 2 (.t 22)),
 J 24 (.load none (.t 23)),
 J 25 (.load (some 2) (.t 3)),
 J 26 (.look [true,true] true (.d .aP) (.t 24) (.t 25) false),
 J 27 (.len (.t 26)),
 J 28 (.bin .sub (.t 27) (Z 1)),
 M 4 28,
 J 5 (.mv (Z 0))] [0,
1,
3,
7,
0,
31,
63,
127,
255,
511] true)
.ret))))
def rv:List RV:=[.tmp 4,.tmp 5]
theorem enter:En Tryz.prog 24 29 s rv:=En.mk (c:= Tryz.f24.body.getD .ret) Tryz.func24 rfl (by kernel_rfl) (by kernel_rfl) (by kernel_rfl) (by kernel_rfl)
end revoke_Index_Level
namespace revoke_sorted_api_Dot
abbrev f:Nat:=71
def s:bY:=(.seq
(F [J 3 (.box 123 (.t 1)),
 J 4 (.mv (.k (.d .aP)))] 2)
(.seq
(F [J 5 (.alloc 31 [(.d .aP)])] 1)
(.seq
(.seq
(F [M 7 0] 1)
(.block 0
(.qH (.t 7) [8]
(F [J 6 (.alloc 37 [b8 0,ay 0]),
 N (.store 2 (.t 6) (.t 8))] 2)
(.block 1
(.eM [J 9 (.load none (.t 5)),
 J 10 (.load none (.t 3)),
 J 11 (.load (some 2) (.t 6)),
 J 12 (.call (.t 10) [(.t 11)]),
 J 13 (.pz 37 2 1 [b8 0,ay 0] [(0,2,(.t 12))]),
 J 14 (.app 37 2 8 (.t 9) (.t 13)),
 N (.store 1 (.t 5) (.t 14))] [0,
0,
0,
6,
14,
31,
63] true)))))
(.seq
(F [J 15 (.load none (.t 5)),
 J 16 (.call (C 77) [(.t 15)]),
 M 4 16] 3)
.ret))))
def rv:List RV:=[.tmp 4]
theorem enter:En Tryz.prog 71 17 s rv:=En.mk (c:= Tryz.f71.body.getD .ret) Tryz.func71 rfl (by kernel_rfl) (by kernel_rfl) (by kernel_rfl) (by kernel_rfl)
end revoke_sorted_api_Dot
namespace revoke_Index_threats
abbrev f:Nat:=72
def s:bY:=(.seq
(F [J 2 (.box 27 (.t 0)),
 J 3 (.box 43 (.t 1)),
 J 4 (.mv (.k (.d .f_)))] 3)
(.seq
(F [J 5 (.rC (.func 136) [] [(.t 2),(.t 3)]),
 M 4 5] 2)
.ret))
def rv:List RV:=[.tmp 4]
theorem enter:En Tryz.prog 72 6 s rv:=En.mk (c:= Tryz.f72.body.getD .ret) Tryz.func72 rfl (by kernel_rfl) (by kernel_rfl) (by kernel_rfl) (by kernel_rfl)
end revoke_Index_threats
namespace revoke_Index_Threats_1
abbrev f:Nat:=73
def s:bY:=(.seq
(F [J 1 (.box 37 (.t 0)),
 J 2 (.alloc 37 [b8 0,ay 0])] 2)
(.seq
(F [J 3 (.load (some 2) (.t 1)),
 N (.store 2 (.t 2) (.t 3))] 2)
.ret))
def rv:List RV:=[.cell 2 (some 2)]
theorem enter:En Tryz.prog 73 4 s rv:=En.mk (c:= Tryz.f73.body.getD .ret) Tryz.func73 rfl (by kernel_rfl) (by kernel_rfl) (by kernel_rfl) (by kernel_rfl)
end revoke_Index_Threats_1
namespace revoke_Index_none
abbrev f:Nat:=74
def s:bY:=(.seq
(F [J 2 (.mv (B false))] 1)
(.seq
(F [M 3 0,
 J 4 (.jM false 0 (.t 3)),
 M 5 4,
 G 6 0 5 false,
 H 7 (.dz (.t 6)) 5 false,
 H 8 (.bp 1 (.t 7)) 5 false,
 H 9 (.load none (.t 8)) 5 false,
 H 10 (.jM false 1 (.t 9)) 5 false,
 J 11 (.pick (.t 5) (B true) (.t 10)),
 M 2 11] 10)
.ret))
def rv:List RV:=[.tmp 2]
theorem enter:En Tryz.prog 74 12 s rv:=En.mk (c:= Tryz.f74.body.getD .ret) Tryz.func74 rfl (by kernel_rfl) (by kernel_rfl) (by kernel_rfl) (by kernel_rfl)
end revoke_Index_none
namespace revoke_Index_threats_1
abbrev f:Nat:=136
def s:bY:=(.seq
(.eM [J 8 (.load none (.t 1)),
 J 9 (.dz (.t 8)),
 J 10 (.bp 2 (.t 9)),
 J 11 (.load none (.t 10)),
 J 12 (.bp 0 (.t 2)),
 J 13 (.load (some 2) (.t 12)),
 J 14 (.look [true,true] true (.d .aP) (.t 11) (.t 13) false),
 J 15 (.len (.t 14)),
 J 16 (.mv (Z 0))] [0,
1,
3,
7,
0,
16,
63,
127,
0] true)
(.block 0
(.loop
(.seq
(F [J 17 (.bin .lss (.t 16) (.t 15))] 1)
(.seq
(.cond (.t 17)
.skip
(.exit 0))
(.seq
(.block 1
(.seq
(F [J 18 (.fK 2 (.t 14) (.t 16)),
 J 19 (.load (some 2) (.t 18)),
 J 5 (.alloc 37 [b8 0,ay 0]),
 N (.store 2 (.t 5) (.t 19))] 4)
(.seq
(.eM [J 20 (.load none (.t 1)),
 J 21 (.dz (.t 20)),
 J 22 (.bp 3 (.t 21)),
 J 23 (.load none (.t 22)),
 J 24 (.load (some 2) (.t 5)),
 J 25 (.look [true,true] true (.d .aP) (.t 23) (.t 24) false),
 J 26 (.len (.t 25)),
 J 27 (.mv (Z 0))] [0,
1,
3,
7,
0,
31,
63,
0] true)
(.block 2
(.loop
(.seq
(F [J 28 (.bin .lss (.t 27) (.t 26))] 1)
(.seq
(.cond (.t 28)
.skip
(.exit 2))
(.seq
(.block 3
(.seq
(F [J 29 (.fK 2 (.t 25) (.t 27)),
 J 30 (.load (some 2) (.t 29)),
 J 7 (.alloc 37 [b8 0,ay 0]),
 N (.store 2 (.t 7) (.t 30))] 4)
(.seq
(.eM [J 31 (.load (some 29) (.t 2)),
 J 32 (.load none (.t 1)),
 J 33 (.dz (.t 32)),
 J 34 (.bp 1 (.t 33)),
 J 35 (.load none (.t 34)),
 J 36 (.load (some 2) (.t 7)),
 J 37 (.look [true,true] true (.agg cq) (.t 35) (.t 36) false),
 J 38 (.call (C 137) [(.t 31),(.t 37)]),
 J 39 (.not (.t 38)),
 M 40 39,
 G 41 0 40 true,
 H 42 (.load (some 2) (.t 7)) 40 true,
 H 43 (.call (.t 41) [(.t 42)]) 40 true,
 H 44 (.not (.t 43)) 40 true,
 J 45 (.pick (.t 40) (.t 44) (B false))] [0,
0,
2,
6,
14,
0,
62,
127,
255,
511,
1023,
1023,
4095,
8191,
16383] true)
(.cond (.t 45)
.ret
.skip))))
(F [J 46 (.bin .add (.t 27) (Z 1)),
 M 27 46] 2)))))))))
(F [J 47 (.bin .add (.t 16) (Z 1)),
 M 16 47] 2)))))))
def rv:List RV:=[]
theorem enter:En Tryz.prog 136 48 s rv:=En.mk (c:= Tryz.f136.body.getD .ret) Tryz.func136 rfl (by kernel_rfl) (by kernel_rfl) (by kernel_rfl) (by kernel_rfl)
end revoke_Index_threats_1
end
section
namespace law20_FinalMore
abbrev f:Nat:=6
def s:bY:=(.seq
(F [J 4 (.box 39 (.t 1)),
 J 5 (.box 39 (.t 2)),
 J 6 (.mv (B false))] 3)
(.seq
(.seq
(F [M 18 0,
 J 19 (.call (C 14) [(.t 18)]),
 M 20 19,
 G 21 0 20 false,
 H 22 (.len (.t 21)) 20 false,
 H 23 (.bin .gtr (.t 22) (Z 50)) 20 false,
 J 24 (.pick (.t 20) (B true) (.t 23))] 7)
(.cond (.t 24)
(.seq
(F [J 25 (.call (C 34) []),
 M 6 25] 2)
.ret)
.skip))
(.seq
(.seq
(F [J 7 (.mv (Z 0))] 1)
(.block 0
(.loop
(.seq
(.seq
(F [M 26 7,
 M 27 0,
 J 28 (.len (.t 27)),
 J 29 (.bin .lss (.t 26) (.t 28))] 4)
(.cond (.t 29)
.skip
(.exit 0)))
(.seq
(.block 1
(.seq
(F [M 32 0,
 M 33 7,
 J 34 (.fK 29 (.t 32) (.t 33)),
 J 35 (.bp 0 (.t 34)),
 J 36 (.load (some 2) (.t 35)),
 J 37 (.call (C 41) [(.t 36)]),
 J 38 (.not (.t 37))] 7)
(.cond (.t 38)
(.seq
(F [J 39 (.call (C 34) []),
 M 6 39] 2)
.ret)
.skip)))
(F [M 30 7,
 J 31 (.bin .add (.t 30) (Z 1)),
 M 7 31] 3))))))
(.seq
(.eM (M 40 0::
 J 41 (.load (some 8) (.t 4))::
 J 42 (.call (C 37) [(.t 40),(.t 41)])::
 M 43 0::
 J 44 (.load (some 8) (.t 4))::
 J 45 (.load (some 8) (.t 5))::
 J 46 (.pz 39 8 2 [ay 0,ay 0,ay 0,ay 0,ay 0,ay 0,ay 0,ay 0,ay 0,ay 0,ay 0,ay 0,ay 0,ay 0,ay 0,ay 0] [(0,8,(.t 44)),(8,8,(.t 45))])::
 J 47 (.call (C 42) [(.t 46)])::
 J 48 (.call (C 37) [(.t 43),(.t 47)])::
 M 49 0::
 M 50 0::
 J 51 (.call (C 43) [(.t 50)])::
 J 52 (.call (C 37) [(.t 49),(.t 51)])::
 M 8 42::
 M 9 48::
 M 10 52::[]) (0::
0::
3::
0::
0::
0::
48::
119::
255::
0::
0::
1535::
4095::
8191::
16383::
32767::[]) true)
(.seq
(.eM [M 53 0,
 J 54 (.load (some 8) (.t 4)),
 J 55 (.call (C 39) [(.t 53),(.t 54)]),
 M 56 0,
 J 57 (.load (some 8) (.t 4)),
 J 58 (.load (some 8) (.t 5)),
 J 59 (.pz 39 8 2 [ay 0,ay 0,ay 0,ay 0,ay 0,ay 0,ay 0,ay 0,ay 0,ay 0,ay 0,ay 0,ay 0,ay 0,ay 0,ay 0] [(0,8,(.t 57)),(8,8,(.t 58))]),
 J 60 (.call (C 42) [(.t 59)]),
 J 61 (.call (C 39) [(.t 56),(.t 60)]),
 M 11 55,
 M 12 61] [0,
0,
3,
0,
0,
0,
48,
119,
255,
511,
1023] true)
(.seq
(.seq
(F [J 13 (.mv (Z 0))] 1)
(.block 2
(.loop
(.seq
(.seq
(F [M 62 13,
 M 63 8,
 J 64 (.len (.t 63)),
 J 65 (.bin .lss (.t 62) (.t 64))] 4)
(.cond (.t 65)
.skip
(.exit 2)))
(.seq
(.block 3
(.seq
(F [M 68 9,
 M 69 8,
 M 70 13,
 J 71 (.fK 2 (.t 69) (.t 70)),
 J 72 (.load (some 2) (.t 71)),
 J 73 (.call (C 21) [(.t 68),(.t 72)]),
 J 74 (.not (.t 73))] 7)
(.cond (.t 74)
(.seq
(F [J 6 (.mv (B false))] 1)
.ret)
.skip)))
(F [M 66 13,
 J 67 (.bin .add (.t 66) (Z 1)),
 M 13 67] 3))))))
(.seq
(.seq
(F [J 14 (.mv (Z 0))] 1)
(.block 4
(.loop
(.seq
(.seq
(F [M 75 14,
 M 76 11,
 J 77 (.len (.t 76)),
 J 78 (.bin .lss (.t 75) (.t 77))] 4)
(.cond (.t 78)
.skip
(.exit 4)))
(.seq
(.block 5
(.seq
(F (M 81 8::
 M 82 11::
 M 83 14::
 J 84 (.fK 2 (.t 82) (.t 83))::
 J 85 (.load (some 2) (.t 84))::
 J 86 (.call (C 21) [(.t 81),(.t 85)])::
 J 87 (.not (.t 86))::
 M 88 87::
 G 89 12 88 false::
 G 90 11 88 false::
 G 91 14 88 false::
 H 92 (.fK 2 (.t 90) (.t 91)) 88 false::
 H 93 (.load (some 2) (.t 92)) 88 false::
 H 94 (.call (C 21) [(.t 89),(.t 93)]) 88 false::
 H 95 (.not (.t 94)) 88 false::
 J 96 (.pick (.t 88) (B true) (.t 95))::[]) 16)
(.cond (.t 96)
(.seq
(F [J 6 (.mv (B false))] 1)
.ret)
.skip)))
(F [M 79 14,
 J 80 (.bin .add (.t 79) (Z 1)),
 M 14 80] 3))))))
(.seq
(.seq
(F [J 15 (.mv (Z 0))] 1)
(.block 6
(.loop
(.seq
(.seq
(F [M 97 15,
 M 98 0,
 J 99 (.len (.t 98)),
 J 100 (.bin .lss (.t 97) (.t 99))] 4)
(.cond (.t 100)
.skip
(.exit 6)))
(.seq
(.block 7
(.seq
(.eM [M 104 0,
 J 105 (.load (some 8) (.t 4)),
 M 106 0,
 M 107 15,
 J 108 (.fK 29 (.t 106) (.t 107)),
 J 109 (.bp 0 (.t 108)),
 J 110 (.load (some 2) (.t 109)),
 J 111 (.call (C 35) [(.t 104),(.t 105),(.t 110)]),
 M 103 111,
 J 112 (.ext 0 (.t 103)),
 J 113 (.ext 1 (.t 103)),
 M 16 112,
 M 17 113] [0,
0,
0,
0,
12,
28,
60,
127,
255,
511,
511,
1023,
4095] true)
(.seq
(F (M 114 17::
 J 115 (.bin .neq (.t 114) (Z 0))::
 M 116 115::
 G 117 16 116 false::
 H 118 (.len (.t 117)) 116 false::
 H 119 (.bin .eql (.t 118) (Z 0)) 116 false::
 G 120 8 116 false::
 G 121 0 116 false::
 G 122 15 116 false::
 H 123 (.fK 29 (.t 121) (.t 122)) 116 false::
 H 124 (.bp 0 (.t 123)) 116 false::
 H 125 (.load (some 2) (.t 124)) 116 false::
 H 126 (.call (C 21) [(.t 120),(.t 125)]) 116 false::
 H 127 (.qv true (.t 119) (.t 126)) 116 false::
 J 128 (.pick (.t 116) (B true) (.t 127))::
 M 129 128::
 G 130 10 129 false::
 G 131 0 129 false::
 G 132 15 129 false::
 H 133 (.fK 29 (.t 131) (.t 132)) 129 false::
 H 134 (.bp 0 (.t 133)) 129 false::
 H 135 (.load (some 2) (.t 134)) 129 false::
 H 136 (.call (C 21) [(.t 130),(.t 135)]) 129 false::
 H 137 (.not (.t 136)) 129 false::
 J 138 (.pick (.t 129) (B true) (.t 137))::[]) 25)
(.cond (.t 138)
(.seq
(F [J 6 (.mv (B false))] 1)
.ret)
.skip))))
(F [M 101 15,
 J 102 (.bin .add (.t 101) (Z 1)),
 M 15 102] 3))))))
(.seq
(F [J 139 (.call (C 34) []),
 M 6 139] 2)
.ret)))))))))
def rv:List RV:=[.tmp 6]
theorem enter:En Tryz.prog 6 140 s rv:=En.mk (c:=Tryz.f6.body.getD .ret) Tryz.func6 rfl (by kernel_rfl) (by kernel_rfl) (by kernel_rfl) (by kernel_rfl)
end law20_FinalMore
namespace law20_head
abbrev f:Nat:=34
def s:bY:=(.seq
(F [J 0 (.mv (B false))] 1)
(.seq
(F [J 9 (.call (C 82) []),
 M 1 9] 2)
(.seq
(F [M 10 1,
 J 11 (.fI z8 [(0,1,(.k (ay 4)))]),
 J 12 (.call (C 37) [(.t 10),(.t 11)]),
 M 13 1,
 J 14 (.fI z8 [(0,1,(.k (ay 4))),(1,1,(.k (ay 1)))]),
 J 15 (.call (C 37) [(.t 13),(.t 14)]),
 M 16 1,
 J 17 (.fI z8 [(0,1,(.k (ay 3))),(1,1,(.k (ay 1)))]),
 J 18 (.call (C 37) [(.t 16),(.t 17)]),
 M 2 12,
 M 3 15,
 M 4 18] 12)
(.seq
(F [M 20 1,
 J 21 (.fI z8 [(0,1,(.k (ay 4)))]),
 J 22 (.fI [b8 0,ay 0] [(1,1,(.k (ay 4)))]),
 J 23 (.call (C 35) [(.t 20),(.t 21),(.t 22)]),
 M 19 23,
 J 24 (.ext 0 (.t 19)),
 J 25 (.ext 1 (.t 19)),
 M 5 24,
 M 6 25] 9)
(.seq
(F [M 27 1,
 J 28 (.fI z8 [(0,1,(.k (ay 4)))]),
 J 29 (.fI [b8 0,ay 0] [(1,1,(.k (ay 5)))]),
 J 30 (.call (C 35) [(.t 27),(.t 28),(.t 29)]),
 M 26 30,
 J 31 (.ext 0 (.t 26)),
 J 32 (.ext 1 (.t 26)),
 M 7 31,
 M 8 32] 9)
(.seq
(F (M 33 2::
 J 34 (.fI [b8 0,ay 0] [(1,1,(.k (ay 1)))])::
 J 35 (.fI [b8 0,ay 0] [(1,1,(.k (ay 2)))])::
 J 36 (.fI [b8 0,ay 0] [(1,1,(.k (ay 3)))])::
 J 37 (.pz 37 2 3 [b8 0,ay 0,b8 0,ay 0,b8 0,ay 0] [(0,2,(.t 34)),(2,2,(.t 35)),(4,2,(.t 36))])::
 J 38 (.call (C 29) [(.t 33),(.t 37)])::
 M 39 38::
 G 40 3 39 true::
 H 41 (.len (.t 40)) 39 true::
 H 42 (.bin .eql (.t 41) (Z 5)) 39 true::
 J 43 (.pick (.t 39) (.t 42) (B false))::
 M 44 43::
 G 45 4 44 true::
 H 46 (.fI [b8 0,ay 0] [(1,1,(.k (ay 1)))]) 44 true::
 H 47 (.fI [b8 0,ay 0] [(1,1,(.k (ay 2)))]) 44 true::
 H 48 (.fI [b8 0,ay 0] [(1,1,(.k (ay 3)))]) 44 true::
 H 49 (.fI [b8 0,ay 0] [(0,1,(.k (b8 1))),(1,1,(.k (ay 1)))]) 44 true::
 H 50 (.pz 37 2 4 [b8 0,ay 0,b8 0,ay 0,b8 0,ay 0,b8 0,ay 0] [(0,2,(.t 46)),(2,2,(.t 47)),(4,2,(.t 48)),(6,2,(.t 49))]) 44 true::
 H 51 (.call (C 29) [(.t 45),(.t 50)]) 44 true::
 J 52 (.pick (.t 44) (.t 51) (B false))::
 M 53 52::
 G 54 5 53 true::
 H 55 (.fI [b8 0,ay 0] [(0,1,(.k (b8 1))),(1,1,(.k (ay 1)))]) 53 true::
 H 56 (.pz 37 2 1 [b8 0,ay 0] [(0,2,(.t 55))]) 53 true::
 H 57 (.call (C 29) [(.t 54),(.t 56)]) 53 true::
 J 58 (.pick (.t 53) (.t 57) (B false))::
 M 59 58::
 G 60 6 59 true::
 H 61 (.bin .eql (.t 60) (Z 0)) 59 true::
 J 62 (.pick (.t 59) (.t 61) (B false))::
 M 63 62::
 G 64 8 63 true::
 H 65 (.bin .eql (.t 64) (Z 7)) 63 true::
 J 66 (.pick (.t 63) (.t 65) (B false))::
 M 0 66::[]) 35)
.ret))))))
def rv:List RV:=[.tmp 0]
theorem enter:En Tryz.prog 34 67 s rv:=En.mk (c:=Tryz.f34.body.getD .ret) Tryz.func34 rfl (by kernel_rfl) (by kernel_rfl) (by kernel_rfl) (by kernel_rfl)
end law20_head
namespace final_Waits
abbrev f:Nat:=35
def s:bY:=(.seq
(F [J 4 (.box 39 (.t 1)),
 J 5 (.box 37 (.t 2)),
 J 6 (.mv (.k (.d .aP))),
 J 7 (.mv (Z 0))] 4)
(.seq
(F [M 14 0,
 J 15 (.load (some 8) (.t 4)),
 J 16 (.call (C 83) [(.t 14),(.t 15)]),
 M 8 16] 4)
(.seq
(.seq
(.eM [M 18 8,
 J 19 (.dz (.t 18)),
 J 20 (.bp 0 (.t 19)),
 J 21 (.load none (.t 20)),
 J 22 (.load (some 2) (.t 5)),
 J 23 (.call (C 67) [(.t 21),(.t 22)]),
 M 17 23,
 J 24 (.ext 0 (.t 17)),
 J 25 (.ext 1 (.t 17)),
 J 9 (.alloc 43 cq),
 N (.store 29 (.t 9) (.t 24)),
 M 10 25] [0,
1,
3,
7,
0,
31,
63,
127,
127,
0,
767,
2047] true)
(.seq
(F [M 26 10,
 J 27 (.not (.t 26))] 2)
(.cond (.t 27)
(.seq
(F [J 6 (.mv (.k (.d .aP))),
 J 7 (.mv (Z 7))] 2)
.ret)
.skip)))
(.seq
(F [J 28 (.yG),
 M 11 28] 2)
(.seq
(F [M 29 8,
 J 30 (.load (some 2) (.t 5)),
 M 31 11,
 J 32 (.call (C 84) [(.t 29),(.t 30),(.t 31)])] 4)
(.seq
(F [J 12 (.mv (.k (.d .aP)))] 1)
(.seq
(.seq
(F [M 33 11,
 J 34 (.lT (.t 33))] 2)
(.block 0
(.loop
(.seq
(F [J 35 (.kf (.t 34)),
 J 36 (.ext 0 (.t 35))] 2)
(.seq
(.cond (.t 36)
.skip
(.exit 0))
(.block 1
(.seq
(F [J 37 (.mT (.t 34)),
 J 38 (.ext 0 (.t 37)),
 J 13 (.alloc 37 [b8 0,ay 0]),
 N (.store 2 (.t 13) (.t 38))] 4)
(.seq
(F [J 39 (.load (some 8) (.t 4)),
 J 40 (.load (some 2) (.t 13)),
 J 41 (.call (C 85) [(.t 39),(.t 40)]),
 J 42 (.not (.t 41))] 4)
(.cond (.t 42)
(F [M 43 12,
 J 44 (.load (some 2) (.t 13)),
 J 45 (.pz 37 2 1 [b8 0,ay 0] [(0,2,(.t 44))]),
 J 46 (.app 37 2 8 (.t 43) (.t 45)),
 M 12 46] 5)
.skip)))))))))
(.seq
(F [M 47 12,
 J 48 (.call (C 77) [(.t 47)]),
 M 6 48,
 J 7 (.mv (Z 0))] 4)
.ret))))))))
def rv:List RV:=[.tmp 6,.tmp 7]
theorem enter:En Tryz.prog 35 49 s rv:=En.mk (c:=Tryz.f35.body.getD .ret) Tryz.func35 rfl (by kernel_rfl) (by kernel_rfl) (by kernel_rfl) (by kernel_rfl)
end final_Waits
namespace final_Verdicts
abbrev f:Nat:=37
def s:bY:=(.seq
(F [J 3 (.box 39 (.t 1)),
 J 4 (.mv (.k (.d .aP)))] 2)
(.seq
(F [M 6 0,
 J 7 (.load (some 8) (.t 3)),
 J 8 (.call (C 83) [(.t 6),(.t 7)]),
 M 5 8] 4)
(.seq
(F [M 9 5,
 M 10 5,
 J 11 (.rC (.func 89) [(.t 10)] []),
 J 12 (.call (C 88) [(.t 9),(.t 11)]),
 M 4 12] 5)
.ret)))
def rv:List RV:=[.tmp 4]
theorem enter:En Tryz.prog 37 13 s rv:=En.mk (c:=Tryz.f37.body.getD .ret) Tryz.func37 rfl (by kernel_rfl) (by kernel_rfl) (by kernel_rfl) (by kernel_rfl)
end final_Verdicts
namespace final_Outcomes
abbrev f:Nat:=39
def s:bY:=(.seq
(F [J 3 (.box 39 (.t 1)),
 J 4 (.mv (.k (.d .aP)))] 2)
(.seq
(F [M 7 0,
 J 8 (.load (some 8) (.t 3)),
 J 9 (.call (C 83) [(.t 7),(.t 8)]),
 J 5 (.alloc 131 [(.d .jr)]),
 N (.store 1 (.t 5) (.t 9))] 5)
(.seq
(F [J 10 (.load none (.t 5)),
 J 11 (.dz (.t 10)),
 J 12 (.bp 0 (.t 11)),
 J 13 (.load none (.t 12)),
 J 14 (.call (C 65) [(.t 13)]),
 J 6 (.alloc 31 [(.d .aP)]),
 N (.store 1 (.t 6) (.t 14))] 7)
(.seq
(F [J 15 (.load none (.t 5)),
 J 16 (.rC (.func 91) [] [(.t 5),(.t 6)]),
 J 17 (.call (C 88) [(.t 15),(.t 16)]),
 M 4 17] 4)
.ret))))
def rv:List RV:=[.tmp 4]
theorem enter:En Tryz.prog 39 18 s rv:=En.mk (c:=Tryz.f39.body.getD .ret) Tryz.func39 rfl (by kernel_rfl) (by kernel_rfl) (by kernel_rfl) (by kernel_rfl)
end final_Outcomes
namespace ref04_Merge
abbrev f:Nat:=42
def s:bY:=(.seq
(F [J 2 (.alloc 39 z8)] 1)
(.seq
(F [J 3 (.alloc 39 z8)] 1)
(.seq
(.seq
(F [J 4 (.mv (Z 0))] 1)
(.block 0
(.loop
(.seq
(.seq
(F [M 6 4,
 M 7 0,
 J 8 (.len (.t 7)),
 J 9 (.bin .lss (.t 6) (.t 8))] 4)
(.cond (.t 9)
.skip
(.exit 0)))
(.seq
(.block 1
(.seq
(F [J 5 (.mv (Z 0))] 1)
(.block 2
(.loop
(.seq
(.seq
(F [M 12 5,
 J 13 (.bin .lss (.t 12) (Z 8))] 2)
(.cond (.t 13)
.skip
(.exit 2)))
(.seq
(.block 3
(.eM [M 16 5,
 M 17 5,
 J 18 (.sD 8 1 (.t 3) (.t 17)),
 J 19 (.load none (.t 18)),
 M 20 0,
 M 21 4,
 M 22 5,
 J 23 (.fK 8 (.t 20) (.t 21)),
 J 24 (.sD 8 1 (.t 23) (.t 22)),
 J 25 (.load none (.t 24)),
 J 26 (.mx (.t 19) (.t 25)),
 J 27 (.sD 8 1 (.t 3) (.t 16)),
 N (.store 1 (.t 27) (.t 26))] [0,
0,
2,
6,
0,
0,
0,
48,
240,
496,
1022,
2047,
4095] true))
(F [M 14 5,
 J 15 (.bin .add (.t 14) (Z 1)),
 M 5 15] 3)))))))
(F [M 10 4,
 J 11 (.bin .add (.t 10) (Z 1)),
 M 4 11] 3))))))
(.seq
(F [J 28 (.load (some 8) (.t 3)),
 N (.store 8 (.t 2) (.t 28))] 2)
.ret))))
def rv:List RV:=[.cell 2 (some 8)]
theorem enter:En Tryz.prog 42 29 s rv:=En.mk (c:=Tryz.f42.body.getD .ret) Tryz.func42 rfl (by kernel_rfl) (by kernel_rfl) (by kernel_rfl) (by kernel_rfl)
end ref04_Merge
namespace ref10_Known
abbrev f:Nat:=43
def s:bY:=(.seq
(F [J 2 (.alloc 39 z8)] 1)
(.seq
(F [J 3 (.alloc 39 z8)] 1)
(.seq
(.seq
(F [J 4 (.mv (Z 0))] 1)
(.block 0
(.loop
(.seq
(.seq
(F [M 5 4,
 M 6 0,
 J 7 (.len (.t 6)),
 J 8 (.bin .lss (.t 5) (.t 7))] 4)
(.cond (.t 8)
.skip
(.exit 0)))
(.seq
(.block 1
(.seq
(.eM (M 11 0::
 M 12 4::
 J 13 (.fK 29 (.t 11) (.t 12))::
 J 14 (.bp 0 (.t 13))::
 J 15 (.bp 0 (.t 14))::
 J 16 (.load none (.t 15))::
 J 17 (.bin .lss (.t 16) (.k (b8 8)))::
 M 18 17::
 G 19 0 18 true::
 G 20 4 18 true::
 H 21 (.fK 29 (.t 19) (.t 20)) 18 true::
 H 22 (.bp 0 (.t 21)) 18 true::
 H 23 (.bp 1 (.t 22)) 18 true::
 H 24 (.load none (.t 23)) 18 true::
 G 25 0 18 true::
 G 26 4 18 true::
 H 27 (.fK 29 (.t 25) (.t 26)) 18 true::
 H 28 (.bp 0 (.t 27)) 18 true::
 H 29 (.bp 0 (.t 28)) 18 true::
 H 30 (.load none (.t 29)) 18 true::
 H 31 (.sD 8 1 (.t 3) (.t 30)) 18 true::
 H 32 (.load none (.t 31)) 18 true::
 H 33 (.bin .gtr (.t 24) (.t 32)) 18 true::
 J 34 (.pick (.t 18) (.t 33) (B false))::[]) (0::
0::
3::
7::
15::
31::
63::
127::
255::
255::
1023::
2047::
4095::
8191::
255::
255::
49407::
114943::
246015::
508159::
1032447::
2081023::
4194303::
8388607::[]) true)
(.cond (.t 34)
(.eM [M 35 0,
 M 36 4,
 J 37 (.fK 29 (.t 35) (.t 36)),
 J 38 (.bp 0 (.t 37)),
 J 39 (.bp 0 (.t 38)),
 J 40 (.load none (.t 39)),
 M 41 0,
 M 42 4,
 J 43 (.fK 29 (.t 41) (.t 42)),
 J 44 (.bp 0 (.t 43)),
 J 45 (.bp 1 (.t 44)),
 J 46 (.load none (.t 45)),
 J 47 (.sD 8 1 (.t 3) (.t 40)),
 N (.store 1 (.t 47) (.t 46))] [0,
0,
3,
7,
15,
31,
0,
0,
192,
448,
960,
1984,
4095,
8191] true)
.skip)))
(F [M 9 4,
 J 10 (.bin .add (.t 9) (Z 1)),
 M 4 10] 3))))))
(.seq
(F [J 48 (.load (some 8) (.t 3)),
 N (.store 8 (.t 2) (.t 48))] 2)
.ret))))
def rv:List RV:=[.cell 2 (some 8)]
theorem enter:En Tryz.prog 43 49 s rv:=En.mk (c:=Tryz.f43.body.getD .ret) Tryz.func43 rfl (by kernel_rfl) (by kernel_rfl) (by kernel_rfl) (by kernel_rfl)
end ref10_Known
namespace law20_row
abbrev f:Nat:=82
def s:bY:=(.seq
(F [J 0 (.mv (.k (.d .aP)))] 1)
(.seq
(F [J 2 (.fI [b8 0,ay 0] [(1,1,(.k (ay 1)))]),
 J 1 (.alloc 37 [b8 0,ay 0]),
 N (.store 2 (.t 1) (.t 2))] 3)
(.seq
(F (J 3 (.load (some 2) (.t 1))::
 J 4 (.load (some 2) (.t 1))::
 J 5 (.fI cq [(0,2,(.t 3)),(10,1,(.k (bU 1))),(11,1,(.k (ay 1))),(12,2,(.t 4))])::
 J 6 (.fI [b8 0,ay 0] [(1,1,(.k (ay 2)))])::
 J 7 (.fI z8 [(0,1,(.k (ay 1)))])::
 J 8 (.load (some 2) (.t 1))::
 J 9 (.load (some 2) (.t 1))::
 J 10 (.fI cq [(0,2,(.t 6)),(2,8,(.t 7)),(10,1,(.k (bU 2))),(11,1,(.k (ay 1))),(12,2,(.t 8)),(14,1,(.k (b8 1))),(15,2,(.t 9)),(17,1,(.k (ay 2))),(18,1,(.k (b8 2))),(20,1,(.k (bU 9)))])::
 J 11 (.fI [b8 0,ay 0] [(1,1,(.k (ay 3)))])::
 J 12 (.fI z8 [(0,1,(.k (ay 2)))])::
 J 13 (.load (some 2) (.t 1))::
 J 14 (.fI [b8 0,ay 0] [(1,1,(.k (ay 2)))])::
 J 15 (.fI cq [(0,2,(.t 11)),(2,8,(.t 12)),(10,1,(.k (bU 3))),(11,1,(.k (ay 2))),(12,2,(.t 13)),(14,1,(.k (b8 3))),(15,2,(.t 14)),(26,1,(.k (ay 1)))])::
 J 16 (.fI [b8 0,ay 0] [(1,1,(.k (ay 4)))])::
 J 17 (.fI z8 [(0,1,(.k (ay 3)))])::
 J 18 (.load (some 2) (.t 1))::
 J 19 (.fI [b8 0,ay 0] [(1,1,(.k (ay 2)))])::
 J 20 (.fI [b8 0,ay 0] [(1,1,(.k (ay 3)))])::
 J 21 (.fI cq [(0,2,(.t 16)),(2,8,(.t 17)),(10,1,(.k (bU 4))),(11,1,(.k (ay 2))),(12,2,(.t 18)),(14,1,(.k (b8 4))),(15,2,(.t 19)),(21,2,(.t 20)),(26,1,(.k (ay 2)))])::
 J 22 (.fI [b8 0,ay 0] [(0,1,(.k (b8 1))),(1,1,(.k (ay 1)))])::
 J 23 (.fI z8 [(0,1,(.k (ay 3)))])::
 J 24 (.load (some 2) (.t 1))::
 J 25 (.load (some 2) (.t 1))::
 J 26 (.fI [b8 0,ay 0] [(1,1,(.k (ay 2)))])::
 J 27 (.fI cq [(0,2,(.t 22)),(2,8,(.t 23)),(10,1,(.k (bU 4))),(11,1,(.k (ay 1))),(12,2,(.t 24)),(14,1,(.k (b8 2))),(15,2,(.t 25)),(21,2,(.t 26))])::
 J 28 (.pz 43 29 5 [b8 0,ay 0,ay 0,ay 0,ay 0,ay 0,ay 0,ay 0,ay 0,ay 0,bU 0,ay 0,b8 0,ay 0,b8 0,b8 0,ay 0,ay 0,b8 0,b8 0,bU 0,b8 0,ay 0,b8 0,ay 0,ay 0,ay 0,ay 0,(.d .aP),b8 0,ay 0,ay 0,ay 0,ay 0,ay 0,ay 0,ay 0,ay 0,ay 0,bU 0,ay 0,b8 0,ay 0,b8 0,b8 0,ay 0,ay 0,b8 0,b8 0,bU 0,b8 0,ay 0,b8 0,ay 0,ay 0,ay 0,ay 0,(.d .aP),b8 0,ay 0,ay 0,ay 0,ay 0,ay 0,ay 0,ay 0,ay 0,ay 0,bU 0,ay 0,b8 0,ay 0,b8 0,b8 0,ay 0,ay 0,b8 0,b8 0,bU 0,b8 0,ay 0,b8 0,ay 0,ay 0,ay 0,ay 0,(.d .aP),b8 0,ay 0,ay 0,ay 0,ay 0,ay 0,ay 0,ay 0,ay 0,ay 0,bU 0,ay 0,b8 0,ay 0,b8 0,b8 0,ay 0,ay 0,b8 0,b8 0,bU 0,b8 0,ay 0,b8 0,ay 0,ay 0,ay 0,ay 0,(.d .aP),b8 0,ay 0,ay 0,ay 0,ay 0,ay 0,ay 0,ay 0,ay 0,ay 0,bU 0,ay 0,b8 0,ay 0,b8 0,b8 0,ay 0,ay 0,b8 0,b8 0,bU 0,b8 0,ay 0,b8 0,ay 0,ay 0,ay 0,ay 0,(.d .aP)] [(0,29,(.t 5)),(29,29,(.t 10)),(58,29,(.t 15)),(87,29,(.t 21)),(116,29,(.t 27))])::
 M 0 28::[]) 27)
.ret)))
def rv:List RV:=[.tmp 0]
theorem enter:En Tryz.prog 82 29 s rv:=En.mk (c:=Tryz.f82.body.getD .ret) Tryz.func82 rfl (by kernel_rfl) (by kernel_rfl) (by kernel_rfl) (by kernel_rfl)
end law20_row
namespace final_asks
abbrev f:Nat:=83
def s:bY:=(.seq
(F [J 3 (.box 39 (.t 1)),
 J 4 (.mv (.k (.d .jr)))] 2)
(.seq
(F [M 6 0,
 J 7 (.call (C 19) [(.t 6)]),
 M 5 7] 3)
(.seq
(.eM [M 8 5,
 M 9 5,
 J 10 (.call (C 18) [(.t 9)]),
 J 11 (.load (some 8) (.t 3)),
 J 12 (.yG),
 J 13 (.fI [(.d .jr),(.d .jr),ay 0,ay 0,ay 0,ay 0,ay 0,ay 0,ay 0,ay 0,(.d .ir)] [(0,1,(.t 8)),(1,1,(.t 10)),(2,8,(.t 11)),(10,1,(.t 12))]),
 J 14 (.box 134 (.t 13)),
 M 4 14] [0,
0,
2,
0,
0,
31,
63,
127] true)
.ret)))
def rv:List RV:=[.tmp 4]
theorem enter:En Tryz.prog 83 15 s rv:=En.mk (c:=Tryz.f83.body.getD .ret) Tryz.func83 rfl (by kernel_rfl) (by kernel_rfl) (by kernel_rfl) (by kernel_rfl)
end final_asks
namespace final_asker_waits
abbrev f:Nat:=84
def s:bY:=(.seq
(F [J 4 (.box 37 (.t 1))] 1)
(.seq
(.seq
(F [M 10 2,
 J 11 (.load (some 2) (.t 4)),
 J 12 (.look [true,true] true (i6 0) (.t 10) (.t 11) false),
 J 13 (.bin .gtr (.t 12) (Z 0))] 4)
(.cond (.t 13)
.ret
.skip))
(.seq
(F [M 14 2,
 J 15 (.load (some 2) (.t 4)),
 N (.pG [true,true] true (.t 14) (.t 15) (Z 1))] 3)
(.seq
(.eM [M 17 0,
 J 18 (.dz (.t 17)),
 J 19 (.bp 1 (.t 18)),
 J 20 (.load none (.t 19)),
 J 21 (.load (some 2) (.t 4)),
 J 22 (.call (C 20) [(.t 20),(.t 21)]),
 M 16 22,
 J 23 (.ext 0 (.t 16)),
 J 24 (.ext 1 (.t 16)),
 M 6 23,
 M 7 24] [0,
1,
3,
7,
0,
31,
63,
127,
127,
255,
1023] true)
(.seq
(F [M 25 6,
 J 26 (.len (.t 25)),
 J 27 (.mv (Z 0))] 3)
(.block 0
(.loop
(.seq
(F [J 28 (.bin .lss (.t 27) (.t 26))] 1)
(.seq
(.cond (.t 28)
.skip
(.exit 0))
(.seq
(.block 1
(.seq
(F [J 29 (.fK 2 (.t 25) (.t 27)),
 J 30 (.load (some 2) (.t 29)),
 J 9 (.alloc 37 [b8 0,ay 0]),
 N (.store 2 (.t 9) (.t 30))] 4)
(F [M 31 0,
 J 32 (.load (some 2) (.t 9)),
 M 33 2,
 J 34 (.call (C 84) [(.t 31),(.t 32),(.t 33)])] 4)))
(F [J 35 (.bin .add (.t 27) (Z 1)),
 M 27 35] 2)))))))))))
def rv:List RV:=[]
theorem enter:En Tryz.prog 84 36 s rv:=En.mk (c:=Tryz.f84.body.getD .ret) Tryz.func84 rfl (by kernel_rfl) (by kernel_rfl) (by kernel_rfl) (by kernel_rfl)
end final_asker_waits
namespace final_asker_some
abbrev f:Nat:=88
def s:bY:=(.seq
(F [J 3 (.box 67 (.t 1)),
 J 4 (.mv (.k (.d .aP)))] 2)
(.seq
(F [M 5 0,
 J 6 (.dz (.t 5)),
 J 7 (.bp 0 (.t 6)),
 J 8 (.load none (.t 7)),
 J 9 (.call (C 65) [(.t 8)]),
 J 10 (.rC (.func 144) [] [(.t 3)]),
 J 11 (.call (C 143) [(.t 9),(.t 10)]),
 M 4 11] 8)
.ret))
def rv:List RV:=[.tmp 4]
theorem enter:En Tryz.prog 88 12 s rv:=En.mk (c:=Tryz.f88.body.getD .ret) Tryz.func88 rfl (by kernel_rfl) (by kernel_rfl) (by kernel_rfl) (by kernel_rfl)
end final_asker_some
namespace final_asker_final
abbrev f:Nat:=89
def s:bY:=(.seq
(F [J 3 (.box 37 (.t 1)),
 J 4 (.mv (B false))] 2)
(.seq
(.seq
(.eM [M 11 0,
 J 12 (.dz (.t 11)),
 J 13 (.bp 10 (.t 12)),
 J 14 (.load none (.t 13)),
 J 15 (.load (some 2) (.t 3)),
 J 16 (.look [true,true] true (b8 0) (.t 14) (.t 15) false),
 M 5 16] [0,
1,
3,
7,
0,
31,
63] true)
(.seq
(F [M 17 5,
 J 18 (.bin .gtr (.t 17) (.k (b8 0)))] 2)
(.cond (.t 18)
(.seq
(F [M 19 5,
 J 20 (.bin .eql (.t 19) (.k (b8 2))),
 M 4 20] 3)
.ret)
.skip)))
(.seq
(.eM [M 22 0,
 J 23 (.dz (.t 22)),
 J 24 (.bp 1 (.t 23)),
 J 25 (.load none (.t 24)),
 J 26 (.load (some 2) (.t 3)),
 J 27 (.call (C 20) [(.t 25),(.t 26)]),
 M 21 27,
 J 28 (.ext 0 (.t 21)),
 J 29 (.ext 1 (.t 21)),
 M 6 28,
 M 7 29] [0,
1,
3,
7,
0,
31,
63,
127,
127,
255,
1023] true)
(.seq
(.eM [M 30 0,
 J 31 (.dz (.t 30)),
 J 32 (.bp 2 (.t 31)),
 J 33 (.load (some 8) (.t 32)),
 J 34 (.load (some 2) (.t 3)),
 J 35 (.call (C 85) [(.t 33),(.t 34)]),
 M 8 35] [0,
1,
3,
7,
0,
31,
63] true)
(.seq
(.seq
(F [M 36 6,
 J 37 (.len (.t 36)),
 J 38 (.mv (Z 0))] 3)
(.block 0
(.loop
(.seq
(F [J 39 (.bin .lss (.t 38) (.t 37))] 1)
(.seq
(.cond (.t 39)
.skip
(.exit 0))
(.seq
(.block 1
(.seq
(F [J 40 (.fK 2 (.t 36) (.t 38)),
 J 41 (.load (some 2) (.t 40)),
 J 10 (.alloc 37 [b8 0,ay 0]),
 N (.store 2 (.t 10) (.t 41))] 4)
(F [M 42 8,
 M 43 42,
 G 44 0 43 true,
 H 45 (.load (some 2) (.t 10)) 43 true,
 H 46 (.call (C 89) [(.t 44),(.t 45)]) 43 true,
 J 47 (.pick (.t 43) (.t 46) (B false)),
 M 8 47] 7)))
(F [J 48 (.bin .add (.t 38) (Z 1)),
 M 38 48] 2)))))))
(.seq
(.eM [M 49 0,
 J 50 (.dz (.t 49)),
 J 51 (.bp 10 (.t 50)),
 J 52 (.load none (.t 51)),
 J 53 (.load (some 2) (.t 3)),
 N (.pG [true,true] true (.t 52) (.t 53) (.k (b8 1)))] [0,
1,
3,
7,
0,
31] true)
(.seq
(.seq
(F [M 54 8] 1)
(.cond (.t 54)
(.eM [M 55 0,
 J 56 (.dz (.t 55)),
 J 57 (.bp 10 (.t 56)),
 J 58 (.load none (.t 57)),
 J 59 (.load (some 2) (.t 3)),
 N (.pG [true,true] true (.t 58) (.t 59) (.k (b8 2)))] [0,
1,
3,
7,
0,
31] true)
.skip))
(.seq
(F [M 60 8,
 M 4 60] 2)
.ret))))))))
def rv:List RV:=[.tmp 4]
theorem enter:En Tryz.prog 89 61 s rv:=En.mk (c:=Tryz.f89.body.getD .ret) Tryz.func89 rfl (by kernel_rfl) (by kernel_rfl) (by kernel_rfl) (by kernel_rfl)
end final_asker_final
namespace final_Outcomes_1
abbrev f:Nat:=91
def s:bY:=(.seq
(F [J 3 (.box 37 (.t 0)),
 J 4 (.mv (B false))] 2)
(.seq
(.eM [J 8 (.load none (.t 1)),
 J 9 (.dz (.t 8)),
 J 10 (.bp 0 (.t 9)),
 J 11 (.load none (.t 10)),
 J 12 (.load (some 2) (.t 3)),
 J 13 (.call (C 67) [(.t 11),(.t 12)]),
 M 7 13,
 J 14 (.ext 0 (.t 7)),
 J 15 (.ext 1 (.t 7)),
 J 5 (.alloc 43 cq),
 N (.store 29 (.t 5) (.t 14)),
 M 6 15] [0,
1,
3,
7,
0,
31,
63,
127,
127,
0,
767,
2047] true)
(.seq
(F [J 16 (.load none (.t 1)),
 J 17 (.load (some 2) (.t 3)),
 J 18 (.call (C 89) [(.t 16),(.t 17)]),
 M 19 18,
 H 20 (.load none (.t 2)) 19 true,
 H 21 (.rC (.func 93) [] [(.t 1),(.t 5)]) 19 true,
 H 22 (.call (C 92) [(.t 20),(.t 21)]) 19 true,
 H 23 (.not (.t 22)) 19 true,
 J 24 (.pick (.t 19) (.t 23) (B false)),
 M 4 24] 10)
.ret)))
def rv:List RV:=[.tmp 4]
theorem enter:En Tryz.prog 91 25 s rv:=En.mk (c:=Tryz.f91.body.getD .ret) Tryz.func91 rfl (by kernel_rfl) (by kernel_rfl) (by kernel_rfl) (by kernel_rfl)
end final_Outcomes_1
namespace slices_ContainsFunc_Lapi_Dot_api_Dot
abbrev f:Nat:=92
def s:bY:=(.seq
(F [J 4 (.mv (B false))] 1)
(.seq
(F [M 5 0,
 M 6 1,
 J 7 (.call (C 145) [(.t 5),(.t 6)]),
 J 8 (.bin .geq (.t 7) (Z 0)),
 M 4 8] 5)
.ret))
def rv:List RV:=[.tmp 4]
theorem enter:En Tryz.prog 92 9 s rv:=En.mk (c:=Tryz.f92.body.getD .ret) Tryz.func92 rfl (by kernel_rfl) (by kernel_rfl) (by kernel_rfl) (by kernel_rfl)
end slices_ContainsFunc_Lapi_Dot_api_Dot
namespace final_Outcomes_1_1
abbrev f:Nat:=93
def s:bY:=(.seq
(F [J 3 (.box 37 (.t 0)),
 J 4 (.mv (B false))] 2)
(.seq
(.eM [J 8 (.load none (.t 1)),
 J 9 (.dz (.t 8)),
 J 10 (.bp 0 (.t 9)),
 J 11 (.load none (.t 10)),
 J 12 (.load (some 2) (.t 3)),
 J 13 (.call (C 67) [(.t 11),(.t 12)]),
 M 7 13,
 J 14 (.ext 0 (.t 7)),
 J 15 (.ext 1 (.t 7)),
 J 5 (.alloc 43 cq),
 N (.store 29 (.t 5) (.t 14)),
 M 6 15] [0,
1,
3,
7,
0,
31,
63,
127,
127,
0,
767,
2047] true)
(.seq
(.eM (J 16 (.bp 12 (.t 5))::
 J 17 (.load (some 2) (.t 16))::
 J 18 (.bp 12 (.t 2))::
 J 19 (.load (some 2) (.t 18))::
 J 20 (.eqv false [true,true] (.t 17) (.t 19))::
 M 21 20::
 H 22 (.load none (.t 1)) 21 true::
 H 23 (.dz (.t 22)) 21 true::
 H 24 (.bp 0 (.t 23)) 21 true::
 H 25 (.load none (.t 24)) 21 true::
 H 26 (.load (some 2) (.t 3)) 21 true::
 H 27 (.call (C 66) [(.t 25),(.t 26)]) 21 true::
 J 28 (.pick (.t 21) (.t 27) (B false))::
 M 29 28::
 H 30 (.load (some 29) (.t 5)) 29 true::
 H 31 (.load (some 29) (.t 2)) 29 true::
 H 32 (.call (C 94) [(.t 30),(.t 31)]) 29 true::
 H 33 (.bin .lss (.t 32) (Z 0)) 29 true::
 J 34 (.pick (.t 29) (.t 33) (B false))::
 M 35 34::
 H 36 (.load none (.t 1)) 35 true::
 H 37 (.load (some 2) (.t 3)) 35 true::
 H 38 (.call (C 89) [(.t 36),(.t 37)]) 35 true::
 H 39 (.not (.t 38)) 35 true::
 J 40 (.pick (.t 35) (.t 39) (B false))::
 M 4 40::[]) (0::
1::
0::
4::
15::
31::
63::
127::
255::
511::
63::
2047::
4095::
8191::
16383::
16383::
65535::
131071::
262143::
524287::
1048575::
1048575::
4194303::
8388607::
16777215::
33554431::[]) true)
.ret)))
def rv:List RV:=[.tmp 4]
theorem enter:En Tryz.prog 93 41 s rv:=En.mk (c:=Tryz.f93.body.getD .ret) Tryz.func93 rfl (by kernel_rfl) (by kernel_rfl) (by kernel_rfl) (by kernel_rfl)
end final_Outcomes_1_1
namespace order_Compare
abbrev f:Nat:=94
def s:bY:=(.seq
(F [J 2 (.box 43 (.t 0)),
 J 3 (.box 43 (.t 1)),
 J 4 (.mv (Z 0))] 3)
(.seq
(.eM (J 5 (.bp 10 (.t 2))::
 J 6 (.load none (.t 5))::
 J 7 (.bp 10 (.t 3))::
 J 8 (.load none (.t 7))::
 J 9 (.call (C 147) [(.t 6),(.t 8)])::
 J 10 (.bp 0 (.t 2))::
 J 11 (.bp 0 (.t 10))::
 J 12 (.load none (.t 11))::
 J 13 (.bp 0 (.t 3))::
 J 14 (.bp 0 (.t 13))::
 J 15 (.load none (.t 14))::
 J 16 (.call (C 148) [(.t 12),(.t 15)])::
 J 17 (.bp 0 (.t 2))::
 J 18 (.bp 1 (.t 17))::
 J 19 (.load none (.t 18))::
 J 20 (.bp 0 (.t 3))::
 J 21 (.bp 1 (.t 20))::
 J 22 (.load none (.t 21))::
 J 23 (.call (C 149) [(.t 19),(.t 22)])::
 J 24 (.pz 3 1 3 [i6 0,i6 0,i6 0] [(0,1,(.t 9)),(1,1,(.t 16)),(2,1,(.t 23))])::
 J 25 (.call (C 146) [(.t 24)])::
 M 4 25::[]) (0::
1::
0::
4::
15::
0::
32::
96::
0::
256::
768::
2047::
0::
4096::
12288::
0::
32768::
98304::
262143::
524287::
1048575::
2097151::[]) true)
.ret))
def rv:List RV:=[.tmp 4]
theorem enter:En Tryz.prog 94 26 s rv:=En.mk (c:=Tryz.f94.body.getD .ret) Tryz.func94 rfl (by kernel_rfl) (by kernel_rfl) (by kernel_rfl) (by kernel_rfl)
end order_Compare
namespace slices_DeleteFunc_Lapi_Dot_api_Dot
abbrev f:Nat:=143
def s:bY:=(.seq
(F [J 4 (.mv (.k (.d .aP)))] 1)
(.seq
(F [M 8 0,
 M 9 1,
 J 10 (.call (C 145) [(.t 8),(.t 9)]),
 M 5 10] 4)
(.seq
(.seq
(F [M 11 5,
 J 12 (.bin .eql (.t 11) (.k (.d (.int .i64 (-1)))))] 2)
(.cond (.t 12)
(.seq
(F [M 13 0,
 M 4 13] 2)
.ret)
.skip))
(.seq
(.seq
(F [M 14 5,
 J 15 (.bin .add (.t 14) (Z 1)),
 M 6 15] 3)
(.block 0
(.loop
(.seq
(.seq
(F [M 16 6,
 M 17 0,
 J 18 (.len (.t 17)),
 J 19 (.bin .lss (.t 16) (.t 18))] 4)
(.cond (.t 19)
.skip
(.exit 0)))
(.seq
(.block 1
(.seq
(F [M 22 0,
 M 23 6,
 J 24 (.fK 2 (.t 22) (.t 23)),
 J 25 (.load (some 2) (.t 24)),
 J 7 (.alloc 37 [b8 0,ay 0]),
 N (.store 2 (.t 7) (.t 25))] 6)
(.seq
(F [M 26 1,
 J 27 (.load (some 2) (.t 7)),
 J 28 (.call (.t 26) [(.t 27)]),
 J 29 (.not (.t 28))] 4)
(.cond (.t 29)
(.seq
(F [M 30 0,
 M 31 5,
 J 32 (.load (some 2) (.t 7)),
 J 33 (.fK 2 (.t 30) (.t 31)),
 N (.store 2 (.t 33) (.t 32))] 5)
(F [M 34 5,
 J 35 (.bin .add (.t 34) (Z 1)),
 M 5 35] 3))
.skip))))
(F [M 20 6,
 J 21 (.bin .add (.t 20) (Z 1)),
 M 6 21] 3))))))
(.seq
(F [M 36 0,
 M 37 5,
 J 38 (.slc 2 (.t 36) (some (.t 37)) none),
 N (.JQ 2 [b8 0,ay 0] (.t 38))] 4)
(.seq
(F [M 39 0,
 M 40 5,
 J 41 (.slc 2 (.t 39) none (some (.t 40))),
 M 4 41] 4)
.ret))))))
def rv:List RV:=[.tmp 4]
theorem enter:En Tryz.prog 143 42 s rv:=En.mk (c:=Tryz.f143.body.getD .ret) Tryz.func143 rfl (by kernel_rfl) (by kernel_rfl) (by kernel_rfl) (by kernel_rfl)
end slices_DeleteFunc_Lapi_Dot_api_Dot
namespace final_asker_some_1
abbrev f:Nat:=144
def s:bY:=(.seq
(F [J 2 (.box 37 (.t 0)),
 J 3 (.mv (B false))] 2)
(.seq
(F [J 4 (.load none (.t 1)),
 J 5 (.load (some 2) (.t 2)),
 J 6 (.call (.t 4) [(.t 5)]),
 J 7 (.not (.t 6)),
 M 3 7] 5)
.ret))
def rv:List RV:=[.tmp 3]
theorem enter:En Tryz.prog 144 8 s rv:=En.mk (c:=Tryz.f144.body.getD .ret) Tryz.func144 rfl (by kernel_rfl) (by kernel_rfl) (by kernel_rfl) (by kernel_rfl)
end final_asker_some_1
namespace slices_IndexFunc_Lapi_Dot_api_Dot
abbrev f:Nat:=145
def s:bY:=(.seq
(F [J 4 (.mv (Z 0))] 1)
(.seq
(.seq
(F [M 6 0,
 J 7 (.len (.t 6)),
 J 8 (.mv (Z 0))] 3)
(.block 0
(.loop
(.seq
(F [J 9 (.bin .lss (.t 8) (.t 7))] 1)
(.seq
(.cond (.t 9)
.skip
(.exit 0))
(.seq
(.block 1
(.seq
(F [M 10 8,
 M 5 10] 2)
(.seq
(F [M 11 1,
 M 12 0,
 M 13 5,
 J 14 (.fK 2 (.t 12) (.t 13)),
 J 15 (.load (some 2) (.t 14)),
 J 16 (.call (.t 11) [(.t 15)])] 6)
(.cond (.t 16)
(.seq
(F [M 17 5,
 M 4 17] 2)
.ret)
.skip))))
(F [J 18 (.bin .add (.t 8) (Z 1)),
 M 8 18] 2)))))))
(.seq
(F [J 4 (.mv (.k (.d (.int .i64 (-1)))))] 1)
.ret)))
def rv:List RV:=[.tmp 4]
theorem enter:En Tryz.prog 145 19 s rv:=En.mk (c:=Tryz.f145.body.getD .ret) Tryz.func145 rfl (by kernel_rfl) (by kernel_rfl) (by kernel_rfl) (by kernel_rfl)
end slices_IndexFunc_Lapi_Dot_api_Dot
namespace cmp_Compare_uint64
abbrev f:Nat:=147
def s:bY:=(.seq
(F [J 4 (.mv (Z 0))] 1)
(.seq
(F [M 7 0,
 J 8 (.call (C 178) [(.t 7)]),
 M 5 8] 3)
(.seq
(F [M 9 1,
 J 10 (.call (C 178) [(.t 9)]),
 M 6 10] 3)
(.seq
(.seq
(F [M 11 5] 1)
(.cond (.t 11)
(.seq
(.seq
(F [M 12 6] 1)
(.cond (.t 12)
(.seq
(F [J 4 (.mv (Z 0))] 1)
.ret)
.skip))
(.seq
(F [J 4 (.mv (.k (.d (.int .i64 (-1)))))] 1)
.ret))
.skip))
(.seq
(.seq
(F [M 13 6] 1)
(.cond (.t 13)
(.seq
(F [J 4 (.mv (Z 1))] 1)
.ret)
.skip))
(.seq
(.seq
(F [M 14 0,
 M 15 1,
 J 16 (.bin .lss (.t 14) (.t 15))] 3)
(.cond (.t 16)
(.seq
(F [J 4 (.mv (.k (.d (.int .i64 (-1)))))] 1)
.ret)
.skip))
(.seq
(.seq
(F [M 17 0,
 M 18 1,
 J 19 (.bin .gtr (.t 17) (.t 18))] 3)
(.cond (.t 19)
(.seq
(F [J 4 (.mv (Z 1))] 1)
.ret)
.skip))
(.seq
(F [J 4 (.mv (Z 0))] 1)
.ret))))))))
def rv:List RV:=[.tmp 4]
theorem enter:En Tryz.prog 147 20 s rv:=En.mk (c:=Tryz.f147.body.getD .ret) Tryz.func147 rfl (by kernel_rfl) (by kernel_rfl) (by kernel_rfl) (by kernel_rfl)
end cmp_Compare_uint64
namespace cmp_isNaN_uint64
abbrev f:Nat:=178
def s:bY:=(.seq
(F [J 2 (.mv (B false))] 1)
(.seq
(F [M 3 0,
 M 4 0,
 J 5 (.bin .neq (.t 3) (.t 4)),
 M 2 5] 4)
.ret))
def rv:List RV:=[.tmp 2]
theorem enter:En Tryz.prog 178 6 s rv:=En.mk (c:=Tryz.f178.body.getD .ret) Tryz.func178 rfl (by kernel_rfl) (by kernel_rfl) (by kernel_rfl) (by kernel_rfl)
end cmp_isNaN_uint64
end
end Go.Proofs.YtaelhkkjgfobhaaGreat
