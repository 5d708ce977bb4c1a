/-
  The code of the functions in the small form, by program (gen.py); each is checked against the translation by the kernel.
-/
import Derived.Test.YtlgfknfdfnaedaaChecked
import Derived.Test.YtlgfknfdfnaedaaU4
set_option linter.unusedVariables false
set_option linter.unusedSimpArgs false
set_option linter.unusedSectionVars false
namespace Go.Proofs.Ytlgfknfdfnaedaa
open Go.Sl Go.Sl.Co Go.Proofs
theorem mixed : Try.prog.follows .mixedOrders = true := by kernel_rfl
abbrev T_bool : Nat := 4
abbrev T_api_Dot : Nat := 31
namespace law17_ShapeNames
end law17_ShapeNames
namespace law17_ShapeNone
end law17_ShapeNone
namespace ref10_Great
end ref10_Great
namespace law17_head
end law17_head
namespace shape_New
abbrev f : Nat := 8
def s : SCo := (.seq
(F [J 2 (.mv (.k (.d .nilp)))] 1)
(.seq
(F [M 12 0,
 J 13 (.call (C 29) [(.t 12)]),
 J 14 (.mkm),
 J 15 (.mkm),
 J 16 (.mkm),
 J 17 (.bld [(.d .nilp), (.d .nilm), (.d .nilm), (.d .nilm)] [(0, 1, (.t 13)), (1, 1, (.t 14)), (2, 1, (.t 15)), (3, 1, (.t 16))]),
 J 18 (.box 57 (.t 17)),
 M 3 18] 8)
(.seq
(.seq
(F [M 19 0,
 J 20 (.len (.t 19)),
 J 21 (.mv (Z 0))] 3)
(.block 0
(.loop
(.seq
(F [J 22 (.bin .lss (.t 21) (.t 20))] 1)
(.seq
(.cond (.t 22)
.skip
(.exit 0))
(.seq
(.block 1
(.seq
(F [J 23 (.idxS 29 (.t 19) (.t 21)),
 J 24 (.load (some 29) (.t 23)),
 J 5 (.alloc 37 z29),
 N (.store 29 (.t 5) (.t 24))] 4)
(.seq
(.reg [M 26 3,
 J 27 (.nilc (.t 26)),
 J 28 (.fld 1 (.t 27)),
 J 29 (.load none (.t 28)),
 J 30 (.fld 0 (.t 5)),
 J 31 (.load (some 2) (.t 30)),
 J 32 (.look [true, true] true (.agg z29) (.t 29) (.t 31) true),
 M 25 32,
 J 33 (.ext 0 (.t 25)),
 J 34 (.ext 1 (.t 25)),
 J 6 (.alloc 37 z29),
 N (.store 29 (.t 6) (.t 33)),
 M 7 34] [0,
1,
3,
7,
0,
16,
63,
127,
255,
255,
0,
1535,
4095] true)
(.seq
(F [M 35 7,
 J 36 (.not (.t 35))] 2)
(.cond (.t 36)
(.reg [M 37 3,
 J 38 (.nilc (.t 37)),
 J 39 (.fld 1 (.t 38)),
 J 40 (.load none (.t 39)),
 J 41 (.fld 0 (.t 5)),
 J 42 (.load (some 2) (.t 41)),
 J 43 (.load (some 29) (.t 5)),
 N (.mset [true, true] true (.t 40) (.t 42) (.t 43))] [0,
1,
3,
7,
0,
16,
0,
127] true)
.skip)))))
(F [J 44 (.bin .add (.t 21) (Z 1)),
 M 21 44] 2)))))))
(.seq
(.seq
(F [M 45 3,
 J 46 (.nilc (.t 45)),
 J 47 (.fld 1 (.t 46)),
 J 48 (.load none (.t 47)),
 J 49 (.mrange (.t 48))] 5)
(.block 2
(.loop
(.seq
(F [J 50 (.mnext (.t 49)),
 J 51 (.ext 0 (.t 50))] 2)
(.seq
(.cond (.t 51)
.skip
(.exit 2))
(.block 3
(.seq
(F [J 52 (.mentry (.t 49)),
 J 53 (.ext 0 (.t 52)),
 J 54 (.ext 1 (.t 52)),
 J 8 (.alloc 31 [b8 0, b32 0]),
 J 9 (.alloc 37 z29),
 N (.store 2 (.t 8) (.t 53)),
 N (.store 29 (.t 9) (.t 54))] 7)
(.seq
(F [J 55 (.fld 14 (.t 9)),
 J 56 (.load none (.t 55)),
 J 57 (.bin .eql (.t 56) (.k (b8 3))),
 M 58 57,
 G 59 3 58 true,
 H 60 (.load (some 29) (.t 9)) 58 true,
 H 61 (.call (C 17) [(.t 59), (.t 60)]) 58 true,
 H 62 (.bin .eql (.t 61) (Z 0)) 58 true,
 J 63 (.pick (.t 58) (.t 62) (B false))] 9)
(.cond (.t 63)
(.reg [M 64 3,
 J 65 (.nilc (.t 64)),
 J 66 (.fld 2 (.t 65)),
 J 67 (.load none (.t 66)),
 J 68 (.load (some 2) (.t 8)),
 N (.mset [true, true] true (.t 67) (.t 68) (Z 1))] [0,
1,
3,
7,
0,
31] true)
.skip)))))))))
(.seq
(.seq
(F [M 69 3,
 J 70 (.nilc (.t 69)),
 J 71 (.fld 1 (.t 70)),
 J 72 (.load none (.t 71)),
 J 73 (.mrange (.t 72))] 5)
(.block 4
(.loop
(.seq
(F [J 74 (.mnext (.t 73)),
 J 75 (.ext 0 (.t 74))] 2)
(.seq
(.cond (.t 75)
.skip
(.exit 4))
(.block 5
(.seq
(F [J 76 (.mentry (.t 73)),
 J 77 (.ext 0 (.t 76)),
 J 78 (.ext 1 (.t 76)),
 J 10 (.alloc 31 [b8 0, b32 0]),
 J 11 (.alloc 37 z29),
 N (.store 2 (.t 10) (.t 77)),
 N (.store 29 (.t 11) (.t 78))] 7)
(.seq
(F [J 79 (.fld 14 (.t 11)),
 J 80 (.load none (.t 79)),
 J 81 (.bin .eql (.t 80) (.k (b8 4))),
 M 82 81,
 G 83 3 82 true,
 H 84 (.load (some 29) (.t 11)) 82 true,
 H 85 (.call (C 17) [(.t 83), (.t 84)]) 82 true,
 H 86 (.bin .eql (.t 85) (Z 0)) 82 true,
 J 87 (.pick (.t 82) (.t 86) (B false))] 9)
(.cond (.t 87)
(.reg [M 88 3,
 J 89 (.nilc (.t 88)),
 J 90 (.fld 3 (.t 89)),
 J 91 (.load none (.t 90)),
 J 92 (.load (some 2) (.t 10)),
 J 93 (.fld 21 (.t 11)),
 J 94 (.load (some 2) (.t 93)),
 N (.mset [true, true] true (.t 91) (.t 92) (.t 94))] [0,
1,
3,
7,
0,
0,
32,
127] true)
.skip)))))))))
(.seq
(F [M 95 3,
 M 2 95] 2)
.ret))))))
def rv : List RV := [.tmp 2]
theorem enter : En Try.prog 8 96 s rv := En.mk (c := Try.f8.body.getD .ret) Try.func8 rfl (by kernel_rfl) (by kernel_rfl) (by kernel_rfl) (by kernel_rfl)
end shape_New
namespace shape_Shape_Tree
abbrev f : Nat := 9
def s : SCo := (.seq
(F [J 2 (.mv (.k (.d .nilp)))] 1)
(.seq
(.seq
(F [M 3 0,
 J 4 (.call (C 30) [(.t 3)])] 2)
(.cond (.t 4)
(.seq
(F [J 2 (.mv (.k (.d .nilp)))] 1)
.ret)
.skip))
(.seq
(F [M 5 0,
 J 6 (.nilc (.t 5)),
 J 7 (.fld 0 (.t 6)),
 J 8 (.load none (.t 7)),
 M 2 8] 5)
.ret)))
def rv : List RV := [.tmp 2]
theorem enter : En Try.prog 9 9 s rv := En.mk (c := Try.f9.body.getD .ret) Try.func9 rfl (by kernel_rfl) (by kernel_rfl) (by kernel_rfl) (by kernel_rfl)
end shape_Shape_Tree
namespace shape_Shape_Op
abbrev f : Nat := 10
def s : SCo := (.seq
(F [J 3 (.box 31 (.t 1)),
 J 4 (.alloc 37 z29),
 J 5 (.mv (B false))] 3)
(.seq
(.seq
(F [M 8 0,
 J 9 (.call (C 30) [(.t 8)])] 2)
(.cond (.t 9)
(.seq
(F [J 10 (.bld z29 []),
 N (.store 29 (.t 4) (.t 10)),
 J 5 (.mv (B false))] 3)
.ret)
.skip))
(.seq
(.reg [M 12 0,
 J 13 (.nilc (.t 12)),
 J 14 (.fld 1 (.t 13)),
 J 15 (.load none (.t 14)),
 J 16 (.load (some 2) (.t 3)),
 J 17 (.look [true, true] true (.agg z29) (.t 15) (.t 16) true),
 M 11 17,
 J 18 (.ext 0 (.t 11)),
 J 19 (.ext 1 (.t 11)),
 J 6 (.alloc 37 z29),
 N (.store 29 (.t 6) (.t 18)),
 M 7 19] [0,
1,
3,
7,
0,
31,
63,
127,
127,
0,
767,
2047] true)
(.seq
(F [J 20 (.fld 28 (.t 6)),
 J 21 (.load none (.t 20)),
 J 22 (.call (C 31) [(.t 21)]),
 J 23 (.fld 28 (.t 6)),
 N (.store 1 (.t 23) (.t 22))] 5)
(.seq
(F [J 24 (.load (some 29) (.t 6)),
 M 25 7,
 N (.store 29 (.t 4) (.t 24)),
 M 5 25] 4)
.ret)))))
def rv : List RV := [.cell 4 (some 29), .tmp 5]
theorem enter : En Try.prog 10 26 s rv := En.mk (c := Try.f10.body.getD .ret) Try.func10 rfl (by kernel_rfl) (by kernel_rfl) (by kernel_rfl) (by kernel_rfl)
end shape_Shape_Op
namespace shape_Shape_Good
abbrev f : Nat := 11
def s : SCo := (.seq
(F [J 3 (.box 31 (.t 1)),
 J 4 (.mv (B false))] 2)
(.seq
(F [M 8 0,
 J 9 (.load (some 2) (.t 3)),
 J 10 (.call (C 10) [(.t 8), (.t 9)]),
 M 7 10,
 J 11 (.ext 0 (.t 7)),
 J 12 (.ext 1 (.t 7)),
 J 5 (.alloc 37 z29),
 N (.store 29 (.t 5) (.t 11)),
 M 6 12] 9)
(.seq
(F [M 13 6,
 M 14 13,
 G 15 0 14 true,
 H 16 (.load (some 29) (.t 5)) 14 true,
 H 17 (.call (C 17) [(.t 15), (.t 16)]) 14 true,
 H 18 (.bin .eql (.t 17) (Z 0)) 14 true,
 J 19 (.pick (.t 14) (.t 18) (B false)),
 M 4 19] 8)
.ret)))
def rv : List RV := [.tmp 4]
theorem enter : En Try.prog 11 20 s rv := En.mk (c := Try.f11.body.getD .ret) Try.func11 rfl (by kernel_rfl) (by kernel_rfl) (by kernel_rfl) (by kernel_rfl)
end shape_Shape_Good
namespace tree_Tree_Get
abbrev f : Nat := 12
def s : SCo := (.seq
(F [J 3 (.box 31 (.t 1)),
 J 4 (.alloc 42 [b8 0, b32 0, b8 0, b32 0, b8 0, b32 0, b32 0, b8 0, b8 0, b64 0, i6 0]),
 J 5 (.mv (Z 0))] 3)
(.seq
(.seq
(F [M 8 0,
 J 9 (.call (C 32) [(.t 8)])] 2)
(.cond (.t 9)
(.seq
(F [J 10 (.bld [b8 0, b32 0, b8 0, b32 0, b8 0, b32 0, b32 0, b8 0, b8 0, b64 0, i6 0] []),
 N (.store 11 (.t 4) (.t 10)),
 J 5 (.mv (Z 1))] 3)
.ret)
.skip))
(.seq
(.reg [M 12 0,
 J 13 (.nilc (.t 12)),
 J 14 (.fld 0 (.t 13)),
 J 15 (.load none (.t 14)),
 J 16 (.load (some 2) (.t 3)),
 J 17 (.look [true, true] true (.agg [b8 0, b32 0, b8 0, b32 0, b8 0, b32 0, b32 0, b8 0, b8 0, b64 0, i6 0]) (.t 15) (.t 16) true),
 M 11 17,
 J 18 (.ext 0 (.t 11)),
 J 19 (.ext 1 (.t 11)),
 J 6 (.alloc 42 [b8 0, b32 0, b8 0, b32 0, b8 0, b32 0, b32 0, b8 0, b8 0, b64 0, i6 0]),
 N (.store 11 (.t 6) (.t 18)),
 M 7 19] [0,
1,
3,
7,
0,
31,
63,
127,
127,
0,
767,
2047] true)
(.seq
(.seq
(F [M 20 7,
 J 21 (.not (.t 20))] 2)
(.cond (.t 21)
(.seq
(F [J 22 (.bld [b8 0, b32 0, b8 0, b32 0, b8 0, b32 0, b32 0, b8 0, b8 0, b64 0, i6 0] []),
 N (.store 11 (.t 4) (.t 22)),
 J 5 (.mv (Z 7))] 3)
.ret)
.skip))
(.seq
(F [J 23 (.load (some 11) (.t 6)),
 N (.store 11 (.t 4) (.t 23)),
 J 5 (.mv (Z 0))] 3)
.ret)))))
def rv : List RV := [.cell 4 (some 11), .tmp 5]
theorem enter : En Try.prog 12 24 s rv := En.mk (c := Try.f12.body.getD .ret) Try.func12 rfl (by kernel_rfl) (by kernel_rfl) (by kernel_rfl) (by kernel_rfl)
end tree_Tree_Get
namespace ref17_Needs
end ref17_Needs
namespace tree_Tree_Above
abbrev f : Nat := 14
def s : SCo := (.seq
(F [J 4 (.box 31 (.t 1)),
 J 5 (.box 31 (.t 2)),
 J 6 (.alloc 4 [(.d (.bool false))])] 3)
(.seq
(.seq
(F [M 8 0,
 J 9 (.call (C 32) [(.t 8)]),
 M 10 9,
 H 11 (.load (some 2) (.t 4)) 10 false,
 H 12 (.load (some 2) (.t 5)) 10 false,
 H 13 (.eqv false [true, true] (.t 11) (.t 12)) 10 false,
 J 14 (.pick (.t 10) (B true) (.t 13))] 7)
(.cond (.t 14)
(.seq
(F [N (.store 1 (.t 6) (B false))] 1)
.ret)
.skip))
(.seq
(.seq
(F [M 15 0,
 J 16 (.load (some 2) (.t 5)),
 J 17 (.call (C 33) [(.t 15), (.t 16)])] 3)
(.block 0
(.rfun (.t 17) [18]
(F [J 7 (.alloc 42 [b8 0, b32 0, b8 0, b32 0, b8 0, b32 0, b32 0, b8 0, b8 0, b64 0, i6 0]),
 N (.store 11 (.t 7) (.t 18))] 2)
(.block 1
(.seq
(F [J 19 (.fld 0 (.t 7)),
 J 20 (.load (some 2) (.t 19)),
 J 21 (.load (some 2) (.t 4)),
 J 22 (.eqv false [true, true] (.t 20) (.t 21))] 4)
(.cond (.t 22)
(.seq
(F [N (.store 1 (.t 6) (B true))] 1)
.ret)
.skip))))))
(.seq
(F [N (.store 1 (.t 6) (B false))] 1)
.ret))))
def rv : List RV := [.cell 6 none]
theorem enter : En Try.prog 14 23 s rv := En.mk (c := Try.f14.body.getD .ret) Try.func14 rfl (by kernel_rfl) (by kernel_rfl) (by kernel_rfl) (by kernel_rfl)
end tree_Tree_Above
namespace ref03_In
end ref03_In
namespace shape_Shape_Versions
end shape_Shape_Versions
namespace shape_Shape_Why
abbrev f : Nat := 17
def s : SCo := (.seq
(F [J 2 (.box 25 (.t 0)),
 J 3 (.box 37 (.t 1)),
 J 4 (.mv (Z 0))] 3)
(.seq
(.seq
(F [J 10 (.load none (.t 2)),
 J 11 (.call (C 30) [(.t 10)])] 2)
(.cond (.t 11)
(.seq
(F [J 4 (.mv (Z 1))] 1)
.ret)
.skip))
(.seq
(F [J 13 (.load none (.t 2)),
 J 14 (.fld 15 (.t 3)),
 J 15 (.load (some 2) (.t 14)),
 J 16 (.load (some 29) (.t 3)),
 J 17 (.call (C 35) [(.t 13), (.t 15), (.t 16)]),
 M 12 17,
 J 18 (.ext 0 (.t 12)),
 J 19 (.ext 1 (.t 12)),
 J 5 (.alloc 42 [b8 0, b32 0, b8 0, b32 0, b8 0, b32 0, b32 0, b8 0, b8 0, b64 0, i6 0]),
 J 6 (.alloc 4 [(.d (.bool false))]),
 N (.store 11 (.t 5) (.t 18)),
 N (.store 1 (.t 6) (.t 19))] 12)
(.seq
(F [J 20 (.fld 14 (.t 3)),
 J 21 (.load none (.t 20)),
 J 22 (.bin .eql (.t 21) (.k (b8 0))),
 J 7 (.alloc 4 [(.d (.bool false))]),
 N (.store 1 (.t 7) (.t 22))] 5)
(.seq
(.seq
(F (J 23 (.mkf (.func 36) [] [(.t 3)]) ::
 J 24 (.bld [i6 0, (.d .nilf)] [(0, 1, (Z 2)), (1, 1, (.t 23))]) ::
 J 25 (.mkf (.func 37) [] [(.t 2), (.t 3)]) ::
 J 26 (.bld [i6 0, (.d .nilf)] [(0, 1, (Z 271)), (1, 1, (.t 25))]) ::
 J 27 (.mkf (.func 39) [] [(.t 7), (.t 6)]) ::
 J 28 (.bld [i6 0, (.d .nilf)] [(0, 1, (Z 272)), (1, 1, (.t 27))]) ::
 J 29 (.mkf (.func 40) [] [(.t 7), (.t 5), (.t 3)]) ::
 J 30 (.bld [i6 0, (.d .nilf)] [(0, 1, (Z 273)), (1, 1, (.t 29))]) ::
 J 31 (.mkf (.func 41) [] [(.t 5), (.t 3)]) ::
 J 32 (.bld [i6 0, (.d .nilf)] [(0, 1, (Z 274)), (1, 1, (.t 31))]) ::
 J 33 (.mkf (.func 42) [] [(.t 3), (.t 2)]) ::
 J 34 (.bld [i6 0, (.d .nilf)] [(0, 1, (Z 275)), (1, 1, (.t 33))]) ::
 J 35 (.mkf (.func 44) [] [(.t 2), (.t 3)]) ::
 J 36 (.bld [i6 0, (.d .nilf)] [(0, 1, (Z 276)), (1, 1, (.t 35))]) ::
 J 37 (.bld [i6 0, (.d .nilf), i6 0, (.d .nilf), i6 0, (.d .nilf), i6 0, (.d .nilf), i6 0, (.d .nilf), i6 0, (.d .nilf), i6 0, (.d .nilf)] [(0, 2, (.t 24)), (2, 2, (.t 26)), (4, 2, (.t 28)), (6, 2, (.t 30)), (8, 2, (.t 32)), (10, 2, (.t 34)), (12, 2, (.t 36))]) ::
 J 38 (.mv (Z 0)) :: []) 16)
(.block 0
(.loop
(.seq
(F [J 39 (.bin .lss (.t 38) (Z 7))] 1)
(.seq
(.cond (.t 39)
.skip
(.exit 0))
(.seq
(.block 1
(.seq
(F [J 40 (.index 7 2 true (.t 37) (.t 38)),
 J 9 (.alloc 88 [i6 0, (.d .nilf)]),
 N (.store 2 (.t 9) (.t 40))] 3)
(.seq
(F [J 41 (.fld 1 (.t 9)),
 J 42 (.load none (.t 41)),
 J 43 (.call (.t 42) [])] 3)
(.cond (.t 43)
(.seq
(F [J 44 (.fld 0 (.t 9)),
 J 45 (.load none (.t 44)),
 M 4 45] 3)
.ret)
.skip))))
(F [J 46 (.bin .add (.t 38) (Z 1)),
 M 38 46] 2)))))))
(.seq
(F [J 4 (.mv (Z 0))] 1)
.ret))))))
def rv : List RV := [.tmp 4]
theorem enter : En Try.prog 17 47 s rv := En.mk (c := Try.f17.body.getD .ret) Try.func17 rfl (by kernel_rfl) (by kernel_rfl) (by kernel_rfl) (by kernel_rfl)
end shape_Shape_Why
namespace shape_Shape_Dots
abbrev f : Nat := 18
def s : SCo := (.seq
(F [J 2 (.mv (.k (.d .nils)))] 1)
(.seq
(.seq
(F [M 3 0,
 J 4 (.call (C 30) [(.t 3)])] 2)
(.cond (.t 4)
(.seq
(F [J 2 (.mv (.k (.d .nils)))] 1)
.ret)
.skip))
(.seq
(F [M 5 0,
 J 6 (.nilc (.t 5)),
 J 7 (.fld 1 (.t 6)),
 J 8 (.load none (.t 7)),
 J 9 (.call (C 47) [(.t 8)]),
 J 10 (.call (C 46) [(.t 9), (C 48)]),
 M 2 10] 7)
.ret)))
def rv : List RV := [.tmp 2]
theorem enter : En Try.prog 18 11 s rv := En.mk (c := Try.f18.body.getD .ret) Try.func18 rfl (by kernel_rfl) (by kernel_rfl) (by kernel_rfl) (by kernel_rfl)
end shape_Shape_Dots
namespace law17_row
end law17_row
namespace law17_act
end law17_act
namespace law17_at
end law17_at
namespace shape_Needs
abbrev f : Nat := 28
def s : SCo := (.seq
(F [J 2 (.mv (.k (b8 0)))] 1)
(.seq
(F [J 4 (.bld [b8 0, b8 0, b8 0, b8 0, b8 0, b8 0, b8 0, b8 0, b8 0] [(1, 1, (.k (b8 1))), (2, 1, (.k (b8 1))), (3, 1, (.k (b8 2))), (4, 1, (.k (b8 2))), (5, 1, (.k (b8 2))), (6, 1, (.k (b8 4))), (7, 1, (.k (b8 4))), (8, 1, (.k (b8 2)))]),
 J 3 (.alloc 104 [b8 0, b8 0, b8 0, b8 0, b8 0, b8 0, b8 0, b8 0, b8 0]),
 N (.store 9 (.t 3) (.t 4))] 3)
(.seq
(.seq
(F [M 5 0,
 J 6 (.conv .i64 (.t 5)),
 J 7 (.bin .geq (.t 6) (Z 9))] 3)
(.cond (.t 7)
(.seq
(F [J 2 (.mv (.k (b8 0)))] 1)
.ret)
.skip))
(.seq
(F [M 8 0,
 J 9 (.idxA 9 1 (.t 3) (.t 8)),
 J 10 (.load none (.t 9)),
 M 2 10] 4)
.ret))))
def rv : List RV := [.tmp 2]
theorem enter : En Try.prog 28 11 s rv := En.mk (c := Try.f28.body.getD .ret) Try.func28 rfl (by kernel_rfl) (by kernel_rfl) (by kernel_rfl) (by kernel_rfl)
end shape_Needs
namespace tree_New
abbrev f : Nat := 29
def s : SCo := (.seq
(F [J 2 (.mv (.k (.d .nilp)))] 1)
(.seq
(F [J 8 (.mkm),
 J 9 (.mkm),
 J 10 (.bld [(.d .nilm), (.d .nilm)] [(0, 1, (.t 8)), (1, 1, (.t 9))]),
 J 11 (.box 81 (.t 10)),
 M 3 11] 5)
(.seq
(F [J 12 (.mkm),
 J 4 (.alloc 54 [(.d .nilm)]),
 N (.store 1 (.t 4) (.t 12))] 3)
(.seq
(F [M 13 0,
 J 14 (.call (C 61) [(.t 13)]),
 J 15 (.mkf (.func 62) [] [(.t 4)]),
 J 16 (.call (C 60) [(.t 14), (.t 15)]),
 M 5 16] 5)
(.seq
(.seq
(F [J 6 (.mv (B true))] 1)
(.block 0
(.loop
(.seq
(.seq
(F [M 17 6] 1)
(.cond (.t 17)
.skip
(.exit 0)))
(.block 1
(.seq
(F [M 18 5,
 J 19 (.len (.t 18)),
 M 7 19] 3)
(.seq
(F [M 20 5,
 M 21 3,
 J 22 (.mkf (.func 63) [(.t 21)] []),
 J 23 (.call (C 60) [(.t 20), (.t 22)]),
 M 5 23] 5)
(F [M 24 5,
 J 25 (.len (.t 24)),
 M 26 7,
 J 27 (.bin .lss (.t 25) (.t 26)),
 M 6 27] 5))))))))
(.seq
(F [M 28 3,
 M 2 28] 2)
.ret))))))
def rv : List RV := [.tmp 2]
theorem enter : En Try.prog 29 29 s rv := En.mk (c := Try.f29.body.getD .ret) Try.func29 rfl (by kernel_rfl) (by kernel_rfl) (by kernel_rfl) (by kernel_rfl)
end tree_New
namespace shape_Shape_none
abbrev f : Nat := 30
def s : SCo := (.seq
(F [J 2 (.mv (B false))] 1)
(.seq
(F [M 3 0,
 J 4 (.eqnil false 0 (.t 3)),
 M 5 4,
 G 6 0 5 false,
 H 7 (.nilc (.t 6)) 5 false,
 H 8 (.fld 1 (.t 7)) 5 false,
 H 9 (.load none (.t 8)) 5 false,
 H 10 (.eqnil false 1 (.t 9)) 5 false,
 J 11 (.pick (.t 5) (B true) (.t 10)),
 M 2 11] 10)
.ret))
def rv : List RV := [.tmp 2]
theorem enter : En Try.prog 30 12 s rv := En.mk (c := Try.f30.body.getD .ret) Try.func30 rfl (by kernel_rfl) (by kernel_rfl) (by kernel_rfl) (by kernel_rfl)
end shape_Shape_none
namespace slices_Clone_Lapi_Claim_api_Claim
abbrev f : Nat := 31
def s : SCo := (.seq
(F [J 2 (.mv (.k (.d .nils)))] 1)
(.seq
(.seq
(F [M 3 0,
 J 4 (.eqnil false 3 (.t 3))] 2)
(.cond (.t 4)
(.seq
(F [J 2 (.mv (.k (.d .nils)))] 1)
.ret)
.skip))
(.seq
(F [J 5 (.bsl 52 4 0 [] []),
 M 6 0,
 J 7 (.app 52 4 16 (.t 5) (.t 6)),
 M 2 7] 4)
.ret)))
def rv : List RV := [.tmp 2]
theorem enter : En Try.prog 31 8 s rv := En.mk (c := Try.f31.body.getD .ret) Try.func31 rfl (by kernel_rfl) (by kernel_rfl) (by kernel_rfl) (by kernel_rfl)
end slices_Clone_Lapi_Claim_api_Claim
namespace tree_Tree_none
abbrev f : Nat := 32
def s : SCo := (.seq
(F [J 2 (.mv (B false))] 1)
(.seq
(F [M 3 0,
 J 4 (.eqnil false 0 (.t 3)),
 M 5 4,
 G 6 0 5 false,
 H 7 (.nilc (.t 6)) 5 false,
 H 8 (.fld 0 (.t 7)) 5 false,
 H 9 (.load none (.t 8)) 5 false,
 H 10 (.eqnil false 1 (.t 9)) 5 false,
 J 11 (.pick (.t 5) (B true) (.t 10)),
 M 2 11] 10)
.ret))
def rv : List RV := [.tmp 2]
theorem enter : En Try.prog 32 12 s rv := En.mk (c := Try.f32.body.getD .ret) Try.func32 rfl (by kernel_rfl) (by kernel_rfl) (by kernel_rfl) (by kernel_rfl)
end tree_Tree_none
namespace tree_Tree_up
abbrev f : Nat := 33
def s : SCo := (.seq
(F [J 2 (.box 27 (.t 0)),
 J 3 (.box 31 (.t 1)),
 J 4 (.mv (.k (.d .nilf)))] 3)
(.seq
(F [J 5 (.mkf (.func 64) [] [(.t 2), (.t 3)]),
 M 4 5] 2)
.ret))
def rv : List RV := [.tmp 4]
theorem enter : En Try.prog 33 6 s rv := En.mk (c := Try.f33.body.getD .ret) Try.func33 rfl (by kernel_rfl) (by kernel_rfl) (by kernel_rfl) (by kernel_rfl)
end tree_Tree_up
namespace dot_Sort
abbrev f : Nat := 34
def s : SCo := (.seq
(F [J 2 (.mv (.k (.d .nils)))] 1)
(.seq
(F [M 3 0,
 J 4 (.call (C 65) [(.t 3)]),
 J 5 (.call (C 66) [(.t 4)]),
 M 2 5] 4)
.ret))
def rv : List RV := [.tmp 2]
theorem enter : En Try.prog 34 6 s rv := En.mk (c := Try.f34.body.getD .ret) Try.func34 rfl (by kernel_rfl) (by kernel_rfl) (by kernel_rfl) (by kernel_rfl)
end dot_Sort
namespace shape_Shape_cred
abbrev f : Nat := 35
def s : SCo := (.seq
(F [J 4 (.box 31 (.t 1)),
 J 5 (.box 37 (.t 2)),
 J 6 (.alloc 42 [b8 0, b32 0, b8 0, b32 0, b8 0, b32 0, b32 0, b8 0, b8 0, b64 0, i6 0]),
 J 7 (.mv (B false))] 4)
(.seq
(.reg [M 11 0,
 J 12 (.nilc (.t 11)),
 J 13 (.fld 0 (.t 12)),
 J 14 (.load none (.t 13)),
 J 15 (.load (some 2) (.t 4)),
 J 16 (.call (C 12) [(.t 14), (.t 15)]),
 M 10 16,
 J 17 (.ext 0 (.t 10)),
 J 18 (.ext 1 (.t 10)),
 J 8 (.alloc 42 [b8 0, b32 0, b8 0, b32 0, b8 0, b32 0, b32 0, b8 0, b8 0, b64 0, i6 0]),
 N (.store 11 (.t 8) (.t 17)),
 M 9 18] [0,
1,
3,
7,
0,
31,
63,
127,
127,
0,
767,
2047] true)
(.seq
(.reg (J 19 (.load (some 11) (.t 8)) ::
 M 20 9 ::
 J 21 (.bin .eql (.t 20) (Z 0)) ::
 M 22 21 ::
 H 23 (.fld 2 (.t 8)) 22 true ::
 H 24 (.load (some 2) (.t 23)) 22 true ::
 H 25 (.fld 12 (.t 5)) 22 true ::
 H 26 (.load (some 2) (.t 25)) 22 true ::
 H 27 (.eqv false [true, true] (.t 24) (.t 26)) 22 true ::
 J 28 (.pick (.t 22) (.t 27) (B false)) ::
 M 29 28 ::
 G 30 0 29 true ::
 H 31 (.load (some 2) (.t 4)) 29 true ::
 H 32 (.load (some 29) (.t 5)) 29 true ::
 H 33 (.call (C 67) [(.t 30), (.t 31), (.t 32)]) 29 true ::
 J 34 (.pick (.t 29) (.t 33) (B false)) ::
 N (.store 11 (.t 6) (.t 19)) ::
 M 7 34 :: []) (0 ::
0 ::
2 ::
6 ::
14 ::
30 ::
14 ::
78 ::
254 ::
510 ::
1022 ::
2046 ::
2046 ::
2046 ::
16382 ::
32766 ::
32767 ::
131071 :: []) true)
.ret)))
def rv : List RV := [.cell 6 (some 11), .tmp 7]
theorem enter : En Try.prog 35 35 s rv := En.mk (c := Try.f35.body.getD .ret) Try.func35 rfl (by kernel_rfl) (by kernel_rfl) (by kernel_rfl) (by kernel_rfl)
end shape_Shape_cred
namespace shape_Shape_Why_1
abbrev f : Nat := 36
def s : SCo := (.seq
(F [J 1 (.mv (B false))] 1)
(.seq
(F [J 2 (.fld 14 (.t 0)),
 J 3 (.load none (.t 2)),
 J 4 (.bin .gtr (.t 3) (.k (b8 8))),
 M 1 4] 4)
.ret))
def rv : List RV := [.tmp 1]
theorem enter : En Try.prog 36 5 s rv := En.mk (c := Try.f36.body.getD .ret) Try.func36 rfl (by kernel_rfl) (by kernel_rfl) (by kernel_rfl) (by kernel_rfl)
end shape_Shape_Why_1
namespace shape_Shape_Why_2
abbrev f : Nat := 37
def s : SCo := (.seq
(F [J 2 (.mv (B false))] 1)
(.seq
(F [J 3 (.load none (.t 0)),
 J 4 (.load (some 29) (.t 1)),
 J 5 (.call (C 38) [(.t 3), (.t 4)]),
 J 6 (.not (.t 5)),
 M 2 6] 5)
.ret))
def rv : List RV := [.tmp 2]
theorem enter : En Try.prog 37 7 s rv := En.mk (c := Try.f37.body.getD .ret) Try.func37 rfl (by kernel_rfl) (by kernel_rfl) (by kernel_rfl) (by kernel_rfl)
end shape_Shape_Why_2
namespace shape_Shape_cart
abbrev f : Nat := 38
def s : SCo := (.seq
(F [J 3 (.box 37 (.t 1)),
 J 4 (.mv (B false))] 2)
(.seq
(.reg [M 8 0,
 J 9 (.nilc (.t 8)),
 J 10 (.fld 1 (.t 9)),
 J 11 (.load none (.t 10)),
 J 12 (.fld 12 (.t 3)),
 J 13 (.load (some 2) (.t 12)),
 J 14 (.look [true, true] true (.agg z29) (.t 11) (.t 13) true),
 M 7 14,
 J 15 (.ext 0 (.t 7)),
 J 16 (.ext 1 (.t 7)),
 J 5 (.alloc 37 z29),
 N (.store 29 (.t 5) (.t 15)),
 M 6 16] [0,
1,
3,
7,
0,
16,
63,
127,
255,
255,
0,
1535,
4095] true)
(.seq
(.seq
(F [J 17 (.fld 14 (.t 3)),
 J 18 (.load none (.t 17)),
 J 19 (.bin .eql (.t 18) (.k (b8 0)))] 3)
(.cond (.t 19)
(.seq
(F [J 20 (.fld 12 (.t 3)),
 J 21 (.load (some 2) (.t 20)),
 J 22 (.fld 0 (.t 3)),
 J 23 (.load (some 2) (.t 22)),
 J 24 (.eqv false [true, true] (.t 21) (.t 23)),
 M 4 24] 6)
.ret)
.skip))
(.seq
(F (M 25 6 ::
 M 26 25 ::
 H 27 (.fld 14 (.t 5)) 26 true ::
 H 28 (.load none (.t 27)) 26 true ::
 H 29 (.bin .eql (.t 28) (.k (b8 0))) 26 true ::
 J 30 (.pick (.t 26) (.t 29) (B false)) ::
 M 31 30 ::
 H 32 (.fld 12 (.t 5)) 31 true ::
 H 33 (.load (some 2) (.t 32)) 31 true ::
 H 34 (.fld 0 (.t 5)) 31 true ::
 H 35 (.load (some 2) (.t 34)) 31 true ::
 H 36 (.eqv false [true, true] (.t 33) (.t 35)) 31 true ::
 J 37 (.pick (.t 31) (.t 36) (B false)) ::
 M 38 37 ::
 H 39 (.load (some 29) (.t 5)) 38 true ::
 H 40 (.load (some 29) (.t 3)) 38 true ::
 H 41 (.call (C 68) [(.t 39), (.t 40)]) 38 true ::
 J 42 (.pick (.t 38) (.t 41) (B false)) ::
 M 4 42 :: []) 19)
.ret))))
def rv : List RV := [.tmp 4]
theorem enter : En Try.prog 38 43 s rv := En.mk (c := Try.f38.body.getD .ret) Try.func38 rfl (by kernel_rfl) (by kernel_rfl) (by kernel_rfl) (by kernel_rfl)
end shape_Shape_cart
namespace shape_Shape_Why_3
abbrev f : Nat := 39
def s : SCo := (.seq
(F [J 2 (.mv (B false))] 1)
(.seq
(F [J 3 (.load none (.t 0)),
 J 4 (.not (.t 3)),
 M 5 4,
 H 6 (.load none (.t 1)) 5 true,
 H 7 (.not (.t 6)) 5 true,
 J 8 (.pick (.t 5) (.t 7) (B false)),
 M 2 8] 7)
.ret))
def rv : List RV := [.tmp 2]
theorem enter : En Try.prog 39 9 s rv := En.mk (c := Try.f39.body.getD .ret) Try.func39 rfl (by kernel_rfl) (by kernel_rfl) (by kernel_rfl) (by kernel_rfl)
end shape_Shape_Why_3
namespace shape_Shape_Why_4
abbrev f : Nat := 40
def s : SCo := (.seq
(F [J 3 (.mv (B false))] 1)
(.seq
(F [J 4 (.load none (.t 0)),
 J 5 (.not (.t 4)),
 M 6 5,
 H 7 (.fld 6 (.t 1)) 6 true,
 H 8 (.load none (.t 7)) 6 true,
 H 9 (.fld 11 (.t 2)) 6 true,
 H 10 (.load none (.t 9)) 6 true,
 H 11 (.bin .neq (.t 8) (.t 10)) 6 true,
 J 12 (.pick (.t 6) (.t 11) (B false)),
 M 3 12] 10)
.ret))
def rv : List RV := [.tmp 3]
theorem enter : En Try.prog 40 13 s rv := En.mk (c := Try.f40.body.getD .ret) Try.func40 rfl (by kernel_rfl) (by kernel_rfl) (by kernel_rfl) (by kernel_rfl)
end shape_Shape_Why_4
namespace shape_Shape_Why_5
abbrev f : Nat := 41
def s : SCo := (.seq
(F [J 2 (.mv (B false))] 1)
(.seq
(.reg [J 3 (.fld 7 (.t 0)),
 J 4 (.load none (.t 3)),
 J 5 (.fld 14 (.t 1)),
 J 6 (.load none (.t 5)),
 J 7 (.call (C 28) [(.t 6)]),
 J 8 (.bin .and (.t 4) (.t 7)),
 J 9 (.fld 14 (.t 1)),
 J 10 (.load none (.t 9)),
 J 11 (.call (C 28) [(.t 10)]),
 J 12 (.bin .neq (.t 8) (.t 11)),
 M 2 12] [0,
1,
0,
4,
12,
31,
0,
64,
220,
511,
1023] true)
.ret))
def rv : List RV := [.tmp 2]
theorem enter : En Try.prog 41 13 s rv := En.mk (c := Try.f41.body.getD .ret) Try.func41 rfl (by kernel_rfl) (by kernel_rfl) (by kernel_rfl) (by kernel_rfl)
end shape_Shape_Why_5
namespace shape_Shape_Why_6
abbrev f : Nat := 42
def s : SCo := (.seq
(F [J 2 (.mv (B false))] 1)
(.seq
(.reg [J 3 (.fld 14 (.t 0)),
 J 4 (.load none (.t 3)),
 J 5 (.bin .eql (.t 4) (.k (b8 1))),
 M 6 5,
 H 7 (.load none (.t 1)) 6 true,
 H 8 (.nilc (.t 7)) 6 true,
 H 9 (.fld 0 (.t 8)) 6 true,
 H 10 (.load none (.t 9)) 6 true,
 H 11 (.load (some 29) (.t 0)) 6 true,
 H 12 (.call (C 43) [(.t 10), (.t 11)]) 6 true,
 H 13 (.bin .neq (.t 12) (Z 0)) 6 true,
 J 14 (.pick (.t 6) (.t 13) (B false)),
 M 2 14] [0,
1,
3,
7,
15,
31,
63,
127,
15,
511,
1023,
2047,
4095] true)
.ret))
def rv : List RV := [.tmp 2]
theorem enter : En Try.prog 42 15 s rv := En.mk (c := Try.f42.body.getD .ret) Try.func42 rfl (by kernel_rfl) (by kernel_rfl) (by kernel_rfl) (by kernel_rfl)
end shape_Shape_Why_6
namespace tree_Tree_Why
abbrev f : Nat := 43
def s : SCo := (.seq
(F [J 2 (.box 27 (.t 0)),
 J 3 (.box 37 (.t 1)),
 J 4 (.mv (Z 0))] 3)
(.seq
(.seq
(F [J 9 (.load none (.t 2)),
 J 10 (.call (C 32) [(.t 9)])] 2)
(.cond (.t 10)
(.seq
(F [J 4 (.mv (Z 1))] 1)
.ret)
.skip))
(.seq
(.reg [J 12 (.load none (.t 2)),
 J 13 (.nilc (.t 12)),
 J 14 (.fld 0 (.t 13)),
 J 15 (.load none (.t 14)),
 J 16 (.fld 15 (.t 3)),
 J 17 (.load (some 2) (.t 16)),
 J 18 (.look [true, true] true (.agg [b8 0, b32 0, b8 0, b32 0, b8 0, b32 0, b32 0, b8 0, b8 0, b64 0, i6 0]) (.t 15) (.t 17) true),
 M 11 18,
 J 19 (.ext 0 (.t 11)),
 J 20 (.ext 1 (.t 11)),
 J 5 (.alloc 42 [b8 0, b32 0, b8 0, b32 0, b8 0, b32 0, b32 0, b8 0, b8 0, b64 0, i6 0]),
 J 6 (.alloc 4 [(.d (.bool false))]),
 N (.store 11 (.t 5) (.t 19)),
 N (.store 1 (.t 6) (.t 20))] [0,
1,
3,
7,
0,
16,
63,
127,
255,
255,
0,
0,
3583,
8191] true)
(.seq
(.seq
(F [J 21 (.mkf (.func 69) [] [(.t 3)]),
 J 22 (.bld [i6 0, (.d .nilf)] [(0, 1, (Z 2)), (1, 1, (.t 21))]),
 J 23 (.mkf (.func 70) [] [(.t 6), (.t 5), (.t 3), (.t 2)]),
 J 24 (.bld [i6 0, (.d .nilf)] [(0, 1, (Z 272)), (1, 1, (.t 23))]),
 J 25 (.mkf (.func 71) [] [(.t 5), (.t 3)]),
 J 26 (.bld [i6 0, (.d .nilf)] [(0, 1, (Z 273)), (1, 1, (.t 25))]),
 J 27 (.mkf (.func 72) [] [(.t 5)]),
 J 28 (.bld [i6 0, (.d .nilf)] [(0, 1, (Z 274)), (1, 1, (.t 27))]),
 J 29 (.mkf (.func 73) [] [(.t 3), (.t 5)]),
 J 30 (.bld [i6 0, (.d .nilf)] [(0, 1, (Z 275)), (1, 1, (.t 29))]),
 J 31 (.bld [i6 0, (.d .nilf), i6 0, (.d .nilf), i6 0, (.d .nilf), i6 0, (.d .nilf), i6 0, (.d .nilf)] [(0, 2, (.t 22)), (2, 2, (.t 24)), (4, 2, (.t 26)), (6, 2, (.t 28)), (8, 2, (.t 30))]),
 J 32 (.mv (Z 0))] 12)
(.block 0
(.loop
(.seq
(F [J 33 (.bin .lss (.t 32) (Z 5))] 1)
(.seq
(.cond (.t 33)
.skip
(.exit 0))
(.seq
(.block 1
(.seq
(F [J 34 (.index 5 2 true (.t 31) (.t 32)),
 J 8 (.alloc 113 [i6 0, (.d .nilf)]),
 N (.store 2 (.t 8) (.t 34))] 3)
(.seq
(F [J 35 (.fld 1 (.t 8)),
 J 36 (.load none (.t 35)),
 J 37 (.call (.t 36) [])] 3)
(.cond (.t 37)
(.seq
(F [J 38 (.fld 0 (.t 8)),
 J 39 (.load none (.t 38)),
 M 4 39] 3)
.ret)
.skip))))
(F [J 40 (.bin .add (.t 32) (Z 1)),
 M 32 40] 2)))))))
(.seq
(F [J 4 (.mv (Z 0))] 1)
.ret)))))
def rv : List RV := [.tmp 4]
theorem enter : En Try.prog 43 41 s rv := En.mk (c := Try.f43.body.getD .ret) Try.func43 rfl (by kernel_rfl) (by kernel_rfl) (by kernel_rfl) (by kernel_rfl)
end tree_Tree_Why
namespace shape_Shape_Why_7
abbrev f : Nat := 44
def s : SCo := (.seq
(F [J 2 (.mv (B false))] 1)
(.seq
(F [J 3 (.load none (.t 0)),
 J 4 (.load (some 29) (.t 1)),
 J 5 (.call (C 45) [(.t 3), (.t 4)]),
 J 6 (.not (.t 5)),
 M 2 6] 5)
.ret))
def rv : List RV := [.tmp 2]
theorem enter : En Try.prog 44 7 s rv := En.mk (c := Try.f44.body.getD .ret) Try.func44 rfl (by kernel_rfl) (by kernel_rfl) (by kernel_rfl) (by kernel_rfl)
end shape_Shape_Why_7
namespace shape_Shape_target
abbrev f : Nat := 45
def s : SCo := (.seq
(F [J 2 (.box 25 (.t 0)),
 J 3 (.box 37 (.t 1)),
 J 4 (.mv (B false))] 3)
(.seq
(.seq
(F [J 7 (.fld 14 (.t 3)),
 J 8 (.load none (.t 7))] 2)
(.block 0
(.seq
(F [J 10 (.bin .eql (.t 8) (.k (b8 2))),
 M 9 10] 2)
(.cond (.t 9)
(.seq
(F [J 12 (.load none (.t 2)),
 J 13 (.fld 21 (.t 3)),
 J 14 (.load (some 2) (.t 13)),
 J 15 (.load (some 29) (.t 3)),
 J 16 (.call (C 35) [(.t 12), (.t 14), (.t 15)]),
 M 11 16,
 J 17 (.ext 0 (.t 11)),
 J 18 (.ext 1 (.t 11)),
 J 5 (.alloc 42 [b8 0, b32 0, b8 0, b32 0, b8 0, b32 0, b32 0, b8 0, b8 0, b64 0, i6 0]),
 N (.store 11 (.t 5) (.t 17)),
 M 6 18] 11)
(.seq
(.reg [M 19 6,
 M 20 19,
 H 21 (.load none (.t 2)) 20 true,
 H 22 (.nilc (.t 21)) 20 true,
 H 23 (.fld 0 (.t 22)) 20 true,
 H 24 (.load none (.t 23)) 20 true,
 H 25 (.fld 15 (.t 3)) 20 true,
 H 26 (.load (some 2) (.t 25)) 20 true,
 H 27 (.fld 21 (.t 3)) 20 true,
 H 28 (.load (some 2) (.t 27)) 20 true,
 H 29 (.call (C 14) [(.t 24), (.t 26), (.t 28)]) 20 true,
 J 30 (.pick (.t 20) (.t 29) (B false)),
 M 4 30] [0,
1,
3,
7,
15,
31,
3,
67,
3,
259,
1023,
2047,
4095] true)
.ret))
(.seq
(.seq
(F [J 32 (.bin .eql (.t 8) (.k (b8 4))),
 M 31 32] 2)
(.cond (.t 31)
.skip
(F [J 33 (.bin .eql (.t 8) (.k (b8 5))),
 M 31 33] 2)))
(.cond (.t 31)
(.seq
(F [J 34 (.load none (.t 2)),
 J 35 (.fld 21 (.t 3)),
 J 36 (.load (some 2) (.t 35)),
 J 37 (.load (some 29) (.t 3)),
 J 38 (.call (C 74) [(.t 34), (.t 36), (.t 37)]),
 M 4 38] 6)
.ret)
(.seq
(.seq
(F [J 40 (.bin .eql (.t 8) (.k (b8 6))),
 M 39 40] 2)
(.cond (.t 39)
.skip
(F [J 41 (.bin .eql (.t 8) (.k (b8 7))),
 M 39 41] 2)))
(.cond (.t 39)
(.seq
(F [J 42 (.load none (.t 2)),
 J 43 (.fld 21 (.t 3)),
 J 44 (.load (some 2) (.t 43)),
 J 45 (.fld 23 (.t 3)),
 J 46 (.load (some 2) (.t 45)),
 J 47 (.bld [b8 0, b32 0, b8 0, b32 0] [(0, 2, (.t 44)), (2, 2, (.t 46))]),
 J 48 (.load (some 29) (.t 3)),
 J 49 (.call (C 75) [(.t 42), (.t 47), (.t 48)]),
 M 4 49] 9)
.ret)
(.seq
(F [J 51 (.bin .eql (.t 8) (.k (b8 8))),
 M 50 51] 2)
(.cond (.t 50)
(.seq
(F [J 52 (.fld 28 (.t 3)),
 J 53 (.load none (.t 52)),
 J 54 (.mkf (.func 77) [] [(.t 2), (.t 3)]),
 J 55 (.call (C 76) [(.t 53), (.t 54)]),
 J 56 (.not (.t 55)),
 M 4 56] 6)
.ret)
.skip))))))))))
(.seq
(F [J 4 (.mv (B true))] 1)
.ret)))
def rv : List RV := [.tmp 4]
theorem enter : En Try.prog 45 57 s rv := En.mk (c := Try.f45.body.getD .ret) Try.func45 rfl (by kernel_rfl) (by kernel_rfl) (by kernel_rfl) (by kernel_rfl)
end shape_Shape_target
namespace slices_SortedFunc_api_Dot
abbrev f : Nat := 46
def s : SCo := (.seq
(F [J 4 (.mv (.k (.d .nils)))] 1)
(.seq
(F [M 6 0,
 J 7 (.call (C 78) [(.t 6)]),
 M 5 7] 3)
(.seq
(F [M 8 5,
 M 9 1,
 J 10 (.call (C 79) [(.t 8), (.t 9)])] 3)
(.seq
(F [M 11 5,
 M 4 11] 2)
.ret))))
def rv : List RV := [.tmp 4]
theorem enter : En Try.prog 46 12 s rv := En.mk (c := Try.f46.body.getD .ret) Try.func46 rfl (by kernel_rfl) (by kernel_rfl) (by kernel_rfl) (by kernel_rfl)
end slices_SortedFunc_api_Dot
namespace maps_Keys_map_api_Dot_api_Op_api_Dot_api_Op
abbrev f : Nat := 47
def s : SCo := (.seq
(F [J 1 (.box 53 (.t 0)),
 J 2 (.mv (.k (.d .nilf)))] 2)
(.seq
(F [J 3 (.mkf (.func 80) [] [(.t 1)]),
 M 2 3] 2)
.ret))
def rv : List RV := [.tmp 2]
theorem enter : En Try.prog 47 4 s rv := En.mk (c := Try.f47.body.getD .ret) Try.func47 rfl (by kernel_rfl) (by kernel_rfl) (by kernel_rfl) (by kernel_rfl)
end maps_Keys_map_api_Dot_api_Op_api_Dot_api_Op
namespace dot_Compare
abbrev f : Nat := 48
def s : SCo := (.seq
(F [J 2 (.box 31 (.t 0)),
 J 3 (.box 31 (.t 1)),
 J 4 (.mv (Z 0))] 3)
(.seq
(.reg [J 5 (.fld 0 (.t 2)),
 J 6 (.load none (.t 5)),
 J 7 (.fld 0 (.t 3)),
 J 8 (.load none (.t 7)),
 J 9 (.call (C 82) [(.t 6), (.t 8)]),
 J 10 (.fld 1 (.t 2)),
 J 11 (.load none (.t 10)),
 J 12 (.fld 1 (.t 3)),
 J 13 (.load none (.t 12)),
 J 14 (.call (C 83) [(.t 11), (.t 13)]),
 J 15 (.bsl 3 1 2 [i6 0, i6 0] [(0, 1, (.t 9)), (1, 1, (.t 14))]),
 J 16 (.call (C 81) [(.t 15)]),
 M 4 16] [0,
1,
0,
4,
15,
0,
32,
0,
128,
511,
1023,
2047,
4095] true)
.ret))
def rv : List RV := [.tmp 4]
theorem enter : En Try.prog 48 17 s rv := En.mk (c := Try.f48.body.getD .ret) Try.func48 rfl (by kernel_rfl) (by kernel_rfl) (by kernel_rfl) (by kernel_rfl)
end dot_Compare
namespace ref03_Same
abbrev f : Nat := 59
def s : SCo := (.seq
(F [J 4 (.mv (B false))] 1)
(.seq
(.seq
(F [M 6 0,
 J 7 (.len (.t 6)),
 M 8 1,
 J 9 (.len (.t 8)),
 J 10 (.bin .neq (.t 7) (.t 9))] 5)
(.cond (.t 10)
(.seq
(F [J 4 (.mv (B false))] 1)
.ret)
.skip))
(.seq
(.seq
(F [J 5 (.mv (Z 0))] 1)
(.block 0
(.loop
(.seq
(.seq
(F [M 11 5,
 M 12 0,
 J 13 (.len (.t 12)),
 J 14 (.bin .lss (.t 11) (.t 13))] 4)
(.cond (.t 14)
.skip
(.exit 0)))
(.seq
(.block 1
(.seq
(.reg [M 17 0,
 M 18 5,
 J 19 (.idxS 2 (.t 17) (.t 18)),
 J 20 (.load (some 2) (.t 19)),
 M 21 1,
 M 22 5,
 J 23 (.idxS 2 (.t 21) (.t 22)),
 J 24 (.load (some 2) (.t 23)),
 J 25 (.eqv true [true, true] (.t 20) (.t 24))] [0,
0,
3,
7,
0,
0,
48,
112,
255] true)
(.cond (.t 25)
(.seq
(F [J 4 (.mv (B false))] 1)
.ret)
.skip)))
(F [M 15 5,
 J 16 (.bin .add (.t 15) (Z 1)),
 M 5 16] 3))))))
(.seq
(F [J 4 (.mv (B true))] 1)
.ret))))
def rv : List RV := [.tmp 4]
theorem enter : En Try.prog 59 26 s rv := En.mk (c := Try.f59.body.getD .ret) Try.func59 rfl (by kernel_rfl) (by kernel_rfl) (by kernel_rfl) (by kernel_rfl)
end ref03_Same
namespace slices_DeleteFunc_Lapi_Op_api_Op
abbrev f : Nat := 60
def s : SCo := (.seq
(F [J 4 (.mv (.k (.d .nils)))] 1)
(.seq
(F [M 8 0,
 M 9 1,
 J 10 (.call (C 86) [(.t 8), (.t 9)]),
 M 5 10] 4)
(.seq
(.seq
(F [M 11 5,
 J 12 (.bin .eql (.t 11) (.k (.d (.int .i64 (-1)))))] 2)
(.cond (.t 12)
(.seq
(F [M 13 0,
 M 4 13] 2)
.ret)
.skip))
(.seq
(.seq
(F [M 14 5,
 J 15 (.bin .add (.t 14) (Z 1)),
 M 6 15] 3)
(.block 0
(.loop
(.seq
(.seq
(F [M 16 6,
 M 17 0,
 J 18 (.len (.t 17)),
 J 19 (.bin .lss (.t 16) (.t 18))] 4)
(.cond (.t 19)
.skip
(.exit 0)))
(.seq
(.block 1
(.seq
(F [M 22 0,
 M 23 6,
 J 24 (.idxS 29 (.t 22) (.t 23)),
 J 25 (.load (some 29) (.t 24)),
 J 7 (.alloc 37 z29),
 N (.store 29 (.t 7) (.t 25))] 6)
(.seq
(F [M 26 1,
 J 27 (.load (some 29) (.t 7)),
 J 28 (.call (.t 26) [(.t 27)]),
 J 29 (.not (.t 28))] 4)
(.cond (.t 29)
(.seq
(F [M 30 0,
 M 31 5,
 J 32 (.load (some 29) (.t 7)),
 J 33 (.idxS 29 (.t 30) (.t 31)),
 N (.store 29 (.t 33) (.t 32))] 5)
(F [M 34 5,
 J 35 (.bin .add (.t 34) (Z 1)),
 M 5 35] 3))
.skip))))
(F [M 20 6,
 J 21 (.bin .add (.t 20) (Z 1)),
 M 6 21] 3))))))
(.seq
(F [M 36 0,
 M 37 5,
 J 38 (.slc 29 (.t 36) (some (.t 37)) none),
 N (.clr 29 z29 (.t 38))] 4)
(.seq
(F [M 39 0,
 M 40 5,
 J 41 (.slc 29 (.t 39) none (some (.t 40))),
 M 4 41] 4)
.ret))))))
def rv : List RV := [.tmp 4]
theorem enter : En Try.prog 60 42 s rv := En.mk (c := Try.f60.body.getD .ret) Try.func60 rfl (by kernel_rfl) (by kernel_rfl) (by kernel_rfl) (by kernel_rfl)
end slices_DeleteFunc_Lapi_Op_api_Op
namespace slices_Clone_Lapi_Op_api_Op
abbrev f : Nat := 61
def s : SCo := (.seq
(F [J 2 (.mv (.k (.d .nils)))] 1)
(.seq
(.seq
(F [M 3 0,
 J 4 (.eqnil false 3 (.t 3))] 2)
(.cond (.t 4)
(.seq
(F [J 2 (.mv (.k (.d .nils)))] 1)
.ret)
.skip))
(.seq
(F [J 5 (.bsl 37 29 0 [] []),
 M 6 0,
 J 7 (.app 37 29 144 (.t 5) (.t 6)),
 M 2 7] 4)
.ret)))
def rv : List RV := [.tmp 2]
theorem enter : En Try.prog 61 8 s rv := En.mk (c := Try.f61.body.getD .ret) Try.func61 rfl (by kernel_rfl) (by kernel_rfl) (by kernel_rfl) (by kernel_rfl)
end slices_Clone_Lapi_Op_api_Op
namespace tree_New_1
abbrev f : Nat := 62
def s : SCo := (.seq
(F [J 2 (.box 37 (.t 0)),
 J 3 (.mv (B false))] 2)
(.seq
(.reg [J 4 (.load none (.t 1)),
 J 5 (.fld 0 (.t 2)),
 J 6 (.load (some 2) (.t 5)),
 J 7 (.look [true, true] true (i6 0) (.t 4) (.t 6) false),
 J 8 (.bin .add (.t 7) (Z 1)),
 J 9 (.mentr [true, true] true (i6 0) (.t 4) (.t 6)),
 J 10 (.ext 1 (.t 9)),
 N (.mstor (.t 4) (.t 10) (.t 8))] [0,
0,
2,
7,
15,
7,
39,
127] true)
(.seq
(F [J 11 (.load none (.t 1)),
 J 12 (.fld 0 (.t 2)),
 J 13 (.load (some 2) (.t 12)),
 J 14 (.look [true, true] true (i6 0) (.t 11) (.t 13) false),
 J 15 (.bin .gtr (.t 14) (Z 1)),
 M 16 15,
 H 17 (.fld 14 (.t 2)) 16 false,
 H 18 (.load none (.t 17)) 16 false,
 H 19 (.bin .gtr (.t 18) (.k (b8 1))) 16 false,
 J 20 (.pick (.t 16) (B true) (.t 19)),
 M 3 20] 11)
.ret)))
def rv : List RV := [.tmp 3]
theorem enter : En Try.prog 62 21 s rv := En.mk (c := Try.f62.body.getD .ret) Try.func62 rfl (by kernel_rfl) (by kernel_rfl) (by kernel_rfl) (by kernel_rfl)
end tree_New_1
namespace tree_Tree_put
abbrev f : Nat := 63
def s : SCo := (.seq
(F [J 3 (.box 37 (.t 1)),
 J 4 (.mv (B false))] 2)
(.seq
(F [J 6 (.fld 0 (.t 3)),
 J 7 (.load (some 2) (.t 6)),
 J 8 (.fld 0 (.t 3)),
 J 9 (.load (some 2) (.t 8)),
 J 10 (.fld 11 (.t 3)),
 J 11 (.load none (.t 10)),
 J 12 (.bld [b8 0, b32 0, b8 0, b32 0, b8 0, b32 0, b32 0, b8 0, b8 0, b64 0, i6 0] [(0, 2, (.t 7)), (2, 2, (.t 9)), (6, 1, (.t 11)), (7, 1, (.k (b8 7))), (8, 1, (.k (b8 8))), (9, 1, (.k (b64 1099511627776)))]),
 J 5 (.alloc 42 [b8 0, b32 0, b8 0, b32 0, b8 0, b32 0, b32 0, b8 0, b8 0, b64 0, i6 0]),
 N (.store 11 (.t 5) (.t 12))] 9)
(.seq
(.block 0
(.seq
(F (J 14 (.fld 14 (.t 3)) ::
 J 15 (.load none (.t 14)) ::
 J 16 (.bin .eql (.t 15) (.k (b8 0))) ::
 M 17 16 ::
 H 18 (.fld 12 (.t 3)) 17 true ::
 H 19 (.load (some 2) (.t 18)) 17 true ::
 H 20 (.fld 0 (.t 3)) 17 true ::
 H 21 (.load (some 2) (.t 20)) 17 true ::
 H 22 (.eqv true [true, true] (.t 19) (.t 21)) 17 true ::
 J 23 (.pick (.t 17) (.t 22) (B false)) ::
 M 24 23 ::
 H 25 (.fld 14 (.t 3)) 24 false ::
 H 26 (.load none (.t 25)) 24 false ::
 H 27 (.bin .eql (.t 26) (.k (b8 1))) 24 false ::
 G 28 27 24 false ::
 G 29 0 28 true ::
 H 30 (.load (some 29) (.t 3)) 28 true ::
 H 31 (.call (C 43) [(.t 29), (.t 30)]) 28 true ::
 H 32 (.bin .neq (.t 31) (Z 0)) 28 true ::
 H 33 (.pick (.t 28) (.t 32) (B false)) 24 false ::
 J 34 (.pick (.t 24) (B true) (.t 33)) ::
 M 13 34 :: []) 22)
(.cond (.t 13)
(.seq
(F [J 4 (.mv (B false))] 1)
.ret)
(.seq
(F [J 36 (.fld 14 (.t 3)),
 J 37 (.load none (.t 36)),
 J 38 (.bin .eql (.t 37) (.k (b8 1))),
 M 35 38] 4)
(.cond (.t 35)
(.reg (J 39 (.fld 0 (.t 3)) ::
 J 40 (.load (some 2) (.t 39)) ::
 J 41 (.fld 12 (.t 3)) ::
 J 42 (.load (some 2) (.t 41)) ::
 J 43 (.fld 15 (.t 3)) ::
 J 44 (.load (some 2) (.t 43)) ::
 J 45 (.fld 17 (.t 3)) ::
 J 46 (.load none (.t 45)) ::
 J 47 (.fld 18 (.t 3)) ::
 J 48 (.load none (.t 47)) ::
 J 49 (.fld 19 (.t 3)) ::
 J 50 (.load none (.t 49)) ::
 J 51 (.fld 20 (.t 3)) ::
 J 52 (.load none (.t 51)) ::
 M 53 0 ::
 J 54 (.nilc (.t 53)) ::
 J 55 (.fld 0 (.t 54)) ::
 J 56 (.load none (.t 55)) ::
 J 57 (.fld 15 (.t 3)) ::
 J 58 (.load (some 2) (.t 57)) ::
 J 59 (.look [true, true] true (.agg [b8 0, b32 0, b8 0, b32 0, b8 0, b32 0, b32 0, b8 0, b8 0, b64 0, i6 0]) (.t 56) (.t 58) false) ::
 J 60 (.field 10 none (.t 59)) ::
 J 61 (.bin .add (.t 60) (Z 1)) ::
 J 62 (.bld [b8 0, b32 0, b8 0, b32 0, b8 0, b32 0, b32 0, b8 0, b8 0, b64 0, i6 0] [(0, 2, (.t 40)), (2, 2, (.t 42)), (4, 2, (.t 44)), (6, 1, (.t 46)), (7, 1, (.t 48)), (8, 1, (.t 50)), (9, 1, (.t 52)), (10, 1, (.t 61))]) ::
 N (.store 11 (.t 5) (.t 62)) :: []) (0 ::
1 ::
0 ::
4 ::
0 ::
16 ::
0 ::
64 ::
0 ::
256 ::
0 ::
1024 ::
0 ::
4096 ::
0 ::
16384 ::
49152 ::
114688 ::
0 ::
262144 ::
1032192 ::
2080768 ::
4177920 ::
8388607 ::
16777215 :: []) true)
.skip)))))
(.seq
(.reg (M 63 0 ::
 J 64 (.nilc (.t 63)) ::
 J 65 (.fld 0 (.t 64)) ::
 J 66 (.load none (.t 65)) ::
 J 67 (.fld 0 (.t 3)) ::
 J 68 (.load (some 2) (.t 67)) ::
 M 69 0 ::
 J 70 (.nilc (.t 69)) ::
 J 71 (.fld 1 (.t 70)) ::
 J 72 (.load none (.t 71)) ::
 J 73 (.fld 0 (.t 3)) ::
 J 74 (.load (some 2) (.t 73)) ::
 J 75 (.load (some 11) (.t 5)) ::
 J 76 (.load (some 29) (.t 3)) ::
 J 77 (.mentr [true, true] true (.agg [b8 0, b32 0, b8 0, b32 0, b8 0, b32 0, b32 0, b8 0, b8 0, b64 0, i6 0]) (.t 66) (.t 68)) ::
 J 78 (.ext 1 (.t 77)) ::
 N (.mstor (.t 66) (.t 78) (.t 75)) ::
 J 79 (.mentr [true, true] true (.agg z29) (.t 72) (.t 74)) ::
 J 80 (.ext 1 (.t 79)) ::
 N (.mstor (.t 72) (.t 80) (.t 76)) :: []) (0 ::
1 ::
3 ::
7 ::
0 ::
16 ::
0 ::
64 ::
192 ::
448 ::
0 ::
1024 ::
0 ::
0 ::
1023 ::
17407 ::
54271 ::
122879 ::
253951 ::
524287 :: []) true)
(.seq
(F [J 4 (.mv (B true))] 1)
.ret)))))
def rv : List RV := [.tmp 4]
theorem enter : En Try.prog 63 81 s rv := En.mk (c := Try.f63.body.getD .ret) Try.func63 rfl (by kernel_rfl) (by kernel_rfl) (by kernel_rfl) (by kernel_rfl)
end tree_Tree_put
namespace tree_Tree_up_1
abbrev f : Nat := 64
def s : SCo := (.seq
(.reg [J 7 (.load none (.t 1)),
 J 8 (.nilc (.t 7)),
 J 9 (.fld 0 (.t 8)),
 J 10 (.load none (.t 9)),
 J 11 (.load (some 2) (.t 2)),
 J 12 (.look [true, true] true (.agg [b8 0, b32 0, b8 0, b32 0, b8 0, b32 0, b32 0, b8 0, b8 0, b64 0, i6 0]) (.t 10) (.t 11) true),
 M 6 12,
 J 13 (.ext 0 (.t 6)),
 J 14 (.ext 1 (.t 6)),
 J 4 (.alloc 42 [b8 0, b32 0, b8 0, b32 0, b8 0, b32 0, b32 0, b8 0, b8 0, b64 0, i6 0]),
 N (.store 11 (.t 4) (.t 13)),
 M 5 14] [0,
1,
3,
7,
0,
31,
63,
127,
127,
0,
767,
2047] true)
(.block 0
(.loop
(.seq
(.seq
(F [M 15 5,
 M 16 15,
 G 17 0 16 true,
 H 18 (.load (some 11) (.t 4)) 16 true,
 H 19 (.call (.t 17) [(.t 18)]) 16 true,
 J 20 (.pick (.t 16) (.t 19) (B false)),
 M 21 20,
 H 22 (.fld 10 (.t 4)) 21 true,
 H 23 (.load none (.t 22)) 21 true,
 H 24 (.bin .gtr (.t 23) (Z 0)) 21 true,
 J 25 (.pick (.t 21) (.t 24) (B false))] 11)
(.cond (.t 25)
.skip
(.exit 0)))
(.seq
(.block 1
(.reg [J 27 (.load none (.t 1)),
 J 28 (.nilc (.t 27)),
 J 29 (.fld 0 (.t 28)),
 J 30 (.load none (.t 29)),
 J 31 (.fld 4 (.t 4)),
 J 32 (.load (some 2) (.t 31)),
 J 33 (.look [true, true] true (.agg [b8 0, b32 0, b8 0, b32 0, b8 0, b32 0, b32 0, b8 0, b8 0, b64 0, i6 0]) (.t 30) (.t 32) true),
 M 26 33,
 J 34 (.ext 0 (.t 26)),
 J 35 (.ext 1 (.t 26)),
 N (.store 11 (.t 4) (.t 34)),
 M 5 35] [0,
1,
3,
7,
0,
16,
63,
127,
255,
255,
511,
2047] true))
(.seq
(F [J 36 (.load (some 11) (.t 4))] 1)
(F [J 4 (.alloc 42 [b8 0, b32 0, b8 0, b32 0, b8 0, b32 0, b32 0, b8 0, b8 0, b64 0, i6 0]),
 N (.store 11 (.t 4) (.t 36))] 2)))))))
def rv : List RV := []
theorem enter : En Try.prog 64 37 s rv := En.mk (c := Try.f64.body.getD .ret) Try.func64 rfl (by kernel_rfl) (by kernel_rfl) (by kernel_rfl) (by kernel_rfl)
end tree_Tree_up_1
namespace dot_setOf
abbrev f : Nat := 65
def s : SCo := (.seq
(F [J 2 (.mv (.k (.d .nilm)))] 1)
(.seq
(F [J 6 (.mkm),
 M 3 6] 2)
(.seq
(.seq
(F [M 7 0,
 J 8 (.len (.t 7)),
 J 9 (.mv (Z 0))] 3)
(.block 0
(.loop
(.seq
(F [J 10 (.bin .lss (.t 9) (.t 8))] 1)
(.seq
(.cond (.t 10)
.skip
(.exit 0))
(.seq
(.block 1
(.seq
(F [J 11 (.idxS 2 (.t 7) (.t 9)),
 J 12 (.load (some 2) (.t 11)),
 J 5 (.alloc 31 [b8 0, b32 0]),
 N (.store 2 (.t 5) (.t 12))] 4)
(F [M 13 3,
 J 14 (.load (some 2) (.t 5)),
 N (.mset [true, true] true (.t 13) (.t 14) (Z 1))] 3)))
(F [J 15 (.bin .add (.t 9) (Z 1)),
 M 9 15] 2)))))))
(.seq
(F [M 16 3,
 M 2 16] 2)
.ret))))
def rv : List RV := [.tmp 2]
theorem enter : En Try.prog 65 17 s rv := En.mk (c := Try.f65.body.getD .ret) Try.func65 rfl (by kernel_rfl) (by kernel_rfl) (by kernel_rfl) (by kernel_rfl)
end dot_setOf
namespace dot_set_list
abbrev f : Nat := 66
def s : SCo := (.seq
(F [J 2 (.mv (.k (.d .nils)))] 1)
(.seq
(F [M 3 0,
 J 4 (.call (C 87) [(.t 3)]),
 J 5 (.call (C 46) [(.t 4), (C 48)]),
 M 2 5] 4)
.ret))
def rv : List RV := [.tmp 2]
theorem enter : En Try.prog 66 6 s rv := En.mk (c := Try.f66.body.getD .ret) Try.func66 rfl (by kernel_rfl) (by kernel_rfl) (by kernel_rfl) (by kernel_rfl)
end dot_set_list
namespace shape_Shape_before
abbrev f : Nat := 67
def s : SCo := (.seq
(F [J 4 (.box 31 (.t 1)),
 J 5 (.box 37 (.t 2)),
 J 6 (.mv (B false))] 3)
(.seq
(.reg [M 10 0,
 J 11 (.nilc (.t 10)),
 J 12 (.fld 1 (.t 11)),
 J 13 (.load none (.t 12)),
 J 14 (.load (some 2) (.t 4)),
 J 15 (.look [true, true] true (.agg z29) (.t 13) (.t 14) true),
 M 9 15,
 J 16 (.ext 0 (.t 9)),
 J 17 (.ext 1 (.t 9)),
 J 7 (.alloc 37 z29),
 N (.store 29 (.t 7) (.t 16)),
 M 8 17] [0,
1,
3,
7,
0,
31,
63,
127,
127,
0,
767,
2047] true)
(.seq
(F [M 18 8,
 M 19 18,
 H 20 (.load (some 29) (.t 7)) 19 true,
 H 21 (.load (some 29) (.t 5)) 19 true,
 H 22 (.call (C 68) [(.t 20), (.t 21)]) 19 true,
 J 23 (.pick (.t 19) (.t 22) (B false)),
 M 6 23] 7)
.ret)))
def rv : List RV := [.tmp 6]
theorem enter : En Try.prog 67 24 s rv := En.mk (c := Try.f67.body.getD .ret) Try.func67 rfl (by kernel_rfl) (by kernel_rfl) (by kernel_rfl) (by kernel_rfl)
end shape_Shape_before
namespace order_Before
abbrev f : Nat := 68
def s : SCo := (.seq
(F [J 2 (.box 37 (.t 0)),
 J 3 (.box 37 (.t 1)),
 J 4 (.mv (B false))] 3)
(.seq
(F [J 5 (.fld 2 (.t 3)),
 J 6 (.load (some 8) (.t 5)),
 J 7 (.fld 0 (.t 2)),
 J 8 (.load (some 2) (.t 7)),
 J 9 (.call (C 88) [(.t 6), (.t 8)]),
 M 4 9] 6)
.ret))
def rv : List RV := [.tmp 4]
theorem enter : En Try.prog 68 10 s rv := En.mk (c := Try.f68.body.getD .ret) Try.func68 rfl (by kernel_rfl) (by kernel_rfl) (by kernel_rfl) (by kernel_rfl)
end order_Before
namespace tree_Tree_Why_1
abbrev f : Nat := 69
def s : SCo := (.seq
(F [J 1 (.mv (B false))] 1)
(.seq
(F [J 2 (.fld 14 (.t 0)),
 J 3 (.load none (.t 2)),
 J 4 (.bin .neq (.t 3) (.k (b8 1))),
 M 1 4] 4)
.ret))
def rv : List RV := [.tmp 1]
theorem enter : En Try.prog 69 5 s rv := En.mk (c := Try.f69.body.getD .ret) Try.func69 rfl (by kernel_rfl) (by kernel_rfl) (by kernel_rfl) (by kernel_rfl)
end tree_Tree_Why_1
namespace tree_Tree_Why_2
abbrev f : Nat := 70
def s : SCo := (.seq
(F [J 4 (.mv (B false))] 1)
(.seq
(.reg (J 5 (.load none (.t 0)) ::
 J 6 (.not (.t 5)) ::
 M 7 6 ::
 H 8 (.fld 2 (.t 1)) 7 false ::
 H 9 (.load (some 2) (.t 8)) 7 false ::
 H 10 (.fld 12 (.t 2)) 7 false ::
 H 11 (.load (some 2) (.t 10)) 7 false ::
 H 12 (.eqv true [true, true] (.t 9) (.t 11)) 7 false ::
 J 13 (.pick (.t 7) (B true) (.t 12)) ::
 M 14 13 ::
 H 15 (.load none (.t 3)) 14 false ::
 H 16 (.nilc (.t 15)) 14 false ::
 H 17 (.fld 1 (.t 16)) 14 false ::
 H 18 (.load none (.t 17)) 14 false ::
 H 19 (.fld 15 (.t 2)) 14 false ::
 H 20 (.load (some 2) (.t 19)) 14 false ::
 H 21 (.look [true, true] true (.agg z29) (.t 18) (.t 20) false) 14 false ::
 H 22 (.load (some 29) (.t 2)) 14 false ::
 H 23 (.call (C 68) [(.t 21), (.t 22)]) 14 false ::
 H 24 (.not (.t 23)) 14 false ::
 J 25 (.pick (.t 14) (B true) (.t 24)) ::
 M 4 25 :: []) (0 ::
1 ::
3 ::
7 ::
15 ::
7 ::
39 ::
127 ::
255 ::
511 ::
1023 ::
2047 ::
4095 ::
8191 ::
1023 ::
17407 ::
65535 ::
1023 ::
262143 ::
524287 ::
1048575 ::
2097151 :: []) true)
.ret))
def rv : List RV := [.tmp 4]
theorem enter : En Try.prog 70 26 s rv := En.mk (c := Try.f70.body.getD .ret) Try.func70 rfl (by kernel_rfl) (by kernel_rfl) (by kernel_rfl) (by kernel_rfl)
end tree_Tree_Why_2
namespace tree_Tree_Why_3
abbrev f : Nat := 71
def s : SCo := (.seq
(F [J 2 (.mv (B false))] 1)
(.seq
(F [J 3 (.fld 6 (.t 0)),
 J 4 (.load none (.t 3)),
 J 5 (.fld 11 (.t 1)),
 J 6 (.load none (.t 5)),
 J 7 (.bin .neq (.t 4) (.t 6)),
 M 2 7] 6)
.ret))
def rv : List RV := [.tmp 2]
theorem enter : En Try.prog 71 8 s rv := En.mk (c := Try.f71.body.getD .ret) Try.func71 rfl (by kernel_rfl) (by kernel_rfl) (by kernel_rfl) (by kernel_rfl)
end tree_Tree_Why_3
namespace tree_Tree_Why_4
abbrev f : Nat := 72
def s : SCo := (.seq
(F [J 1 (.mv (B false))] 1)
(.seq
(F [J 2 (.fld 7 (.t 0)),
 J 3 (.load none (.t 2)),
 J 4 (.bin .and (.t 3) (.k (b8 1))),
 J 5 (.bin .eql (.t 4) (.k (b8 0))),
 M 1 5] 5)
.ret))
def rv : List RV := [.tmp 1]
theorem enter : En Try.prog 72 6 s rv := En.mk (c := Try.f72.body.getD .ret) Try.func72 rfl (by kernel_rfl) (by kernel_rfl) (by kernel_rfl) (by kernel_rfl)
end tree_Tree_Why_4
namespace tree_Tree_Why_5
abbrev f : Nat := 73
def s : SCo := (.seq
(F [J 2 (.mv (B false))] 1)
(.seq
(F (J 3 (.fld 18 (.t 0)) ::
 J 4 (.load none (.t 3)) ::
 J 5 (.bin .eql (.t 4) (.k (b8 0))) ::
 M 6 5 ::
 H 7 (.fld 18 (.t 0)) 6 false ::
 H 8 (.load none (.t 7)) 6 false ::
 H 9 (.fld 7 (.t 1)) 6 false ::
 H 10 (.load none (.t 9)) 6 false ::
 H 11 (.bin .andNot (.t 8) (.t 10)) 6 false ::
 H 12 (.bin .neq (.t 11) (.k (b8 0))) 6 false ::
 J 13 (.pick (.t 6) (B true) (.t 12)) ::
 M 14 13 ::
 H 15 (.fld 17 (.t 0)) 14 false ::
 H 16 (.load none (.t 15)) 14 false ::
 H 17 (.bin .eql (.t 16) (.k (b32 0))) 14 false ::
 J 18 (.pick (.t 14) (B true) (.t 17)) ::
 M 19 18 ::
 H 20 (.fld 19 (.t 0)) 19 false ::
 H 21 (.load none (.t 20)) 19 false ::
 H 22 (.fld 8 (.t 1)) 19 false ::
 H 23 (.load none (.t 22)) 19 false ::
 H 24 (.bin .geq (.t 21) (.t 23)) 19 false ::
 J 25 (.pick (.t 19) (B true) (.t 24)) ::
 M 26 25 ::
 H 27 (.fld 20 (.t 0)) 26 false ::
 H 28 (.load none (.t 27)) 26 false ::
 H 29 (.fld 9 (.t 1)) 26 false ::
 H 30 (.load none (.t 29)) 26 false ::
 H 31 (.bin .gtr (.t 28) (.t 30)) 26 false ::
 J 32 (.pick (.t 26) (B true) (.t 31)) ::
 M 2 32 :: []) 31)
.ret))
def rv : List RV := [.tmp 2]
theorem enter : En Try.prog 73 33 s rv := En.mk (c := Try.f73.body.getD .ret) Try.func73 rfl (by kernel_rfl) (by kernel_rfl) (by kernel_rfl) (by kernel_rfl)
end tree_Tree_Why_5
namespace shape_Shape_line
abbrev f : Nat := 74
def s : SCo := (.seq
(F [J 4 (.box 31 (.t 1)),
 J 5 (.box 37 (.t 2)),
 J 6 (.mv (B false))] 3)
(.seq
(.reg (M 7 0 ::
 J 8 (.nilc (.t 7)) ::
 J 9 (.fld 2 (.t 8)) ::
 J 10 (.load none (.t 9)) ::
 J 11 (.load (some 2) (.t 4)) ::
 J 12 (.look [true, true] true (i6 0) (.t 10) (.t 11) false) ::
 J 13 (.bin .gtr (.t 12) (Z 0)) ::
 M 14 13 ::
 G 15 0 14 true ::
 H 16 (.nilc (.t 15)) 14 true ::
 H 17 (.fld 1 (.t 16)) 14 true ::
 H 18 (.load none (.t 17)) 14 true ::
 H 19 (.load (some 2) (.t 4)) 14 true ::
 H 20 (.look [true, true] true (.agg z29) (.t 18) (.t 19) false) 14 true ::
 H 21 (.field 12 (some 2) (.t 20)) 14 true ::
 H 22 (.fld 12 (.t 5)) 14 true ::
 H 23 (.load (some 2) (.t 22)) 14 true ::
 H 24 (.eqv false [true, true] (.t 21) (.t 23)) 14 true ::
 J 25 (.pick (.t 14) (.t 24) (B false)) ::
 M 26 25 ::
 G 27 0 26 true ::
 H 28 (.load (some 2) (.t 4)) 26 true ::
 H 29 (.load (some 29) (.t 5)) 26 true ::
 H 30 (.call (C 67) [(.t 27), (.t 28), (.t 29)]) 26 true ::
 J 31 (.pick (.t 26) (.t 30) (B false)) ::
 M 6 31 :: []) (0 ::
1 ::
3 ::
7 ::
0 ::
31 ::
63 ::
127 ::
255 ::
511 ::
1023 ::
2047 ::
255 ::
8191 ::
16383 ::
255 ::
33023 ::
131071 ::
262143 ::
524287 ::
1048575 ::
1048575 ::
1048575 ::
8388607 ::
16777215 ::
33554431 :: []) true)
.ret))
def rv : List RV := [.tmp 6]
theorem enter : En Try.prog 74 32 s rv := En.mk (c := Try.f74.body.getD .ret) Try.func74 rfl (by kernel_rfl) (by kernel_rfl) (by kernel_rfl) (by kernel_rfl)
end shape_Shape_line
namespace shape_Shape_claim
abbrev f : Nat := 75
def s : SCo := (.seq
(F [J 4 (.box 52 (.t 1)),
 J 5 (.box 37 (.t 2)),
 J 6 (.mv (B false))] 3)
(.seq
(.reg [M 10 0,
 J 11 (.nilc (.t 10)),
 J 12 (.fld 3 (.t 11)),
 J 13 (.load none (.t 12)),
 J 14 (.fld 2 (.t 4)),
 J 15 (.load (some 2) (.t 14)),
 J 16 (.look [true, true] true (.agg [b8 0, b32 0]) (.t 13) (.t 15) true),
 M 9 16,
 J 17 (.ext 0 (.t 9)),
 J 18 (.ext 1 (.t 9)),
 J 7 (.alloc 31 [b8 0, b32 0]),
 N (.store 2 (.t 7) (.t 17)),
 M 8 18] [0,
1,
3,
7,
0,
16,
63,
127,
255,
255,
0,
1535,
4095] true)
(.seq
(F (M 19 0 ::
 J 20 (.fld 0 (.t 4)) ::
 J 21 (.load (some 2) (.t 20)) ::
 J 22 (.load (some 29) (.t 5)) ::
 J 23 (.call (C 74) [(.t 19), (.t 21), (.t 22)]) ::
 M 24 23 ::
 H 25 (.fld 2 (.t 4)) 24 true ::
 H 26 (.load (some 2) (.t 25)) 24 true ::
 H 27 (.fld 0 (.t 4)) 24 true ::
 H 28 (.load (some 2) (.t 27)) 24 true ::
 H 29 (.eqv false [true, true] (.t 26) (.t 28)) 24 true ::
 G 30 29 24 true ::
 G 31 8 30 false ::
 G 32 31 30 false ::
 H 33 (.load (some 2) (.t 7)) 32 true ::
 H 34 (.fld 0 (.t 4)) 32 true ::
 H 35 (.load (some 2) (.t 34)) 32 true ::
 H 36 (.eqv false [true, true] (.t 33) (.t 35)) 32 true ::
 H 37 (.pick (.t 32) (.t 36) (B false)) 30 false ::
 G 38 37 30 false ::
 G 39 0 38 true ::
 H 40 (.fld 2 (.t 4)) 38 true ::
 H 41 (.load (some 2) (.t 40)) 38 true ::
 H 42 (.load (some 29) (.t 5)) 38 true ::
 H 43 (.call (C 67) [(.t 39), (.t 41), (.t 42)]) 38 true ::
 H 44 (.pick (.t 38) (.t 43) (B false)) 30 false ::
 H 45 (.pick (.t 30) (B true) (.t 44)) 24 true ::
 J 46 (.pick (.t 24) (.t 45) (B false)) ::
 M 6 46 :: []) 29)
.ret)))
def rv : List RV := [.tmp 6]
theorem enter : En Try.prog 75 47 s rv := En.mk (c := Try.f75.body.getD .ret) Try.func75 rfl (by kernel_rfl) (by kernel_rfl) (by kernel_rfl) (by kernel_rfl)
end shape_Shape_claim
namespace slices_ContainsFunc_Lapi_Claim_api_Claim
abbrev f : Nat := 76
def s : SCo := (.seq
(F [J 4 (.mv (B false))] 1)
(.seq
(F [M 5 0,
 M 6 1,
 J 7 (.call (C 89) [(.t 5), (.t 6)]),
 J 8 (.bin .geq (.t 7) (Z 0)),
 M 4 8] 5)
.ret))
def rv : List RV := [.tmp 4]
theorem enter : En Try.prog 76 9 s rv := En.mk (c := Try.f76.body.getD .ret) Try.func76 rfl (by kernel_rfl) (by kernel_rfl) (by kernel_rfl) (by kernel_rfl)
end slices_ContainsFunc_Lapi_Claim_api_Claim
namespace shape_Shape_target_1
abbrev f : Nat := 77
def s : SCo := (.seq
(F [J 3 (.box 52 (.t 0)),
 J 4 (.mv (B false))] 2)
(.seq
(F [J 5 (.load none (.t 1)),
 J 6 (.load (some 4) (.t 3)),
 J 7 (.load (some 29) (.t 2)),
 J 8 (.call (C 75) [(.t 5), (.t 6), (.t 7)]),
 J 9 (.not (.t 8)),
 M 4 9] 6)
.ret))
def rv : List RV := [.tmp 4]
theorem enter : En Try.prog 77 10 s rv := En.mk (c := Try.f77.body.getD .ret) Try.func77 rfl (by kernel_rfl) (by kernel_rfl) (by kernel_rfl) (by kernel_rfl)
end shape_Shape_target_1
namespace slices_Collect_api_Dot
abbrev f : Nat := 78
def s : SCo := (.seq
(F [J 2 (.mv (.k (.d .nils)))] 1)
(.seq
(F [M 3 0,
 J 4 (.call (C 90) [(.k (.d .nils)), (.t 3)]),
 M 2 4] 3)
.ret))
def rv : List RV := [.tmp 2]
theorem enter : En Try.prog 78 5 s rv := En.mk (c := Try.f78.body.getD .ret) Try.func78 rfl (by kernel_rfl) (by kernel_rfl) (by kernel_rfl) (by kernel_rfl)
end slices_Collect_api_Dot
namespace slices_SortFunc_Lapi_Dot_api_Dot
abbrev f : Nat := 79
end slices_SortFunc_Lapi_Dot_api_Dot
namespace maps_Keys_map_api_Dot_api_Op_api_Dot_api_Op_1
abbrev f : Nat := 80
def s : SCo := (.seq
(F [J 4 (.load none (.t 1)),
 J 5 (.mrange (.t 4))] 2)
(.block 0
(.loop
(.seq
(F [J 6 (.mnext (.t 5)),
 J 7 (.ext 0 (.t 6))] 2)
(.seq
(.cond (.t 7)
.skip
(.exit 0))
(.block 1
(.seq
(F [J 8 (.mentry (.t 5)),
 J 9 (.ext 0 (.t 8)),
 J 3 (.alloc 31 [b8 0, b32 0]),
 N (.store 2 (.t 3) (.t 9))] 4)
(.seq
(F [M 10 0,
 J 11 (.load (some 2) (.t 3)),
 J 12 (.call (.t 10) [(.t 11)]),
 J 13 (.not (.t 12))] 4)
(.cond (.t 13)
.ret
.skip)))))))))
def rv : List RV := []
theorem enter : En Try.prog 80 14 s rv := En.mk (c := Try.f80.body.getD .ret) Try.func80 rfl (by kernel_rfl) (by kernel_rfl) (by kernel_rfl) (by kernel_rfl)
end maps_Keys_map_api_Dot_api_Op_api_Dot_api_Op_1
namespace cmp_Or_int
abbrev f : Nat := 81
def s : SCo := (.seq
(F [J 2 (.mv (Z 0))] 1)
(.seq
(F [J 3 (.mv (Z 0))] 1)
(.seq
(.seq
(F [M 6 0,
 J 7 (.len (.t 6)),
 J 8 (.mv (Z 0))] 3)
(.block 0
(.loop
(.seq
(F [J 9 (.bin .lss (.t 8) (.t 7))] 1)
(.seq
(.cond (.t 9)
.skip
(.exit 0))
(.seq
(.block 1
(.seq
(F [J 10 (.idxS 1 (.t 6) (.t 8)),
 J 11 (.load none (.t 10)),
 M 5 11] 3)
(.seq
(F [M 12 5,
 M 13 3,
 J 14 (.bin .neq (.t 12) (.t 13))] 3)
(.cond (.t 14)
(.seq
(F [M 15 5,
 M 2 15] 2)
.ret)
.skip))))
(F [J 16 (.bin .add (.t 8) (Z 1)),
 M 8 16] 2)))))))
(.seq
(F [M 17 3,
 M 2 17] 2)
.ret))))
def rv : List RV := [.tmp 2]
theorem enter : En Try.prog 81 18 s rv := En.mk (c := Try.f81.body.getD .ret) Try.func81 rfl (by kernel_rfl) (by kernel_rfl) (by kernel_rfl) (by kernel_rfl)
end cmp_Or_int
namespace cmp_Compare_uint8
abbrev f : Nat := 82
def s : SCo := (.seq
(F [J 4 (.mv (Z 0))] 1)
(.seq
(F [M 7 0,
 J 8 (.call (C 93) [(.t 7)]),
 M 5 8] 3)
(.seq
(F [M 9 1,
 J 10 (.call (C 93) [(.t 9)]),
 M 6 10] 3)
(.seq
(.seq
(F [M 11 5] 1)
(.cond (.t 11)
(.seq
(.seq
(F [M 12 6] 1)
(.cond (.t 12)
(.seq
(F [J 4 (.mv (Z 0))] 1)
.ret)
.skip))
(.seq
(F [J 4 (.mv (.k (.d (.int .i64 (-1)))))] 1)
.ret))
.skip))
(.seq
(.seq
(F [M 13 6] 1)
(.cond (.t 13)
(.seq
(F [J 4 (.mv (Z 1))] 1)
.ret)
.skip))
(.seq
(.seq
(F [M 14 0,
 M 15 1,
 J 16 (.bin .lss (.t 14) (.t 15))] 3)
(.cond (.t 16)
(.seq
(F [J 4 (.mv (.k (.d (.int .i64 (-1)))))] 1)
.ret)
.skip))
(.seq
(.seq
(F [M 17 0,
 M 18 1,
 J 19 (.bin .gtr (.t 17) (.t 18))] 3)
(.cond (.t 19)
(.seq
(F [J 4 (.mv (Z 1))] 1)
.ret)
.skip))
(.seq
(F [J 4 (.mv (Z 0))] 1)
.ret))))))))
def rv : List RV := [.tmp 4]
theorem enter : En Try.prog 82 20 s rv := En.mk (c := Try.f82.body.getD .ret) Try.func82 rfl (by kernel_rfl) (by kernel_rfl) (by kernel_rfl) (by kernel_rfl)
end cmp_Compare_uint8
namespace cmp_Compare_uint32
abbrev f : Nat := 83
def s : SCo := (.seq
(F [J 4 (.mv (Z 0))] 1)
(.seq
(F [M 7 0,
 J 8 (.call (C 94) [(.t 7)]),
 M 5 8] 3)
(.seq
(F [M 9 1,
 J 10 (.call (C 94) [(.t 9)]),
 M 6 10] 3)
(.seq
(.seq
(F [M 11 5] 1)
(.cond (.t 11)
(.seq
(.seq
(F [M 12 6] 1)
(.cond (.t 12)
(.seq
(F [J 4 (.mv (Z 0))] 1)
.ret)
.skip))
(.seq
(F [J 4 (.mv (.k (.d (.int .i64 (-1)))))] 1)
.ret))
.skip))
(.seq
(.seq
(F [M 13 6] 1)
(.cond (.t 13)
(.seq
(F [J 4 (.mv (Z 1))] 1)
.ret)
.skip))
(.seq
(.seq
(F [M 14 0,
 M 15 1,
 J 16 (.bin .lss (.t 14) (.t 15))] 3)
(.cond (.t 16)
(.seq
(F [J 4 (.mv (.k (.d (.int .i64 (-1)))))] 1)
.ret)
.skip))
(.seq
(.seq
(F [M 17 0,
 M 18 1,
 J 19 (.bin .gtr (.t 17) (.t 18))] 3)
(.cond (.t 19)
(.seq
(F [J 4 (.mv (Z 1))] 1)
.ret)
.skip))
(.seq
(F [J 4 (.mv (Z 0))] 1)
.ret))))))))
def rv : List RV := [.tmp 4]
theorem enter : En Try.prog 83 20 s rv := En.mk (c := Try.f83.body.getD .ret) Try.func83 rfl (by kernel_rfl) (by kernel_rfl) (by kernel_rfl) (by kernel_rfl)
end cmp_Compare_uint32
namespace tree_Tree_Chain
abbrev f : Nat := 85
def s : SCo := (.seq
(F [J 3 (.box 31 (.t 1)),
 J 4 (.mv (.k (.d .nils))),
 J 5 (.mv (Z 0))] 3)
(.seq
(.seq
(F [M 11 0,
 J 12 (.load (some 2) (.t 3)),
 J 13 (.call (C 12) [(.t 11), (.t 12)]),
 M 10 13,
 J 14 (.ext 0 (.t 10)),
 J 15 (.ext 1 (.t 10)),
 J 6 (.alloc 42 [b8 0, b32 0, b8 0, b32 0, b8 0, b32 0, b32 0, b8 0, b8 0, b64 0, i6 0]),
 N (.store 11 (.t 6) (.t 14)),
 M 7 15] 9)
(.seq
(F [M 16 7,
 J 17 (.bin .neq (.t 16) (Z 0))] 2)
(.cond (.t 17)
(.seq
(F [M 18 7,
 J 4 (.mv (.k (.d .nils))),
 M 5 18] 3)
.ret)
.skip)))
(.seq
(F [J 8 (.alloc 49 [(.d .nils)])] 1)
(.seq
(.seq
(F [M 19 0,
 J 20 (.load (some 2) (.t 3)),
 J 21 (.call (C 33) [(.t 19), (.t 20)])] 3)
(.block 0
(.rfun (.t 21) [22]
(F [J 9 (.alloc 42 [b8 0, b32 0, b8 0, b32 0, b8 0, b32 0, b32 0, b8 0, b8 0, b64 0, i6 0]),
 N (.store 11 (.t 9) (.t 22))] 2)
(.block 1
(F [J 23 (.load none (.t 8)),
 J 24 (.fld 0 (.t 9)),
 J 25 (.load (some 2) (.t 24)),
 J 26 (.bsl 31 2 1 [b8 0, b32 0] [(0, 2, (.t 25))]),
 J 27 (.app 31 2 8 (.t 23) (.t 26)),
 N (.store 1 (.t 8) (.t 27))] 6)))))
(.seq
(F [J 28 (.load none (.t 8)),
 M 4 28,
 J 5 (.mv (Z 0))] 3)
.ret)))))
def rv : List RV := [.tmp 4, .tmp 5]
theorem enter : En Try.prog 85 29 s rv := En.mk (c := Try.f85.body.getD .ret) Try.func85 rfl (by kernel_rfl) (by kernel_rfl) (by kernel_rfl) (by kernel_rfl)
end tree_Tree_Chain
namespace slices_IndexFunc_Lapi_Op_api_Op
abbrev f : Nat := 86
def s : SCo := (.seq
(F [J 4 (.mv (Z 0))] 1)
(.seq
(.seq
(F [M 6 0,
 J 7 (.len (.t 6)),
 J 8 (.mv (Z 0))] 3)
(.block 0
(.loop
(.seq
(F [J 9 (.bin .lss (.t 8) (.t 7))] 1)
(.seq
(.cond (.t 9)
.skip
(.exit 0))
(.seq
(.block 1
(.seq
(F [M 10 8,
 M 5 10] 2)
(.seq
(F [M 11 1,
 M 12 0,
 M 13 5,
 J 14 (.idxS 29 (.t 12) (.t 13)),
 J 15 (.load (some 29) (.t 14)),
 J 16 (.call (.t 11) [(.t 15)])] 6)
(.cond (.t 16)
(.seq
(F [M 17 5,
 M 4 17] 2)
.ret)
.skip))))
(F [J 18 (.bin .add (.t 8) (Z 1)),
 M 8 18] 2)))))))
(.seq
(F [J 4 (.mv (.k (.d (.int .i64 (-1)))))] 1)
.ret)))
def rv : List RV := [.tmp 4]
theorem enter : En Try.prog 86 19 s rv := En.mk (c := Try.f86.body.getD .ret) Try.func86 rfl (by kernel_rfl) (by kernel_rfl) (by kernel_rfl) (by kernel_rfl)
end slices_IndexFunc_Lapi_Op_api_Op
namespace maps_Keys_dot_set_api_Dot_int
abbrev f : Nat := 87
def s : SCo := (.seq
(F [J 1 (.box 108 (.t 0)),
 J 2 (.mv (.k (.d .nilf)))] 2)
(.seq
(F [J 3 (.mkf (.func 95) [] [(.t 1)]),
 M 2 3] 2)
.ret))
def rv : List RV := [.tmp 2]
theorem enter : En Try.prog 87 4 s rv := En.mk (c := Try.f87.body.getD .ret) Try.func87 rfl (by kernel_rfl) (by kernel_rfl) (by kernel_rfl) (by kernel_rfl)
end maps_Keys_dot_set_api_Dot_int
namespace vector_Covers
abbrev f : Nat := 88
def s : SCo := (.seq
(F [J 2 (.box 33 (.t 0)),
 J 3 (.box 31 (.t 1)),
 J 4 (.mv (B false))] 3)
(.seq
(.reg [J 5 (.load (some 2) (.t 3)),
 J 6 (.call (C 96) [(.t 5)]),
 M 7 6,
 H 8 (.fld 0 (.t 3)) 7 true,
 H 9 (.load none (.t 8)) 7 true,
 H 10 (.idxA 8 1 (.t 2) (.t 9)) 7 true,
 H 11 (.load none (.t 10)) 7 true,
 H 12 (.fld 1 (.t 3)) 7 true,
 H 13 (.load none (.t 12)) 7 true,
 H 14 (.bin .geq (.t 11) (.t 13)) 7 true,
 J 15 (.pick (.t 7) (.t 14) (B false)),
 M 4 15] [0,
1,
3,
7,
15,
31,
63,
7,
135,
511,
1023,
2047] true)
.ret))
def rv : List RV := [.tmp 4]
theorem enter : En Try.prog 88 16 s rv := En.mk (c := Try.f88.body.getD .ret) Try.func88 rfl (by kernel_rfl) (by kernel_rfl) (by kernel_rfl) (by kernel_rfl)
end vector_Covers
namespace slices_IndexFunc_Lapi_Claim_api_Claim
abbrev f : Nat := 89
def s : SCo := (.seq
(F [J 4 (.mv (Z 0))] 1)
(.seq
(.seq
(F [M 6 0,
 J 7 (.len (.t 6)),
 J 8 (.mv (Z 0))] 3)
(.block 0
(.loop
(.seq
(F [J 9 (.bin .lss (.t 8) (.t 7))] 1)
(.seq
(.cond (.t 9)
.skip
(.exit 0))
(.seq
(.block 1
(.seq
(F [M 10 8,
 M 5 10] 2)
(.seq
(F [M 11 1,
 M 12 0,
 M 13 5,
 J 14 (.idxS 4 (.t 12) (.t 13)),
 J 15 (.load (some 4) (.t 14)),
 J 16 (.call (.t 11) [(.t 15)])] 6)
(.cond (.t 16)
(.seq
(F [M 17 5,
 M 4 17] 2)
.ret)
.skip))))
(F [J 18 (.bin .add (.t 8) (Z 1)),
 M 8 18] 2)))))))
(.seq
(F [J 4 (.mv (.k (.d (.int .i64 (-1)))))] 1)
.ret)))
def rv : List RV := [.tmp 4]
theorem enter : En Try.prog 89 19 s rv := En.mk (c := Try.f89.body.getD .ret) Try.func89 rfl (by kernel_rfl) (by kernel_rfl) (by kernel_rfl) (by kernel_rfl)
end slices_IndexFunc_Lapi_Claim_api_Claim
namespace slices_AppendSeq_Lapi_Dot_api_Dot
abbrev f : Nat := 90
def s : SCo := (.seq
(F [J 2 (.box 49 (.t 0)),
 J 4 (.mv (.k (.d .nils)))] 2)
(.seq
(.seq
(F [M 6 1] 1)
(.block 0
(.rfun (.t 6) [7]
(F [J 5 (.alloc 31 [b8 0, b32 0]),
 N (.store 2 (.t 5) (.t 7))] 2)
(.block 1
(F [J 8 (.load none (.t 2)),
 J 9 (.load (some 2) (.t 5)),
 J 10 (.bsl 31 2 1 [b8 0, b32 0] [(0, 2, (.t 9))]),
 J 11 (.app 31 2 8 (.t 8) (.t 10)),
 N (.store 1 (.t 2) (.t 11))] 5)))))
(.seq
(F [J 12 (.load none (.t 2)),
 M 4 12] 2)
.ret)))
def rv : List RV := [.tmp 4]
theorem enter : En Try.prog 90 13 s rv := En.mk (c := Try.f90.body.getD .ret) Try.func90 rfl (by kernel_rfl) (by kernel_rfl) (by kernel_rfl) (by kernel_rfl)
end slices_AppendSeq_Lapi_Dot_api_Dot
namespace cmp_isNaN_uint8
abbrev f : Nat := 93
def s : SCo := (.seq
(F [J 2 (.mv (B false))] 1)
(.seq
(F [M 3 0,
 M 4 0,
 J 5 (.bin .neq (.t 3) (.t 4)),
 M 2 5] 4)
.ret))
def rv : List RV := [.tmp 2]
theorem enter : En Try.prog 93 6 s rv := En.mk (c := Try.f93.body.getD .ret) Try.func93 rfl (by kernel_rfl) (by kernel_rfl) (by kernel_rfl) (by kernel_rfl)
end cmp_isNaN_uint8
namespace cmp_isNaN_uint32
abbrev f : Nat := 94
def s : SCo := (.seq
(F [J 2 (.mv (B false))] 1)
(.seq
(F [M 3 0,
 M 4 0,
 J 5 (.bin .neq (.t 3) (.t 4)),
 M 2 5] 4)
.ret))
def rv : List RV := [.tmp 2]
theorem enter : En Try.prog 94 6 s rv := En.mk (c := Try.f94.body.getD .ret) Try.func94 rfl (by kernel_rfl) (by kernel_rfl) (by kernel_rfl) (by kernel_rfl)
end cmp_isNaN_uint32
namespace maps_Keys_dot_set_api_Dot_int_1
abbrev f : Nat := 95
def s : SCo := (.seq
(F [J 4 (.load none (.t 1)),
 J 5 (.mrange (.t 4))] 2)
(.block 0
(.loop
(.seq
(F [J 6 (.mnext (.t 5)),
 J 7 (.ext 0 (.t 6))] 2)
(.seq
(.cond (.t 7)
.skip
(.exit 0))
(.block 1
(.seq
(F [J 8 (.mentry (.t 5)),
 J 9 (.ext 0 (.t 8)),
 J 3 (.alloc 31 [b8 0, b32 0]),
 N (.store 2 (.t 3) (.t 9))] 4)
(.seq
(F [M 10 0,
 J 11 (.load (some 2) (.t 3)),
 J 12 (.call (.t 10) [(.t 11)]),
 J 13 (.not (.t 12))] 4)
(.cond (.t 13)
.ret
.skip)))))))))
def rv : List RV := []
theorem enter : En Try.prog 95 14 s rv := En.mk (c := Try.f95.body.getD .ret) Try.func95 rfl (by kernel_rfl) (by kernel_rfl) (by kernel_rfl) (by kernel_rfl)
end maps_Keys_dot_set_api_Dot_int_1
namespace dot_May
abbrev f : Nat := 96
def s : SCo := (.seq
(F [J 1 (.box 31 (.t 0)),
 J 2 (.mv (B false))] 2)
(.seq
(F [J 3 (.fld 0 (.t 1)),
 J 4 (.load none (.t 3)),
 J 5 (.bin .lss (.t 4) (.k (b8 8))),
 M 6 5,
 H 7 (.fld 1 (.t 1)) 6 true,
 H 8 (.load none (.t 7)) 6 true,
 H 9 (.bin .gtr (.t 8) (.k (b32 0))) 6 true,
 J 10 (.pick (.t 6) (.t 9) (B false)),
 M 2 10] 9)
.ret))
def rv : List RV := [.tmp 2]
theorem enter : En Try.prog 96 11 s rv := En.mk (c := Try.f96.body.getD .ret) Try.func96 rfl (by kernel_rfl) (by kernel_rfl) (by kernel_rfl) (by kernel_rfl)
end dot_May
end Go.Proofs.Ytlgfknfdfnaedaa
namespace Go.Proofs.Ytlgfknfdfnaedaa
open Go.Sl Go.Sl.Co Go.Proofs
namespace law18_RevokeNone
abbrev f : Nat := 5
def s : SCo := (.seq
(F [J 1 (.box 31 (.t 0)),
 J 2 (.mv (B false))] 2)
(.seq
(F [J 3 (.mv (.k (.d .nilp)))] 1)
(.seq
(F [M 11 3,
 J 12 (.bld [(.d .nilp), (.d .nilm), (.d .nilm), (.d .nilm)] []),
 J 13 (.box 65 (.t 12)),
 J 14 (.bsl 62 1 2 [(.d .nilp), (.d .nilp)] [(0, 1, (.t 11)), (1, 1, (.t 13))]),
 M 4 14] 5)
(.seq
(.seq
(F [J 5 (.mv (Z 0))] 1)
(.block 0
(.loop
(.seq
(.seq
(F [M 15 5,
 J 16 (.bin .lss (.t 15) (Z 2))] 2)
(.cond (.t 16)
.skip
(.exit 0)))
(.seq
(.block 1
(.seq
(F [M 19 4,
 M 20 5,
 J 21 (.idxS 1 (.t 19) (.t 20)),
 J 22 (.load none (.t 21)),
 M 6 22] 5)
(.seq
(F [M 24 6,
 J 25 (.load (some 2) (.t 1)),
 J 26 (.call (C 19) [(.t 24), (.t 25)]),
 M 23 26,
 J 27 (.ext 0 (.t 23)),
 J 28 (.ext 1 (.t 23)),
 M 7 27,
 M 8 28] 8)
(.seq
(F [M 30 6,
 J 31 (.load (some 2) (.t 1)),
 J 32 (.call (C 20) [(.t 30), (.t 31)]),
 M 29 32,
 J 33 (.ext 0 (.t 29)),
 J 34 (.ext 1 (.t 29)),
 M 9 33,
 M 10 34] 8)
(.seq
(F (M 35 8 ::
 J 36 (.bin .neq (.t 35) (Z 1)) ::
 M 37 36 ::
 G 38 10 37 false ::
 H 39 (.bin .neq (.t 38) (Z 1)) 37 false ::
 J 40 (.pick (.t 37) (B true) (.t 39)) ::
 M 41 40 ::
 G 42 6 41 false ::
 H 43 (.load (some 2) (.t 1)) 41 false ::
 H 44 (.call (C 21) [(.t 42), (.t 43)]) 41 false ::
 H 45 (.len (.t 44)) 41 false ::
 H 46 (.bin .neq (.t 45) (Z 0)) 41 false ::
 J 47 (.pick (.t 41) (B true) (.t 46)) ::
 M 48 47 ::
 G 49 6 48 false ::
 H 50 (.load (some 2) (.t 1)) 48 false ::
 H 51 (.call (C 22) [(.t 49), (.t 50)]) 48 false ::
 H 52 (.len (.t 51)) 48 false ::
 H 53 (.bin .neq (.t 52) (Z 0)) 48 false ::
 J 54 (.pick (.t 48) (B true) (.t 53)) ::
 M 55 54 ::
 G 56 6 55 false ::
 H 57 (.call (C 23) [(.t 56)]) 55 false ::
 H 58 (.len (.t 57)) 55 false ::
 H 59 (.bin .neq (.t 58) (Z 0)) 55 false ::
 J 60 (.pick (.t 55) (B true) (.t 59)) :: []) 26)
(.cond (.t 60)
(.seq
(F [J 2 (.mv (B false))] 1)
.ret)
.skip))))))
(F [M 17 5,
 J 18 (.bin .add (.t 17) (Z 1)),
 M 5 18] 3))))))
(.seq
(F [J 61 (.call (C 24) []),
 M 2 61] 2)
.ret)))))
def rv : List RV := [.tmp 2]
theorem enter : En Try.prog 5 62 s rv := En.mk (c := Try.f5.body.getD .ret) Try.func5 rfl (by kernel_rfl) (by kernel_rfl) (by kernel_rfl) (by kernel_rfl)
end law18_RevokeNone
namespace revoke_Index_Level
abbrev f : Nat := 19
def s : SCo := (.seq
(F [J 3 (.box 31 (.t 1)),
 J 4 (.mv (Z 0)),
 J 5 (.mv (Z 0))] 3)
(.seq
(.seq
(F [M 8 0,
 J 9 (.call (C 49) [(.t 8)])] 2)
(.cond (.t 9)
(.seq
(F [J 4 (.mv (Z 0)),
 J 5 (.mv (Z 1))] 2)
.ret)
.skip))
(.seq
(.seq
(.reg [M 11 0,
 J 12 (.nilc (.t 11)),
 J 13 (.fld 1 (.t 12)),
 J 14 (.load none (.t 13)),
 J 15 (.load (some 2) (.t 3)),
 J 16 (.look [true, true] true (.agg z29) (.t 14) (.t 15) true),
 M 10 16,
 J 17 (.ext 0 (.t 10)),
 J 18 (.ext 1 (.t 10)),
 J 6 (.alloc 37 z29),
 N (.store 29 (.t 6) (.t 17)),
 M 7 18] [0,
1,
3,
7,
0,
31,
63,
127,
127,
0,
767,
2047] true)
(.seq
(F [M 19 7,
 J 20 (.not (.t 19))] 2)
(.cond (.t 20)
(.seq
(F [J 4 (.mv (Z 0)),
 J 5 (.mv (Z 7))] 2)
.ret)
.skip)))
(.seq
(.reg [M 21 0,
 J 22 (.nilc (.t 21)),
 J 23 (.fld 2 (.t 22)),
 J 24 (.load none (.t 23)),
 J 25 (.load (some 2) (.t 3)),
 J 26 (.look [true, true] true (.d .nils) (.t 24) (.t 25) false),
 J 27 (.len (.t 26)),
 J 28 (.bin .sub (.t 27) (Z 1)),
 M 4 28,
 J 5 (.mv (Z 0))] [0,
1,
3,
7,
0,
31,
63,
127,
255,
511] true)
.ret))))
def rv : List RV := [.tmp 4, .tmp 5]
theorem enter : En Try.prog 19 29 s rv := En.mk (c := Try.f19.body.getD .ret) Try.func19 rfl (by kernel_rfl) (by kernel_rfl) (by kernel_rfl) (by kernel_rfl)
end revoke_Index_Level
namespace revoke_Index_Threats
abbrev f : Nat := 20
def s : SCo := (.seq
(F [J 3 (.box 31 (.t 1)),
 J 4 (.mv (.k (.d .nils))),
 J 5 (.mv (Z 0))] 3)
(.seq
(.seq
(F [M 9 0,
 J 10 (.load (some 2) (.t 3)),
 J 11 (.call (C 19) [(.t 9), (.t 10)]),
 M 8 11,
 J 12 (.ext 0 (.t 8)),
 J 13 (.ext 1 (.t 8)),
 M 6 12,
 M 7 13] 8)
(.seq
(F [M 14 7,
 J 15 (.bin .neq (.t 14) (Z 0))] 2)
(.cond (.t 15)
(.seq
(F [M 16 7,
 J 4 (.mv (.k (.d .nils))),
 M 5 16] 3)
.ret)
.skip)))
(.seq
(.reg [M 17 0,
 M 18 0,
 J 19 (.nilc (.t 18)),
 J 20 (.fld 1 (.t 19)),
 J 21 (.load none (.t 20)),
 J 22 (.load (some 2) (.t 3)),
 J 23 (.look [true, true] true (.agg z29) (.t 21) (.t 22) false),
 J 24 (.call (C 51) [(.t 17), (.t 23)]),
 J 25 (.call (C 50) [(.t 24), (C 52)]),
 M 4 25,
 J 5 (.mv (Z 0))] [0,
0,
2,
6,
14,
0,
62,
127,
255,
511,
1023] true)
.ret)))
def rv : List RV := [.tmp 4, .tmp 5]
theorem enter : En Try.prog 20 26 s rv := En.mk (c := Try.f20.body.getD .ret) Try.func20 rfl (by kernel_rfl) (by kernel_rfl) (by kernel_rfl) (by kernel_rfl)
end revoke_Index_Threats
namespace revoke_Index_Revokes
abbrev f : Nat := 21
def s : SCo := (.seq
(F [J 3 (.box 31 (.t 1)),
 J 4 (.mv (.k (.d .nils)))] 2)
(.seq
(.seq
(F [M 5 0,
 J 6 (.call (C 49) [(.t 5)])] 2)
(.cond (.t 6)
(.seq
(F [J 4 (.mv (.k (.d .nils)))] 1)
.ret)
.skip))
(.seq
(.reg [M 7 0,
 J 8 (.nilc (.t 7)),
 J 9 (.fld 3 (.t 8)),
 J 10 (.load none (.t 9)),
 J 11 (.load (some 2) (.t 3)),
 J 12 (.look [true, true] true (.d .nils) (.t 10) (.t 11) false),
 J 13 (.call (C 34) [(.t 12)]),
 M 4 13] [0,
1,
3,
7,
0,
31,
63,
127] true)
.ret)))
def rv : List RV := [.tmp 4]
theorem enter : En Try.prog 21 14 s rv := En.mk (c := Try.f21.body.getD .ret) Try.func21 rfl (by kernel_rfl) (by kernel_rfl) (by kernel_rfl) (by kernel_rfl)
end revoke_Index_Revokes
namespace revoke_Index_Threatened
abbrev f : Nat := 22
def s : SCo := (.seq
(F [J 2 (.box 62 (.t 0)),
 J 3 (.box 31 (.t 1)),
 J 4 (.mv (.k (.d .nils)))] 3)
(.seq
(.seq
(F [J 6 (.load none (.t 2)),
 J 7 (.call (C 49) [(.t 6)])] 2)
(.cond (.t 7)
(.seq
(F [J 4 (.mv (.k (.d .nils)))] 1)
.ret)
.skip))
(.seq
(F [J 8 (.mkf (.func 53) [] [(.t 2), (.t 3)]),
 M 5 8] 2)
(.seq
(F [M 9 5,
 J 10 (.call (C 54) [(.t 9), (C 55)]),
 M 4 10] 3)
.ret))))
def rv : List RV := [.tmp 4]
theorem enter : En Try.prog 22 11 s rv := En.mk (c := Try.f22.body.getD .ret) Try.func22 rfl (by kernel_rfl) (by kernel_rfl) (by kernel_rfl) (by kernel_rfl)
end revoke_Index_Threatened
namespace revoke_Index_Levels
abbrev f : Nat := 23
def s : SCo := (.seq
(F [J 2 (.mv (.k (.d .nils)))] 1)
(.seq
(.seq
(F [M 7 0,
 J 8 (.call (C 49) [(.t 7)])] 2)
(.cond (.t 8)
(.seq
(F [J 2 (.mv (.k (.d .nils)))] 1)
.ret)
.skip))
(.seq
(F [J 3 (.mv (.k (.d .nils)))] 1)
(.seq
(.seq
(F [M 9 0,
 J 10 (.nilc (.t 9)),
 J 11 (.fld 1 (.t 10)),
 J 12 (.load none (.t 11)),
 J 13 (.mrange (.t 12))] 5)
(.block 0
(.loop
(.seq
(F [J 14 (.mnext (.t 13)),
 J 15 (.ext 0 (.t 14))] 2)
(.seq
(.cond (.t 15)
.skip
(.exit 0))
(.block 1
(.seq
(F [J 16 (.mentry (.t 13)),
 J 17 (.ext 0 (.t 16)),
 J 4 (.alloc 31 [b8 0, b32 0]),
 N (.store 2 (.t 4) (.t 17))] 4)
(.seq
(.reg [M 18 0,
 J 19 (.nilc (.t 18)),
 J 20 (.fld 2 (.t 19)),
 J 21 (.load none (.t 20)),
 J 22 (.load (some 2) (.t 4)),
 J 23 (.look [true, true] true (.d .nils) (.t 21) (.t 22) false),
 J 24 (.len (.t 23)),
 M 5 24] [0,
1,
3,
7,
0,
31,
63,
127] true)
(.seq
(.block 2
(.loop
(.seq
(.seq
(F [M 25 3,
 J 26 (.len (.t 25)),
 M 27 5,
 J 28 (.bin .leq (.t 26) (.t 27))] 4)
(.cond (.t 28)
.skip
(.exit 2)))
(.block 3
(F [M 29 3,
 J 30 (.bsl 49 1 1 [(.d .nils)] [(0, 1, (.k (.d .nils)))]),
 J 31 (.app 49 1 24 (.t 29) (.t 30)),
 M 3 31] 4)))))
(.reg [M 32 3,
 M 33 5,
 M 34 3,
 M 35 5,
 J 36 (.idxS 1 (.t 34) (.t 35)),
 J 37 (.load none (.t 36)),
 J 38 (.load (some 2) (.t 4)),
 J 39 (.bsl 31 2 1 [b8 0, b32 0] [(0, 2, (.t 38))]),
 J 40 (.app 31 2 8 (.t 37) (.t 39)),
 J 41 (.idxS 1 (.t 32) (.t 33)),
 N (.store 1 (.t 41) (.t 40))] [0,
0,
0,
0,
12,
28,
0,
64,
252,
511,
1023] true))))))))))
(.seq
(.seq
(F [M 42 3,
 J 43 (.len (.t 42)),
 J 44 (.mv (Z 0))] 3)
(.block 4
(.loop
(.seq
(F [J 45 (.bin .lss (.t 44) (.t 43))] 1)
(.seq
(.cond (.t 45)
.skip
(.exit 4))
(.seq
(.block 5
(.seq
(F [M 46 44,
 M 6 46] 2)
(F [M 47 3,
 M 48 6,
 M 49 3,
 M 50 6,
 J 51 (.idxS 1 (.t 49) (.t 50)),
 J 52 (.load none (.t 51)),
 J 53 (.call (C 34) [(.t 52)]),
 J 54 (.idxS 1 (.t 47) (.t 48)),
 N (.store 1 (.t 54) (.t 53))] 9)))
(F [J 55 (.bin .add (.t 44) (Z 1)),
 M 44 55] 2)))))))
(.seq
(F [M 56 3,
 J 57 (.call (C 56) [(.t 56)]),
 M 2 57] 3)
.ret))))))
def rv : List RV := [.tmp 2]
theorem enter : En Try.prog 23 58 s rv := En.mk (c := Try.f23.body.getD .ret) Try.func23 rfl (by kernel_rfl) (by kernel_rfl) (by kernel_rfl) (by kernel_rfl)
end revoke_Index_Levels
namespace law18_head
abbrev f : Nat := 24
def s : SCo := (.seq
(F [J 0 (.mv (B false))] 1)
(.seq
(F [J 17 (.call (C 58) []),
 J 18 (.call (C 8) [(.t 17)]),
 J 19 (.call (C 57) [(.t 18)]),
 M 1 19] 4)
(.seq
(.seq
(F [M 20 1,
 J 21 (.eqnil false 0 (.t 20))] 2)
(.cond (.t 21)
(.seq
(F [J 0 (.mv (B false))] 1)
.ret)
.skip))
(.seq
(F [M 23 1,
 J 24 (.bld [b8 0, b32 0] [(1, 1, (.k (b32 4)))]),
 J 25 (.call (C 20) [(.t 23), (.t 24)]),
 M 22 25,
 J 26 (.ext 0 (.t 22)),
 J 27 (.ext 1 (.t 22)),
 M 2 26,
 M 3 27] 8)
(.seq
(F [M 29 1,
 J 30 (.bld [b8 0, b32 0] [(1, 1, (.k (b32 3)))]),
 J 31 (.call (C 20) [(.t 29), (.t 30)]),
 M 28 31,
 J 32 (.ext 0 (.t 28)),
 J 33 (.ext 1 (.t 28)),
 M 4 32,
 M 5 33] 8)
(.seq
(F [M 35 1,
 J 36 (.bld [b8 0, b32 0] [(1, 1, (.k (b32 2)))]),
 J 37 (.call (C 20) [(.t 35), (.t 36)]),
 M 34 37,
 J 38 (.ext 0 (.t 34)),
 J 39 (.ext 1 (.t 34)),
 M 6 38,
 M 7 39] 8)
(.seq
(F [M 41 1,
 J 42 (.bld [b8 0, b32 0] [(1, 1, (.k (b32 1)))]),
 J 43 (.call (C 19) [(.t 41), (.t 42)]),
 M 40 43,
 J 44 (.ext 0 (.t 40)),
 J 45 (.ext 1 (.t 40)),
 M 8 44,
 M 9 45] 8)
(.seq
(F [M 47 1,
 J 48 (.bld [b8 0, b32 0] [(1, 1, (.k (b32 2)))]),
 J 49 (.call (C 19) [(.t 47), (.t 48)]),
 M 46 49,
 J 50 (.ext 0 (.t 46)),
 J 51 (.ext 1 (.t 46)),
 M 10 50,
 M 11 51] 8)
(.seq
(F [M 53 1,
 J 54 (.bld [b8 0, b32 0] [(1, 1, (.k (b32 4)))]),
 J 55 (.call (C 19) [(.t 53), (.t 54)]),
 M 52 55,
 J 56 (.ext 0 (.t 52)),
 J 57 (.ext 1 (.t 52)),
 M 12 56,
 M 13 57] 8)
(.seq
(F [M 59 1,
 J 60 (.bld [b8 0, b32 0] [(1, 1, (.k (b32 9)))]),
 J 61 (.call (C 19) [(.t 59), (.t 60)]),
 M 58 61,
 J 62 (.ext 0 (.t 58)),
 J 63 (.ext 1 (.t 58)),
 M 14 62,
 M 15 63] 8)
(.seq
(F [J 64 (.bld [b8 0, b32 0] [(0, 1, (.k (b8 1))), (1, 1, (.k (b32 1)))]),
 J 65 (.bsl 31 2 1 [b8 0, b32 0] [(0, 2, (.t 64))]),
 M 16 65] 3)
(.seq
(F (M 66 2 ::
 M 67 16 ::
 J 68 (.call (C 59) [(.t 66), (.t 67)]) ::
 M 69 68 ::
 G 70 3 69 true ::
 H 71 (.bin .eql (.t 70) (Z 0)) 69 true ::
 J 72 (.pick (.t 69) (.t 71) (B false)) ::
 M 73 72 ::
 G 74 4 73 true ::
 H 75 (.len (.t 74)) 73 true ::
 H 76 (.bin .eql (.t 75) (Z 0)) 73 true ::
 J 77 (.pick (.t 73) (.t 76) (B false)) ::
 M 78 77 ::
 G 79 5 78 true ::
 H 80 (.bin .eql (.t 79) (Z 0)) 78 true ::
 J 81 (.pick (.t 78) (.t 80) (B false)) ::
 M 82 81 ::
 G 83 6 82 true ::
 H 84 (.len (.t 83)) 82 true ::
 H 85 (.bin .eql (.t 84) (Z 0)) 82 true ::
 J 86 (.pick (.t 82) (.t 85) (B false)) ::
 M 87 86 ::
 G 88 7 87 true ::
 H 89 (.bin .eql (.t 88) (Z 0)) 87 true ::
 J 90 (.pick (.t 87) (.t 89) (B false)) ::
 M 91 90 ::
 G 92 8 91 true ::
 H 93 (.bin .eql (.t 92) (.k (.d (.int .i64 (-1))))) 91 true ::
 J 94 (.pick (.t 91) (.t 93) (B false)) ::
 M 95 94 ::
 G 96 10 95 true ::
 H 97 (.bin .eql (.t 96) (Z 0)) 95 true ::
 J 98 (.pick (.t 95) (.t 97) (B false)) ::
 M 99 98 ::
 G 100 12 99 true ::
 H 101 (.bin .eql (.t 100) (Z 1)) 99 true ::
 J 102 (.pick (.t 99) (.t 101) (B false)) ::
 M 103 102 ::
 G 104 15 103 true ::
 H 105 (.bin .eql (.t 104) (Z 7)) 103 true ::
 J 106 (.pick (.t 103) (.t 105) (B false)) ::
 M 107 106 ::
 G 108 1 107 true ::
 H 109 (.bld [b8 0, b32 0] [(1, 1, (.k (b32 2)))]) 107 true ::
 H 110 (.call (C 21) [(.t 108), (.t 109)]) 107 true ::
 G 111 16 107 true ::
 H 112 (.call (C 59) [(.t 110), (.t 111)]) 107 true ::
 J 113 (.pick (.t 107) (.t 112) (B false)) ::
 M 114 113 ::
 G 115 1 114 true ::
 G 116 16 114 true ::
 H 117 (.idxS 2 (.t 116) (Z 0)) 114 true ::
 H 118 (.load (some 2) (.t 117)) 114 true ::
 H 119 (.call (C 22) [(.t 115), (.t 118)]) 114 true ::
 H 120 (.bld [b8 0, b32 0] [(1, 1, (.k (b32 4)))]) 114 true ::
 H 121 (.bsl 31 2 1 [b8 0, b32 0] [(0, 2, (.t 120))]) 114 true ::
 H 122 (.call (C 59) [(.t 119), (.t 121)]) 114 true ::
 J 123 (.pick (.t 114) (.t 122) (B false)) ::
 M 124 123 ::
 H 125 (.call (C 57) [(.k (.d .nilp))]) 124 true ::
 H 126 (.eqnil false 0 (.t 125)) 124 true ::
 J 127 (.pick (.t 124) (.t 126) (B false)) ::
 M 0 127 :: []) 63)
.ret))))))))))))
def rv : List RV := [.tmp 0]
theorem enter : En Try.prog 24 128 s rv := En.mk (c := Try.f24.body.getD .ret) Try.func24 rfl (by kernel_rfl) (by kernel_rfl) (by kernel_rfl) (by kernel_rfl)
end law18_head
namespace revoke_Index_none
abbrev f : Nat := 49
def s : SCo := (.seq
(F [J 2 (.mv (B false))] 1)
(.seq
(F [M 3 0,
 J 4 (.eqnil false 0 (.t 3)),
 M 5 4,
 G 6 0 5 false,
 H 7 (.nilc (.t 6)) 5 false,
 H 8 (.fld 1 (.t 7)) 5 false,
 H 9 (.load none (.t 8)) 5 false,
 H 10 (.eqnil false 1 (.t 9)) 5 false,
 J 11 (.pick (.t 5) (B true) (.t 10)),
 M 2 11] 10)
.ret))
def rv : List RV := [.tmp 2]
theorem enter : En Try.prog 49 12 s rv := En.mk (c := Try.f49.body.getD .ret) Try.func49 rfl (by kernel_rfl) (by kernel_rfl) (by kernel_rfl) (by kernel_rfl)
end revoke_Index_none
namespace revoke_sorted_api_Dot
abbrev f : Nat := 50
def s : SCo := (.seq
(F [J 3 (.box 97 (.t 1)),
 J 4 (.mv (.k (.d .nils)))] 2)
(.seq
(F [J 5 (.alloc 49 [(.d .nils)])] 1)
(.seq
(.seq
(F [M 7 0] 1)
(.block 0
(.rfun (.t 7) [8]
(F [J 6 (.alloc 31 [b8 0, b32 0]),
 N (.store 2 (.t 6) (.t 8))] 2)
(.block 1
(.reg [J 9 (.load none (.t 5)),
 J 10 (.load none (.t 3)),
 J 11 (.load (some 2) (.t 6)),
 J 12 (.call (.t 10) [(.t 11)]),
 J 13 (.bsl 31 2 1 [b8 0, b32 0] [(0, 2, (.t 12))]),
 J 14 (.app 31 2 8 (.t 9) (.t 13)),
 N (.store 1 (.t 5) (.t 14))] [0,
0,
0,
6,
14,
31,
63] true)))))
(.seq
(F [J 15 (.load none (.t 5)),
 J 16 (.call (C 34) [(.t 15)]),
 M 4 16] 3)
.ret))))
def rv : List RV := [.tmp 4]
theorem enter : En Try.prog 50 17 s rv := En.mk (c := Try.f50.body.getD .ret) Try.func50 rfl (by kernel_rfl) (by kernel_rfl) (by kernel_rfl) (by kernel_rfl)
end revoke_sorted_api_Dot
namespace revoke_Index_threats
abbrev f : Nat := 51
def s : SCo := (.seq
(F [J 2 (.box 62 (.t 0)),
 J 3 (.box 37 (.t 1)),
 J 4 (.mv (.k (.d .nilf)))] 3)
(.seq
(F [J 5 (.mkf (.func 84) [] [(.t 2), (.t 3)]),
 M 4 5] 2)
.ret))
def rv : List RV := [.tmp 4]
theorem enter : En Try.prog 51 6 s rv := En.mk (c := Try.f51.body.getD .ret) Try.func51 rfl (by kernel_rfl) (by kernel_rfl) (by kernel_rfl) (by kernel_rfl)
end revoke_Index_threats
namespace revoke_Index_Threats_1
abbrev f : Nat := 52
def s : SCo := (.seq
(F [J 1 (.box 31 (.t 0)),
 J 2 (.alloc 31 [b8 0, b32 0])] 2)
(.seq
(F [J 3 (.load (some 2) (.t 1)),
 N (.store 2 (.t 2) (.t 3))] 2)
.ret))
def rv : List RV := [.cell 2 (some 2)]
theorem enter : En Try.prog 52 4 s rv := En.mk (c := Try.f52.body.getD .ret) Try.func52 rfl (by kernel_rfl) (by kernel_rfl) (by kernel_rfl) (by kernel_rfl)
end revoke_Index_Threats_1
namespace revoke_Index_Threatened_1
abbrev f : Nat := 53
def s : SCo := (.seq
(F [J 3 (.box 61 (.t 0))] 1)
(.seq
(F [J 7 (.load none (.t 1)),
 J 8 (.nilc (.t 7)),
 J 9 (.fld 1 (.t 8)),
 J 10 (.load none (.t 9)),
 J 11 (.mrange (.t 10))] 5)
(.block 0
(.loop
(.seq
(F [J 12 (.mnext (.t 11)),
 J 13 (.ext 0 (.t 12))] 2)
(.seq
(.cond (.t 13)
.skip
(.exit 0))
(.block 1
(.seq
(F [J 14 (.mentry (.t 11)),
 J 15 (.ext 1 (.t 14)),
 J 5 (.alloc 37 z29),
 N (.store 29 (.t 5) (.t 15))] 4)
(.seq
(F [J 16 (.load none (.t 1)),
 J 17 (.load (some 29) (.t 5)),
 J 18 (.call (C 51) [(.t 16), (.t 17)])] 3)
(.block 2
(.rfun (.t 18) [19]
(F [J 6 (.alloc 31 [b8 0, b32 0]),
 N (.store 2 (.t 6) (.t 19))] 2)
(.block 3
(.seq
(F [J 20 (.load (some 2) (.t 6)),
 J 21 (.load (some 2) (.t 2)),
 J 22 (.eqv false [true, true] (.t 20) (.t 21)),
 M 23 22,
 H 24 (.load none (.t 3)) 23 true,
 H 25 (.load (some 29) (.t 5)) 23 true,
 H 26 (.call (.t 24) [(.t 25)]) 23 true,
 H 27 (.not (.t 26)) 23 true,
 J 28 (.pick (.t 23) (.t 27) (B false))] 9)
(.cond (.t 28)
.ret
.skip))))))))))))))
def rv : List RV := []
theorem enter : En Try.prog 53 29 s rv := En.mk (c := Try.f53.body.getD .ret) Try.func53 rfl (by kernel_rfl) (by kernel_rfl) (by kernel_rfl) (by kernel_rfl)
end revoke_Index_Threatened_1
namespace revoke_sorted_api_Op
abbrev f : Nat := 54
def s : SCo := (.seq
(F [J 3 (.box 100 (.t 1)),
 J 4 (.mv (.k (.d .nils)))] 2)
(.seq
(F [J 5 (.alloc 49 [(.d .nils)])] 1)
(.seq
(.seq
(F [M 7 0] 1)
(.block 0
(.rfun (.t 7) [8]
(F [J 6 (.alloc 37 z29),
 N (.store 29 (.t 6) (.t 8))] 2)
(.block 1
(.reg [J 9 (.load none (.t 5)),
 J 10 (.load none (.t 3)),
 J 11 (.load (some 29) (.t 6)),
 J 12 (.call (.t 10) [(.t 11)]),
 J 13 (.bsl 31 2 1 [b8 0, b32 0] [(0, 2, (.t 12))]),
 J 14 (.app 31 2 8 (.t 9) (.t 13)),
 N (.store 1 (.t 5) (.t 14))] [0,
0,
0,
6,
14,
31,
63] true)))))
(.seq
(F [J 15 (.load none (.t 5)),
 J 16 (.call (C 34) [(.t 15)]),
 M 4 16] 3)
.ret))))
def rv : List RV := [.tmp 4]
theorem enter : En Try.prog 54 17 s rv := En.mk (c := Try.f54.body.getD .ret) Try.func54 rfl (by kernel_rfl) (by kernel_rfl) (by kernel_rfl) (by kernel_rfl)
end revoke_sorted_api_Op
namespace revoke_Index_Threatened_2
abbrev f : Nat := 55
def s : SCo := (.seq
(F [J 1 (.box 37 (.t 0)),
 J 2 (.alloc 31 [b8 0, b32 0])] 2)
(.seq
(F [J 3 (.fld 0 (.t 1)),
 J 4 (.load (some 2) (.t 3)),
 N (.store 2 (.t 2) (.t 4))] 3)
.ret))
def rv : List RV := [.cell 2 (some 2)]
theorem enter : En Try.prog 55 5 s rv := En.mk (c := Try.f55.body.getD .ret) Try.func55 rfl (by kernel_rfl) (by kernel_rfl) (by kernel_rfl) (by kernel_rfl)
end revoke_Index_Threatened_2
namespace revoke_New
abbrev f : Nat := 57
def s : SCo := (.seq
(F [J 2 (.mv (.k (.d .nilp)))] 1)
(.seq
(.seq
(F [M 8 0,
 J 9 (.call (C 9) [(.t 8)]),
 J 10 (.eqnil false 0 (.t 9))] 3)
(.cond (.t 10)
(.seq
(F [J 2 (.mv (.k (.d .nilp)))] 1)
.ret)
.skip))
(.seq
(F [M 11 0,
 J 12 (.mkm),
 J 13 (.mkm),
 J 14 (.mkm),
 J 15 (.bld [(.d .nilp), (.d .nilm), (.d .nilm), (.d .nilm)] [(0, 1, (.t 11)), (1, 1, (.t 12)), (2, 1, (.t 13)), (3, 1, (.t 14))]),
 J 16 (.box 65 (.t 15)),
 M 3 16] 7)
(.seq
(.seq
(F [M 17 0,
 J 18 (.call (C 18) [(.t 17)]),
 J 19 (.len (.t 18)),
 J 20 (.mv (Z 0))] 4)
(.block 0
(.loop
(.seq
(F [J 21 (.bin .lss (.t 20) (.t 19))] 1)
(.seq
(.cond (.t 21)
.skip
(.exit 0))
(.seq
(.block 1
(.seq
(F [J 22 (.idxS 2 (.t 18) (.t 20)),
 J 23 (.load (some 2) (.t 22)),
 J 5 (.alloc 31 [b8 0, b32 0]),
 N (.store 2 (.t 5) (.t 23))] 4)
(.seq
(.seq
(F [M 24 0,
 J 25 (.load (some 2) (.t 5)),
 J 26 (.call (C 11) [(.t 24), (.t 25)]),
 J 27 (.not (.t 26))] 4)
(.cond (.t 27)
(.exit 1)
.skip))
(.seq
(F [M 29 0,
 J 30 (.load (some 2) (.t 5)),
 J 31 (.call (C 10) [(.t 29), (.t 30)]),
 M 28 31,
 J 32 (.ext 0 (.t 28)),
 J 33 (.ext 1 (.t 28)),
 J 6 (.alloc 37 z29),
 N (.store 29 (.t 6) (.t 32)),
 M 7 33] 9)
(.seq
(.reg [M 34 3,
 J 35 (.nilc (.t 34)),
 J 36 (.fld 1 (.t 35)),
 J 37 (.load none (.t 36)),
 J 38 (.load (some 2) (.t 5)),
 J 39 (.load (some 29) (.t 6)),
 N (.mset [true, true] true (.t 37) (.t 38) (.t 39))] [0,
1,
3,
7,
0,
0,
63] true)
(.seq
(.reg [M 41 3,
 J 42 (.nilc (.t 41)),
 J 43 (.fld 2 (.t 42)),
 J 44 (.load none (.t 43)),
 J 45 (.load (some 2) (.t 5)),
 M 46 0,
 J 47 (.call (C 9) [(.t 46)]),
 J 48 (.fld 15 (.t 6)),
 J 49 (.load (some 2) (.t 48)),
 J 50 (.call (C 85) [(.t 47), (.t 49)]),
 M 40 50,
 J 51 (.ext 0 (.t 40)),
 J 52 (.ext 1 (.t 40)),
 N (.mset [true, true] true (.t 44) (.t 45) (.t 51))] [0,
1,
3,
7,
0,
0,
32,
0,
128,
480,
992,
2016,
2016,
4095] true)
(.seq
(.seq
(F [J 53 (.fld 14 (.t 6)),
 J 54 (.load none (.t 53)),
 J 55 (.bin .eql (.t 54) (.k (b8 0)))] 3)
(.cond (.t 55)
(.reg [M 56 3,
 J 57 (.nilc (.t 56)),
 J 58 (.fld 2 (.t 57)),
 J 59 (.load none (.t 58)),
 J 60 (.load (some 2) (.t 5)),
 N (.mset [true, true] true (.t 59) (.t 60) (.k (.d .nils)))] [0,
1,
3,
7,
0,
31] true)
.skip))
(.seq
(F [J 61 (.fld 14 (.t 6)),
 J 62 (.load none (.t 61)),
 J 63 (.bin .eql (.t 62) (.k (b8 2)))] 3)
(.cond (.t 63)
(.reg [M 64 3,
 J 65 (.nilc (.t 64)),
 J 66 (.fld 3 (.t 65)),
 J 67 (.load none (.t 66)),
 J 68 (.fld 21 (.t 6)),
 J 69 (.load (some 2) (.t 68)),
 J 71 (.load (some 2) (.t 5)),
 J 72 (.bsl 31 2 1 [b8 0, b32 0] [(0, 2, (.t 71))]),
 J 73 (.mentr [true, true] true (.d .nils) (.t 67) (.t 69)),
 J 70 (.ext 0 (.t 73)),
 J 74 (.app 31 2 8 (.t 70) (.t 72)),
 J 75 (.ext 1 (.t 73)),
 N (.mstor (.t 67) (.t 75) (.t 74))] [0,
1,
3,
7,
0,
16,
0,
64,
255,
511,
1023,
511,
4095] true)
.skip)))))))))
(F [J 76 (.bin .add (.t 20) (Z 1)),
 M 20 76] 2)))))))
(.seq
(F [M 77 3,
 M 2 77] 2)
.ret)))))
def rv : List RV := [.tmp 2]
theorem enter : En Try.prog 57 78 s rv := En.mk (c := Try.f57.body.getD .ret) Try.func57 rfl (by kernel_rfl) (by kernel_rfl) (by kernel_rfl) (by kernel_rfl)
end revoke_New
namespace law18_row
abbrev f : Nat := 58
def s : SCo := (.seq
(F [J 0 (.mv (.k (.d .nils)))] 1)
(.seq
(F [J 2 (.bld [b8 0, b32 0] [(1, 1, (.k (b32 1)))]),
 J 1 (.alloc 31 [b8 0, b32 0]),
 N (.store 2 (.t 1) (.t 2))] 3)
(.seq
(F (J 3 (.load (some 2) (.t 1)) ::
 J 4 (.load (some 2) (.t 1)) ::
 J 5 (.bld z29 [(0, 2, (.t 3)), (10, 1, (.k (b64 1))), (11, 1, (.k (b32 1))), (12, 2, (.t 4))]) ::
 J 6 (.bld [b8 0, b32 0] [(1, 1, (.k (b32 2)))]) ::
 J 7 (.bld z8 [(0, 1, (.k (b32 1)))]) ::
 J 8 (.load (some 2) (.t 1)) ::
 J 9 (.load (some 2) (.t 1)) ::
 J 10 (.bld z29 [(0, 2, (.t 6)), (2, 8, (.t 7)), (10, 1, (.k (b64 2))), (11, 1, (.k (b32 1))), (12, 2, (.t 8)), (14, 1, (.k (b8 1))), (15, 2, (.t 9)), (17, 1, (.k (b32 2))), (18, 1, (.k (b8 2))), (20, 1, (.k (b64 9)))]) ::
 J 11 (.bld [b8 0, b32 0] [(1, 1, (.k (b32 3)))]) ::
 J 12 (.bld z8 [(0, 1, (.k (b32 2)))]) ::
 J 13 (.load (some 2) (.t 1)) ::
 J 14 (.bld [b8 0, b32 0] [(1, 1, (.k (b32 2)))]) ::
 J 15 (.bld z29 [(0, 2, (.t 11)), (2, 8, (.t 12)), (10, 1, (.k (b64 3))), (11, 1, (.k (b32 2))), (12, 2, (.t 13)), (14, 1, (.k (b8 3))), (15, 2, (.t 14)), (26, 1, (.k (b32 1)))]) ::
 J 16 (.bld [b8 0, b32 0] [(1, 1, (.k (b32 4)))]) ::
 J 17 (.bld z8 [(0, 1, (.k (b32 3)))]) ::
 J 18 (.load (some 2) (.t 1)) ::
 J 19 (.bld [b8 0, b32 0] [(1, 1, (.k (b32 2)))]) ::
 J 20 (.bld [b8 0, b32 0] [(1, 1, (.k (b32 3)))]) ::
 J 21 (.bld z29 [(0, 2, (.t 16)), (2, 8, (.t 17)), (10, 1, (.k (b64 4))), (11, 1, (.k (b32 2))), (12, 2, (.t 18)), (14, 1, (.k (b8 4))), (15, 2, (.t 19)), (21, 2, (.t 20)), (26, 1, (.k (b32 2)))]) ::
 J 22 (.bld [b8 0, b32 0] [(0, 1, (.k (b8 1))), (1, 1, (.k (b32 1)))]) ::
 J 23 (.bld z8 [(0, 1, (.k (b32 3)))]) ::
 J 24 (.load (some 2) (.t 1)) ::
 J 25 (.load (some 2) (.t 1)) ::
 J 26 (.bld [b8 0, b32 0] [(1, 1, (.k (b32 2)))]) ::
 J 27 (.bld z29 [(0, 2, (.t 22)), (2, 8, (.t 23)), (10, 1, (.k (b64 4))), (11, 1, (.k (b32 1))), (12, 2, (.t 24)), (14, 1, (.k (b8 2))), (15, 2, (.t 25)), (21, 2, (.t 26))]) ::
 J 28 (.bsl 37 29 5 [b8 0, b32 0, b32 0, b32 0, b32 0, b32 0, b32 0, b32 0, b32 0, b32 0, b64 0, b32 0, b8 0, b32 0, b8 0, b8 0, b32 0, b32 0, b8 0, b8 0, b64 0, b8 0, b32 0, b8 0, b32 0, b32 0, b32 0, b32 0, (.d .nils), b8 0, b32 0, b32 0, b32 0, b32 0, b32 0, b32 0, b32 0, b32 0, b32 0, b64 0, b32 0, b8 0, b32 0, b8 0, b8 0, b32 0, b32 0, b8 0, b8 0, b64 0, b8 0, b32 0, b8 0, b32 0, b32 0, b32 0, b32 0, (.d .nils), b8 0, b32 0, b32 0, b32 0, b32 0, b32 0, b32 0, b32 0, b32 0, b32 0, b64 0, b32 0, b8 0, b32 0, b8 0, b8 0, b32 0, b32 0, b8 0, b8 0, b64 0, b8 0, b32 0, b8 0, b32 0, b32 0, b32 0, b32 0, (.d .nils), b8 0, b32 0, b32 0, b32 0, b32 0, b32 0, b32 0, b32 0, b32 0, b32 0, b64 0, b32 0, b8 0, b32 0, b8 0, b8 0, b32 0, b32 0, b8 0, b8 0, b64 0, b8 0, b32 0, b8 0, b32 0, b32 0, b32 0, b32 0, (.d .nils), b8 0, b32 0, b32 0, b32 0, b32 0, b32 0, b32 0, b32 0, b32 0, b32 0, b64 0, b32 0, b8 0, b32 0, b8 0, b8 0, b32 0, b32 0, b8 0, b8 0, b64 0, b8 0, b32 0, b8 0, b32 0, b32 0, b32 0, b32 0, (.d .nils)] [(0, 29, (.t 5)), (29, 29, (.t 10)), (58, 29, (.t 15)), (87, 29, (.t 21)), (116, 29, (.t 27))]) ::
 M 0 28 :: []) 27)
.ret)))
def rv : List RV := [.tmp 0]
theorem enter : En Try.prog 58 29 s rv := En.mk (c := Try.f58.body.getD .ret) Try.func58 rfl (by kernel_rfl) (by kernel_rfl) (by kernel_rfl) (by kernel_rfl)
end law18_row
namespace revoke_Index_threats_1
abbrev f : Nat := 84
def s : SCo := (.seq
(.reg [J 8 (.load none (.t 1)),
 J 9 (.nilc (.t 8)),
 J 10 (.fld 2 (.t 9)),
 J 11 (.load none (.t 10)),
 J 12 (.fld 0 (.t 2)),
 J 13 (.load (some 2) (.t 12)),
 J 14 (.look [true, true] true (.d .nils) (.t 11) (.t 13) false),
 J 15 (.len (.t 14)),
 J 16 (.mv (Z 0))] [0,
1,
3,
7,
0,
16,
63,
127,
0] true)
(.block 0
(.loop
(.seq
(F [J 17 (.bin .lss (.t 16) (.t 15))] 1)
(.seq
(.cond (.t 17)
.skip
(.exit 0))
(.seq
(.block 1
(.seq
(F [J 18 (.idxS 2 (.t 14) (.t 16)),
 J 19 (.load (some 2) (.t 18)),
 J 5 (.alloc 31 [b8 0, b32 0]),
 N (.store 2 (.t 5) (.t 19))] 4)
(.seq
(.reg [J 20 (.load none (.t 1)),
 J 21 (.nilc (.t 20)),
 J 22 (.fld 3 (.t 21)),
 J 23 (.load none (.t 22)),
 J 24 (.load (some 2) (.t 5)),
 J 25 (.look [true, true] true (.d .nils) (.t 23) (.t 24) false),
 J 26 (.len (.t 25)),
 J 27 (.mv (Z 0))] [0,
1,
3,
7,
0,
31,
63,
0] true)
(.block 2
(.loop
(.seq
(F [J 28 (.bin .lss (.t 27) (.t 26))] 1)
(.seq
(.cond (.t 28)
.skip
(.exit 2))
(.seq
(.block 3
(.seq
(F [J 29 (.idxS 2 (.t 25) (.t 27)),
 J 30 (.load (some 2) (.t 29)),
 J 7 (.alloc 31 [b8 0, b32 0]),
 N (.store 2 (.t 7) (.t 30))] 4)
(.seq
(.reg [J 31 (.load (some 29) (.t 2)),
 J 32 (.load none (.t 1)),
 J 33 (.nilc (.t 32)),
 J 34 (.fld 1 (.t 33)),
 J 35 (.load none (.t 34)),
 J 36 (.load (some 2) (.t 7)),
 J 37 (.look [true, true] true (.agg z29) (.t 35) (.t 36) false),
 J 38 (.call (C 68) [(.t 31), (.t 37)]),
 J 39 (.not (.t 38)),
 M 40 39,
 G 41 0 40 true,
 H 42 (.load (some 2) (.t 7)) 40 true,
 H 43 (.call (.t 41) [(.t 42)]) 40 true,
 H 44 (.not (.t 43)) 40 true,
 J 45 (.pick (.t 40) (.t 44) (B false))] [0,
0,
2,
6,
14,
0,
62,
127,
255,
511,
1023,
1023,
4095,
8191,
16383] true)
(.cond (.t 45)
.ret
.skip))))
(F [J 46 (.bin .add (.t 27) (Z 1)),
 M 27 46] 2)))))))))
(F [J 47 (.bin .add (.t 16) (Z 1)),
 M 16 47] 2)))))))
def rv : List RV := []
theorem enter : En Try.prog 84 48 s rv := En.mk (c := Try.f84.body.getD .ret) Try.func84 rfl (by kernel_rfl) (by kernel_rfl) (by kernel_rfl) (by kernel_rfl)
end revoke_Index_threats_1
end Go.Proofs.Ytlgfknfdfnaedaa
