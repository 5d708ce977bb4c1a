/-
  The code of the functions in the small form, by program (gen.py); each is checked against the translation by the kernel.
-/
import Derived.Test.YtemghnbbmahaaaaDoorChecked
import Derived.Test.YtemghnbbmahaaaaDoorU7
set_option linter.unusedVariables false
set_option linter.unusedSimpArgs false
set_option linter.unusedSectionVars false
namespace Go.Proofs.YtemghnbbmahaaaaDoor
open Go.Sl Go.Sl.Co Go.Proofs
theorem mixed : Tryd.prog.follows .mixedOrders = true := by kernel_rfl
abbrev T_int : Nat := 3
abbrev T_bool : Nat := 4
abbrev T_L_api_Op : Nat := 22
abbrev T_uint32 : Nat := 28
abbrev T_api_Dot : Nat := 30
abbrev T_api_Vector : Nat := 32
abbrev T_L_api_Claim : Nat := 34
abbrev T_api_Op : Nat := 36
abbrev T_api_Claim : Nat := 74
abbrev T_func_uint32_uint32_uint32 : Nat := 110
namespace order_Compare
abbrev f : Nat := 12
def s : SCo := (.seq
(F [J 2 (.box 36 (.t 0)),
 J 3 (.box 36 (.t 1)),
 J 4 (.mv (Z 0))] 3)
(.seq
(.reg (J 5 (.fld 10 (.t 2)) ::
 J 6 (.load none (.t 5)) ::
 J 7 (.fld 10 (.t 3)) ::
 J 8 (.load none (.t 7)) ::
 J 9 (.call (C 34) [(.t 6), (.t 8)]) ::
 J 10 (.fld 0 (.t 2)) ::
 J 11 (.fld 0 (.t 10)) ::
 J 12 (.load none (.t 11)) ::
 J 13 (.fld 0 (.t 3)) ::
 J 14 (.fld 0 (.t 13)) ::
 J 15 (.load none (.t 14)) ::
 J 16 (.call (C 35) [(.t 12), (.t 15)]) ::
 J 17 (.fld 0 (.t 2)) ::
 J 18 (.fld 1 (.t 17)) ::
 J 19 (.load none (.t 18)) ::
 J 20 (.fld 0 (.t 3)) ::
 J 21 (.fld 1 (.t 20)) ::
 J 22 (.load none (.t 21)) ::
 J 23 (.call (C 36) [(.t 19), (.t 22)]) ::
 J 24 (.bsl 3 1 3 [i6 0, i6 0, i6 0] [(0, 1, (.t 9)), (1, 1, (.t 16)), (2, 1, (.t 23))]) ::
 J 25 (.call (C 33) [(.t 24)]) ::
 M 4 25 :: []) (0 ::
1 ::
0 ::
4 ::
15 ::
0 ::
32 ::
96 ::
0 ::
256 ::
768 ::
2047 ::
0 ::
4096 ::
12288 ::
0 ::
32768 ::
98304 ::
262143 ::
524287 ::
1048575 ::
2097151 :: []) true)
.ret))
def rv : List RV := [.tmp 4]
theorem enter : En Tryd.prog 12 26 s rv := En.mk (c := Tryd.f12.body.getD .ret) Tryd.func12 rfl (by kernel_rfl) (by kernel_rfl) (by kernel_rfl) (by kernel_rfl)
end order_Compare
namespace order_Sort
abbrev f : Nat := 13
def s : SCo := (.seq
(F [J 2 (.mv (.k (.d .nils)))] 1)
(.seq
(F [M 7 0,
 J 8 (.call (C 28) [(.t 7)]),
 J 3 (.alloc 54 [(.d .nils), (.d .nilm)]),
 N (.store 2 (.t 3) (.t 8))] 4)
(.seq
(F [J 4 (.mv (.k (.d .nils)))] 1)
(.seq
(.seq
(.reg [J 9 (.load (some 2) (.t 3)),
 J 10 (.call (C 38) [(.t 9)]),
 J 11 (.load (some 2) (.t 3)),
 J 12 (.mkf (.func 39) [(.t 11)] []),
 J 13 (.call (C 37) [(.t 10), (.t 12)]),
 J 14 (.len (.t 13)),
 J 15 (.mv (Z 0))] [0,
1,
0,
4,
15,
31,
0] true)
(.block 0
(.loop
(.seq
(F [J 16 (.bin .lss (.t 15) (.t 14))] 1)
(.seq
(.cond (.t 16)
.skip
(.exit 0))
(.seq
(.block 1
(.seq
(F [J 17 (.idxS 1 (.t 13) (.t 15)),
 J 18 (.load none (.t 17)),
 M 6 18] 3)
(F [M 19 4,
 M 20 0,
 M 21 6,
 J 22 (.idxS 29 (.t 20) (.t 21)),
 J 23 (.load (some 29) (.t 22)),
 J 24 (.bsl 36 29 1 z29 [(0, 29, (.t 23))]),
 J 25 (.app 36 29 144 (.t 19) (.t 24)),
 M 4 25] 8)))
(F [J 26 (.bin .add (.t 15) (Z 1)),
 M 15 26] 2)))))))
(.seq
(F [M 27 4,
 M 2 27] 2)
.ret)))))
def rv : List RV := [.tmp 2]
theorem enter : En Tryd.prog 13 28 s rv := En.mk (c := Tryd.f13.body.getD .ret) Tryd.func13 rfl (by kernel_rfl) (by kernel_rfl) (by kernel_rfl) (by kernel_rfl)
end order_Sort
namespace order_indexOf
abbrev f : Nat := 28
def s : SCo := (.seq
(F [J 2 (.alloc 54 [(.d .nils), (.d .nilm)])] 1)
(.seq
(F [M 8 0,
 J 9 (.mkm),
 J 10 (.bld [(.d .nils), (.d .nilm)] [(0, 1, (.t 8)), (1, 1, (.t 9))]),
 J 3 (.alloc 54 [(.d .nils), (.d .nilm)]),
 N (.store 2 (.t 3) (.t 10))] 5)
(.seq
(.seq
(F [M 11 0,
 J 12 (.len (.t 11)),
 J 13 (.mv (Z 0))] 3)
(.block 0
(.loop
(.seq
(F [J 14 (.bin .lss (.t 13) (.t 12))] 1)
(.seq
(.cond (.t 14)
.skip
(.exit 0))
(.seq
(.block 1
(.seq
(F [M 15 13,
 J 16 (.idxS 29 (.t 11) (.t 13)),
 J 17 (.load (some 29) (.t 16)),
 J 5 (.alloc 36 z29),
 M 4 15,
 N (.store 29 (.t 5) (.t 17))] 6)
(.seq
(F [J 19 (.fld 1 (.t 3)),
 J 20 (.load none (.t 19)),
 J 21 (.fld 0 (.t 5)),
 J 22 (.load (some 2) (.t 21)),
 J 23 (.look [true, true] true (i6 0) (.t 20) (.t 22) true),
 M 18 23,
 J 24 (.ext 0 (.t 18)),
 J 25 (.ext 1 (.t 18)),
 M 6 24,
 M 7 25] 10)
(.seq
(F [M 26 7,
 J 27 (.not (.t 26))] 2)
(.cond (.t 27)
(F [J 28 (.fld 1 (.t 3)),
 J 29 (.load none (.t 28)),
 J 30 (.fld 0 (.t 5)),
 J 31 (.load (some 2) (.t 30)),
 M 32 4,
 N (.mset [true, true] true (.t 29) (.t 31) (.t 32))] 6)
.skip)))))
(F [J 33 (.bin .add (.t 13) (Z 1)),
 M 13 33] 2)))))))
(.seq
(F [J 34 (.load (some 2) (.t 3)),
 N (.store 2 (.t 2) (.t 34))] 2)
.ret))))
def rv : List RV := [.cell 2 (some 2)]
theorem enter : En Tryd.prog 28 35 s rv := En.mk (c := Tryd.f28.body.getD .ret) Tryd.func28 rfl (by kernel_rfl) (by kernel_rfl) (by kernel_rfl) (by kernel_rfl)
end order_indexOf
namespace cmp_Or_int
abbrev f : Nat := 33
def s : SCo := (.seq
(F [J 2 (.mv (Z 0))] 1)
(.seq
(F [J 3 (.mv (Z 0))] 1)
(.seq
(.seq
(F [M 6 0,
 J 7 (.len (.t 6)),
 J 8 (.mv (Z 0))] 3)
(.block 0
(.loop
(.seq
(F [J 9 (.bin .lss (.t 8) (.t 7))] 1)
(.seq
(.cond (.t 9)
.skip
(.exit 0))
(.seq
(.block 1
(.seq
(F [J 10 (.idxS 1 (.t 6) (.t 8)),
 J 11 (.load none (.t 10)),
 M 5 11] 3)
(.seq
(F [M 12 5,
 M 13 3,
 J 14 (.bin .neq (.t 12) (.t 13))] 3)
(.cond (.t 14)
(.seq
(F [M 15 5,
 M 2 15] 2)
.ret)
.skip))))
(F [J 16 (.bin .add (.t 8) (Z 1)),
 M 8 16] 2)))))))
(.seq
(F [M 17 3,
 M 2 17] 2)
.ret))))
def rv : List RV := [.tmp 2]
theorem enter : En Tryd.prog 33 18 s rv := En.mk (c := Tryd.f33.body.getD .ret) Tryd.func33 rfl (by kernel_rfl) (by kernel_rfl) (by kernel_rfl) (by kernel_rfl)
end cmp_Or_int
namespace cmp_Compare_uint64
abbrev f : Nat := 34
def s : SCo := (.seq
(F [J 4 (.mv (Z 0))] 1)
(.seq
(F [M 7 0,
 J 8 (.call (C 54) [(.t 7)]),
 M 5 8] 3)
(.seq
(F [M 9 1,
 J 10 (.call (C 54) [(.t 9)]),
 M 6 10] 3)
(.seq
(.seq
(F [M 11 5] 1)
(.cond (.t 11)
(.seq
(.seq
(F [M 12 6] 1)
(.cond (.t 12)
(.seq
(F [J 4 (.mv (Z 0))] 1)
.ret)
.skip))
(.seq
(F [J 4 (.mv (.k (.d (.int .i64 (-1)))))] 1)
.ret))
.skip))
(.seq
(.seq
(F [M 13 6] 1)
(.cond (.t 13)
(.seq
(F [J 4 (.mv (Z 1))] 1)
.ret)
.skip))
(.seq
(.seq
(F [M 14 0,
 M 15 1,
 J 16 (.bin .lss (.t 14) (.t 15))] 3)
(.cond (.t 16)
(.seq
(F [J 4 (.mv (.k (.d (.int .i64 (-1)))))] 1)
.ret)
.skip))
(.seq
(.seq
(F [M 17 0,
 M 18 1,
 J 19 (.bin .gtr (.t 17) (.t 18))] 3)
(.cond (.t 19)
(.seq
(F [J 4 (.mv (Z 1))] 1)
.ret)
.skip))
(.seq
(F [J 4 (.mv (Z 0))] 1)
.ret))))))))
def rv : List RV := [.tmp 4]
theorem enter : En Tryd.prog 34 20 s rv := En.mk (c := Tryd.f34.body.getD .ret) Tryd.func34 rfl (by kernel_rfl) (by kernel_rfl) (by kernel_rfl) (by kernel_rfl)
end cmp_Compare_uint64
namespace cmp_Compare_uint8
abbrev f : Nat := 35
def s : SCo := (.seq
(F [J 4 (.mv (Z 0))] 1)
(.seq
(F [M 7 0,
 J 8 (.call (C 55) [(.t 7)]),
 M 5 8] 3)
(.seq
(F [M 9 1,
 J 10 (.call (C 55) [(.t 9)]),
 M 6 10] 3)
(.seq
(.seq
(F [M 11 5] 1)
(.cond (.t 11)
(.seq
(.seq
(F [M 12 6] 1)
(.cond (.t 12)
(.seq
(F [J 4 (.mv (Z 0))] 1)
.ret)
.skip))
(.seq
(F [J 4 (.mv (.k (.d (.int .i64 (-1)))))] 1)
.ret))
.skip))
(.seq
(.seq
(F [M 13 6] 1)
(.cond (.t 13)
(.seq
(F [J 4 (.mv (Z 1))] 1)
.ret)
.skip))
(.seq
(.seq
(F [M 14 0,
 M 15 1,
 J 16 (.bin .lss (.t 14) (.t 15))] 3)
(.cond (.t 16)
(.seq
(F [J 4 (.mv (.k (.d (.int .i64 (-1)))))] 1)
.ret)
.skip))
(.seq
(.seq
(F [M 17 0,
 M 18 1,
 J 19 (.bin .gtr (.t 17) (.t 18))] 3)
(.cond (.t 19)
(.seq
(F [J 4 (.mv (Z 1))] 1)
.ret)
.skip))
(.seq
(F [J 4 (.mv (Z 0))] 1)
.ret))))))))
def rv : List RV := [.tmp 4]
theorem enter : En Tryd.prog 35 20 s rv := En.mk (c := Tryd.f35.body.getD .ret) Tryd.func35 rfl (by kernel_rfl) (by kernel_rfl) (by kernel_rfl) (by kernel_rfl)
end cmp_Compare_uint8
namespace cmp_Compare_uint32
abbrev f : Nat := 36
def s : SCo := (.seq
(F [J 4 (.mv (Z 0))] 1)
(.seq
(F [M 7 0,
 J 8 (.call (C 56) [(.t 7)]),
 M 5 8] 3)
(.seq
(F [M 9 1,
 J 10 (.call (C 56) [(.t 9)]),
 M 6 10] 3)
(.seq
(.seq
(F [M 11 5] 1)
(.cond (.t 11)
(.seq
(.seq
(F [M 12 6] 1)
(.cond (.t 12)
(.seq
(F [J 4 (.mv (Z 0))] 1)
.ret)
.skip))
(.seq
(F [J 4 (.mv (.k (.d (.int .i64 (-1)))))] 1)
.ret))
.skip))
(.seq
(.seq
(F [M 13 6] 1)
(.cond (.t 13)
(.seq
(F [J 4 (.mv (Z 1))] 1)
.ret)
.skip))
(.seq
(.seq
(F [M 14 0,
 M 15 1,
 J 16 (.bin .lss (.t 14) (.t 15))] 3)
(.cond (.t 16)
(.seq
(F [J 4 (.mv (.k (.d (.int .i64 (-1)))))] 1)
.ret)
.skip))
(.seq
(.seq
(F [M 17 0,
 M 18 1,
 J 19 (.bin .gtr (.t 17) (.t 18))] 3)
(.cond (.t 19)
(.seq
(F [J 4 (.mv (Z 1))] 1)
.ret)
.skip))
(.seq
(F [J 4 (.mv (Z 0))] 1)
.ret))))))))
def rv : List RV := [.tmp 4]
theorem enter : En Tryd.prog 36 20 s rv := En.mk (c := Tryd.f36.body.getD .ret) Tryd.func36 rfl (by kernel_rfl) (by kernel_rfl) (by kernel_rfl) (by kernel_rfl)
end cmp_Compare_uint32
namespace slices_SortedFunc_int
abbrev f : Nat := 37
def s : SCo := (.seq
(F [J 4 (.mv (.k (.d .nils)))] 1)
(.seq
(F [M 6 0,
 J 7 (.call (C 57) [(.t 6)]),
 M 5 7] 3)
(.seq
(F [M 8 5,
 M 9 1,
 J 10 (.call (C 58) [(.t 8), (.t 9)])] 3)
(.seq
(F [M 11 5,
 M 4 11] 2)
.ret))))
def rv : List RV := [.tmp 4]
theorem enter : En Tryd.prog 37 12 s rv := En.mk (c := Tryd.f37.body.getD .ret) Tryd.func37 rfl (by kernel_rfl) (by kernel_rfl) (by kernel_rfl) (by kernel_rfl)
end slices_SortedFunc_int
namespace order_index_once
abbrev f : Nat := 38
def s : SCo := (.seq
(F [J 1 (.box 54 (.t 0)),
 J 2 (.mv (.k (.d .nilf)))] 2)
(.seq
(F [J 3 (.mkf (.func 59) [] [(.t 1)]),
 M 2 3] 2)
.ret))
def rv : List RV := [.tmp 2]
theorem enter : En Tryd.prog 38 4 s rv := En.mk (c := Tryd.f38.body.getD .ret) Tryd.func38 rfl (by kernel_rfl) (by kernel_rfl) (by kernel_rfl) (by kernel_rfl)
end order_index_once
namespace order_index_compare
abbrev f : Nat := 39
def s : SCo := (.seq
(F [J 3 (.box 54 (.t 0)),
 J 6 (.mv (Z 0))] 2)
(.seq
(.reg [J 7 (.fld 0 (.t 3)),
 J 8 (.load none (.t 7)),
 M 9 1,
 J 10 (.idxS 29 (.t 8) (.t 9)),
 J 11 (.load (some 29) (.t 10)),
 J 12 (.fld 0 (.t 3)),
 J 13 (.load none (.t 12)),
 M 14 2,
 J 15 (.idxS 29 (.t 13) (.t 14)),
 J 16 (.load (some 29) (.t 15)),
 J 17 (.call (C 12) [(.t 11), (.t 16)]),
 M 6 17] [0,
1,
0,
7,
15,
0,
32,
0,
224,
480,
1023,
2047] true)
.ret))
def rv : List RV := [.tmp 6]
theorem enter : En Tryd.prog 39 18 s rv := En.mk (c := Tryd.f39.body.getD .ret) Tryd.func39 rfl (by kernel_rfl) (by kernel_rfl) (by kernel_rfl) (by kernel_rfl)
end order_index_compare
namespace cmp_isNaN_uint64
abbrev f : Nat := 54
def s : SCo := (.seq
(F [J 2 (.mv (B false))] 1)
(.seq
(F [M 3 0,
 M 4 0,
 J 5 (.bin .neq (.t 3) (.t 4)),
 M 2 5] 4)
.ret))
def rv : List RV := [.tmp 2]
theorem enter : En Tryd.prog 54 6 s rv := En.mk (c := Tryd.f54.body.getD .ret) Tryd.func54 rfl (by kernel_rfl) (by kernel_rfl) (by kernel_rfl) (by kernel_rfl)
end cmp_isNaN_uint64
namespace cmp_isNaN_uint8
abbrev f : Nat := 55
def s : SCo := (.seq
(F [J 2 (.mv (B false))] 1)
(.seq
(F [M 3 0,
 M 4 0,
 J 5 (.bin .neq (.t 3) (.t 4)),
 M 2 5] 4)
.ret))
def rv : List RV := [.tmp 2]
theorem enter : En Tryd.prog 55 6 s rv := En.mk (c := Tryd.f55.body.getD .ret) Tryd.func55 rfl (by kernel_rfl) (by kernel_rfl) (by kernel_rfl) (by kernel_rfl)
end cmp_isNaN_uint8
namespace cmp_isNaN_uint32
abbrev f : Nat := 56
def s : SCo := (.seq
(F [J 2 (.mv (B false))] 1)
(.seq
(F [M 3 0,
 M 4 0,
 J 5 (.bin .neq (.t 3) (.t 4)),
 M 2 5] 4)
.ret))
def rv : List RV := [.tmp 2]
theorem enter : En Tryd.prog 56 6 s rv := En.mk (c := Tryd.f56.body.getD .ret) Tryd.func56 rfl (by kernel_rfl) (by kernel_rfl) (by kernel_rfl) (by kernel_rfl)
end cmp_isNaN_uint32
namespace slices_Collect_int
abbrev f : Nat := 57
def s : SCo := (.seq
(F [J 2 (.mv (.k (.d .nils)))] 1)
(.seq
(F [M 3 0,
 J 4 (.call (C 74) [(.k (.d .nils)), (.t 3)]),
 M 2 4] 3)
.ret))
def rv : List RV := [.tmp 2]
theorem enter : En Tryd.prog 57 5 s rv := En.mk (c := Tryd.f57.body.getD .ret) Tryd.func57 rfl (by kernel_rfl) (by kernel_rfl) (by kernel_rfl) (by kernel_rfl)
end slices_Collect_int
namespace slices_SortFunc_Lint_int
abbrev f : Nat := 58
def s : SCo := (.seq
(F [M 5 0,
 J 6 (.len (.t 5)),
 M 4 6] 3)
(F [M 7 0,
 M 8 4,
 M 9 4,
 J 10 (.conv .u64 (.t 9)),
 J 11 (.call (C 76) [(.t 10)]),
 M 12 1,
 J 13 (.call (C 75) [(.t 7), (Z 0), (.t 8), (.t 11), (.t 12)])] 7))
def rv : List RV := []
theorem enter : En Tryd.prog 58 14 s rv := En.mk (c := Tryd.f58.body.getD .ret) Tryd.func58 rfl (by kernel_rfl) (by kernel_rfl) (by kernel_rfl) (by kernel_rfl)
end slices_SortFunc_Lint_int
namespace order_index_once_1
abbrev f : Nat := 59
def s : SCo := (.seq
(F [J 5 (.fld 0 (.t 1)),
 J 6 (.load none (.t 5)),
 J 7 (.len (.t 6)),
 J 8 (.mv (Z 0))] 4)
(.block 0
(.loop
(.seq
(F [J 9 (.bin .lss (.t 8) (.t 7))] 1)
(.seq
(.cond (.t 9)
.skip
(.exit 0))
(.seq
(.block 1
(.seq
(F [M 10 8,
 J 11 (.idxS 29 (.t 6) (.t 8)),
 J 12 (.load (some 29) (.t 11)),
 J 4 (.alloc 36 z29),
 M 3 10,
 N (.store 29 (.t 4) (.t 12))] 6)
(.seq
(F [J 13 (.fld 1 (.t 1)),
 J 14 (.load none (.t 13)),
 J 15 (.fld 0 (.t 4)),
 J 16 (.load (some 2) (.t 15)),
 J 17 (.look [true, true] true (i6 0) (.t 14) (.t 16) false),
 M 18 3,
 J 19 (.bin .eql (.t 17) (.t 18)),
 M 20 19,
 G 21 0 20 true,
 G 22 3 20 true,
 H 23 (.call (.t 21) [(.t 22)]) 20 true,
 H 24 (.not (.t 23)) 20 true,
 J 25 (.pick (.t 20) (.t 24) (B false))] 13)
(.cond (.t 25)
.ret
.skip))))
(F [J 26 (.bin .add (.t 8) (Z 1)),
 M 8 26] 2)))))))
def rv : List RV := []
theorem enter : En Tryd.prog 59 27 s rv := En.mk (c := Tryd.f59.body.getD .ret) Tryd.func59 rfl (by kernel_rfl) (by kernel_rfl) (by kernel_rfl) (by kernel_rfl)
end order_index_once_1
namespace slices_AppendSeq_Lint_int
abbrev f : Nat := 74
def s : SCo := (.seq
(F [J 2 (.box 64 (.t 0)),
 J 4 (.mv (.k (.d .nils)))] 2)
(.seq
(.seq
(F [M 6 1] 1)
(.block 0
(.rfun (.t 6) [7]
(F [M 5 7] 1)
(.block 1
(F [J 8 (.load none (.t 2)),
 M 9 5,
 J 10 (.bsl 3 1 1 [i6 0] [(0, 1, (.t 9))]),
 J 11 (.app 3 1 8 (.t 8) (.t 10)),
 N (.store 1 (.t 2) (.t 11))] 5)))))
(.seq
(F [J 12 (.load none (.t 2)),
 M 4 12] 2)
.ret)))
def rv : List RV := [.tmp 4]
theorem enter : En Tryd.prog 74 13 s rv := En.mk (c := Tryd.f74.body.getD .ret) Tryd.func74 rfl (by kernel_rfl) (by kernel_rfl) (by kernel_rfl) (by kernel_rfl)
end slices_AppendSeq_Lint_int
namespace slices_pdqsortCmpFunc_int
abbrev f : Nat := 75
def s : SCo := (.seq
(F [J 10 (.mv (B true))] 1)
(.seq
(F [J 11 (.mv (B true))] 1)
(.block 0
(.loop
(.block 1
(.seq
(F [M 21 2,
 M 22 1,
 J 23 (.bin .sub (.t 21) (.t 22)),
 M 12 23] 4)
(.seq
(.seq
(F [M 24 12,
 J 25 (.bin .leq (.t 24) (Z 12))] 2)
(.cond (.t 25)
(.seq
(F [M 26 0,
 M 27 1,
 M 28 2,
 M 29 4,
 J 30 (.call (C 80) [(.t 26), (.t 27), (.t 28), (.t 29)])] 5)
.ret)
.skip))
(.seq
(.seq
(F [M 31 3,
 J 32 (.bin .eql (.t 31) (Z 0))] 2)
(.cond (.t 32)
(.seq
(F [M 33 0,
 M 34 1,
 M 35 2,
 M 36 4,
 J 37 (.call (C 81) [(.t 33), (.t 34), (.t 35), (.t 36)])] 5)
.ret)
.skip))
(.seq
(.seq
(F [M 38 10,
 J 39 (.not (.t 38))] 2)
(.cond (.t 39)
(.seq
(F [M 40 0,
 M 41 1,
 M 42 2,
 M 43 4,
 J 44 (.call (C 82) [(.t 40), (.t 41), (.t 42), (.t 43)])] 5)
(F [M 45 3,
 J 46 (.bin .sub (.t 45) (Z 1)),
 M 3 46] 3))
.skip))
(.seq
(F [M 48 0,
 M 49 1,
 M 50 2,
 M 51 4,
 J 52 (.call (C 83) [(.t 48), (.t 49), (.t 50), (.t 51)]),
 M 47 52,
 J 53 (.ext 0 (.t 47)),
 J 54 (.ext 1 (.t 47)),
 M 13 53,
 M 14 54] 10)
(.seq
(.seq
(F [M 55 14,
 J 56 (.bin .eql (.t 55) (Z 2))] 2)
(.cond (.t 56)
(.seq
(F [M 57 0,
 M 58 1,
 M 59 2,
 M 60 4,
 J 61 (.call (C 84) [(.t 57), (.t 58), (.t 59), (.t 60)])] 5)
(.seq
(F [M 62 2,
 J 63 (.bin .sub (.t 62) (Z 1)),
 M 64 13,
 M 65 1,
 J 66 (.bin .sub (.t 64) (.t 65)),
 J 67 (.bin .sub (.t 63) (.t 66)),
 M 13 67] 7)
(F [J 14 (.mv (Z 1))] 1)))
.skip))
(.seq
(.seq
(F [M 68 10,
 M 69 68,
 G 70 11 69 true,
 J 71 (.pick (.t 69) (.t 70) (B false)),
 M 72 71,
 G 73 14 72 true,
 H 74 (.bin .eql (.t 73) (Z 1)) 72 true,
 J 75 (.pick (.t 72) (.t 74) (B false))] 8)
(.cond (.t 75)
(.seq
(F [M 76 0,
 M 77 1,
 M 78 2,
 M 79 4,
 J 80 (.call (C 85) [(.t 76), (.t 77), (.t 78), (.t 79)])] 5)
(.cond (.t 80)
.ret
.skip))
.skip))
(.seq
(.seq
(.reg (M 81 1 ::
 J 82 (.bin .gtr (.t 81) (Z 0)) ::
 M 83 82 ::
 G 84 4 83 true ::
 G 85 0 83 true ::
 G 86 1 83 true ::
 H 87 (.bin .sub (.t 86) (Z 1)) 83 true ::
 H 88 (.idxS 1 (.t 85) (.t 87)) 83 true ::
 H 89 (.load none (.t 88)) 83 true ::
 G 90 0 83 true ::
 G 91 13 83 true ::
 H 92 (.idxS 1 (.t 90) (.t 91)) 83 true ::
 H 93 (.load none (.t 92)) 83 true ::
 H 94 (.call (.t 84) [(.t 89), (.t 93)]) 83 true ::
 H 95 (.bin .lss (.t 94) (Z 0)) 83 true ::
 H 96 (.not (.t 95)) 83 true ::
 J 97 (.pick (.t 83) (.t 96) (B false)) :: []) (0 ::
1 ::
3 ::
7 ::
7 ::
7 ::
39 ::
119 ::
247 ::
7 ::
7 ::
1543 ::
3591 ::
8191 ::
16383 ::
32767 ::
65535 :: []) true)
(.cond (.t 97)
(.seq
(F [M 98 0,
 M 99 1,
 M 100 2,
 M 101 13,
 M 102 4,
 J 103 (.call (C 86) [(.t 98), (.t 99), (.t 100), (.t 101), (.t 102)]),
 M 15 103] 7)
(.seq
(F [M 104 15,
 M 1 104] 2)
(.exit 1)))
.skip))
(.seq
(F [M 106 0,
 M 107 1,
 M 108 2,
 M 109 13,
 M 110 4,
 J 111 (.call (C 87) [(.t 106), (.t 107), (.t 108), (.t 109), (.t 110)]),
 M 105 111,
 J 112 (.ext 0 (.t 105)),
 J 113 (.ext 1 (.t 105)),
 M 16 112,
 M 17 113] 11)
(.seq
(F [M 114 17,
 M 11 114] 2)
(.seq
(F [M 115 16,
 M 116 1,
 J 117 (.bin .sub (.t 115) (.t 116)),
 M 118 2,
 M 119 16,
 J 120 (.bin .sub (.t 118) (.t 119)),
 M 18 117,
 M 19 120] 8)
(.seq
(F [M 121 12,
 J 122 (.bin .quo (.t 121) (Z 8)),
 M 20 122] 3)
(.seq
(F [M 123 18,
 M 124 19,
 J 125 (.bin .lss (.t 123) (.t 124))] 3)
(.cond (.t 125)
(.seq
(F [M 126 18,
 M 127 20,
 J 128 (.bin .geq (.t 126) (.t 127)),
 M 10 128] 4)
(.seq
(F [M 129 0,
 M 130 1,
 M 131 16,
 M 132 3,
 M 133 4,
 J 134 (.call (C 75) [(.t 129), (.t 130), (.t 131), (.t 132), (.t 133)])] 6)
(F [M 135 16,
 J 136 (.bin .add (.t 135) (Z 1)),
 M 1 136] 3)))
(.seq
(F [M 137 19,
 M 138 20,
 J 139 (.bin .geq (.t 137) (.t 138)),
 M 10 139] 4)
(.seq
(F [M 140 0,
 M 141 16,
 J 142 (.bin .add (.t 141) (Z 1)),
 M 143 2,
 M 144 3,
 M 145 4,
 J 146 (.call (C 75) [(.t 140), (.t 142), (.t 143), (.t 144), (.t 145)])] 7)
(F [M 147 16,
 M 2 147] 2))))))))))))))))))))))
def rv : List RV := []
theorem enter : En Tryd.prog 75 148 s rv := En.mk (c := Tryd.f75.body.getD .ret) Tryd.func75 rfl (by kernel_rfl) (by kernel_rfl) (by kernel_rfl) (by kernel_rfl)
end slices_pdqsortCmpFunc_int
namespace math_bits_Len
abbrev f : Nat := 76
def s : SCo := (.seq
(F [J 2 (.mv (Z 0))] 1)
(.seq
(.cond (B false)
(.seq
(F [M 3 0,
 J 4 (.conv .u32 (.t 3)),
 J 5 (.call (C 88) [(.t 4)]),
 M 2 5] 4)
.ret)
.skip)
(.seq
(F [M 6 0,
 J 7 (.call (C 89) [(.t 6)]),
 M 2 7] 3)
.ret)))
def rv : List RV := [.tmp 2]
theorem enter : En Tryd.prog 76 8 s rv := En.mk (c := Tryd.f76.body.getD .ret) Tryd.func76 rfl (by kernel_rfl) (by kernel_rfl) (by kernel_rfl) (by kernel_rfl)
end math_bits_Len
namespace slices_insertionSortCmpFunc_int
abbrev f : Nat := 80
def s : SCo := (.seq
(F [M 10 1,
 J 11 (.bin .add (.t 10) (Z 1)),
 M 8 11] 3)
(.block 0
(.loop
(.seq
(.seq
(F [M 12 8,
 M 13 2,
 J 14 (.bin .lss (.t 12) (.t 13))] 3)
(.cond (.t 14)
.skip
(.exit 0)))
(.seq
(.block 1
(.seq
(F [M 17 8,
 M 9 17] 2)
(.block 2
(.loop
(.seq
(.seq
(.reg (M 18 9 ::
 M 19 1 ::
 J 20 (.bin .gtr (.t 18) (.t 19)) ::
 M 21 20 ::
 G 22 3 21 true ::
 G 23 0 21 true ::
 G 24 9 21 true ::
 H 25 (.idxS 1 (.t 23) (.t 24)) 21 true ::
 H 26 (.load none (.t 25)) 21 true ::
 G 27 0 21 true ::
 G 28 9 21 true ::
 H 29 (.bin .sub (.t 28) (Z 1)) 21 true ::
 H 30 (.idxS 1 (.t 27) (.t 29)) 21 true ::
 H 31 (.load none (.t 30)) 21 true ::
 H 32 (.call (.t 22) [(.t 26), (.t 31)]) 21 true ::
 H 33 (.bin .lss (.t 32) (Z 0)) 21 true ::
 J 34 (.pick (.t 21) (.t 33) (B false)) :: []) (0 ::
0 ::
3 ::
7 ::
15 ::
15 ::
15 ::
111 ::
239 ::
15 ::
15 ::
1039 ::
3599 ::
7695 ::
16383 ::
32767 ::
65535 :: []) true)
(.cond (.t 34)
.skip
(.exit 2)))
(.seq
(.block 3
(.reg (M 37 0 ::
 M 38 9 ::
 M 39 0 ::
 M 40 9 ::
 J 41 (.bin .sub (.t 40) (Z 1)) ::
 M 42 0 ::
 M 43 9 ::
 J 44 (.bin .sub (.t 43) (Z 1)) ::
 J 45 (.idxS 1 (.t 42) (.t 44)) ::
 J 46 (.load none (.t 45)) ::
 M 47 0 ::
 M 48 9 ::
 J 49 (.idxS 1 (.t 47) (.t 48)) ::
 J 50 (.load none (.t 49)) ::
 J 51 (.idxS 1 (.t 37) (.t 38)) ::
 N (.store 1 (.t 51) (.t 46)) ::
 J 52 (.idxS 1 (.t 39) (.t 41)) ::
 N (.store 1 (.t 52) (.t 50)) :: []) (0 ::
0 ::
0 ::
0 ::
8 ::
0 ::
0 ::
64 ::
224 ::
480 ::
0 ::
0 ::
3072 ::
7168 ::
16355 ::
32739 ::
65535 ::
131071 :: []) true))
(F [M 35 9,
 J 36 (.bin .sub (.t 35) (Z 1)),
 M 9 36] 3)))))))
(F [M 15 8,
 J 16 (.bin .add (.t 15) (Z 1)),
 M 8 16] 3))))))
def rv : List RV := []
theorem enter : En Tryd.prog 80 53 s rv := En.mk (c := Tryd.f80.body.getD .ret) Tryd.func80 rfl (by kernel_rfl) (by kernel_rfl) (by kernel_rfl) (by kernel_rfl)
end slices_insertionSortCmpFunc_int
namespace slices_heapSortCmpFunc_int
abbrev f : Nat := 81
def s : SCo := (.seq
(F [M 13 1,
 M 8 13] 2)
(.seq
(F [J 9 (.mv (Z 0))] 1)
(.seq
(F [M 14 2,
 M 15 1,
 J 16 (.bin .sub (.t 14) (.t 15)),
 M 10 16] 4)
(.seq
(.seq
(F [M 17 10,
 J 18 (.bin .sub (.t 17) (Z 1)),
 J 19 (.bin .quo (.t 18) (Z 2)),
 M 11 19] 4)
(.block 0
(.loop
(.seq
(.seq
(F [M 20 11,
 J 21 (.bin .geq (.t 20) (Z 0))] 2)
(.cond (.t 21)
.skip
(.exit 0)))
(.seq
(.block 1
(F [M 24 0,
 M 25 11,
 M 26 10,
 M 27 8,
 M 28 3,
 J 29 (.call (C 91) [(.t 24), (.t 25), (.t 26), (.t 27), (.t 28)])] 6))
(F [M 22 11,
 J 23 (.bin .sub (.t 22) (Z 1)),
 M 11 23] 3))))))
(.seq
(F [M 30 10,
 J 31 (.bin .sub (.t 30) (Z 1)),
 M 12 31] 3)
(.block 2
(.loop
(.seq
(.seq
(F [M 32 12,
 J 33 (.bin .geq (.t 32) (Z 0))] 2)
(.cond (.t 33)
.skip
(.exit 2)))
(.seq
(.block 3
(.seq
(.reg (M 36 0 ::
 M 37 8 ::
 M 38 0 ::
 M 39 8 ::
 M 40 12 ::
 J 41 (.bin .add (.t 39) (.t 40)) ::
 M 42 0 ::
 M 43 8 ::
 M 44 12 ::
 J 45 (.bin .add (.t 43) (.t 44)) ::
 J 46 (.idxS 1 (.t 42) (.t 45)) ::
 J 47 (.load none (.t 46)) ::
 M 48 0 ::
 M 49 8 ::
 J 50 (.idxS 1 (.t 48) (.t 49)) ::
 J 51 (.load none (.t 50)) ::
 J 52 (.idxS 1 (.t 36) (.t 37)) ::
 N (.store 1 (.t 52) (.t 47)) ::
 J 53 (.idxS 1 (.t 38) (.t 41)) ::
 N (.store 1 (.t 53) (.t 51)) :: []) (0 ::
0 ::
0 ::
0 ::
0 ::
24 ::
0 ::
0 ::
0 ::
384 ::
960 ::
1984 ::
0 ::
0 ::
12288 ::
28672 ::
65475 ::
131011 ::
262143 ::
524287 :: []) true)
(F [M 54 0,
 M 55 9,
 M 56 12,
 M 57 8,
 M 58 3,
 J 59 (.call (C 91) [(.t 54), (.t 55), (.t 56), (.t 57), (.t 58)])] 6)))
(F [M 34 12,
 J 35 (.bin .sub (.t 34) (Z 1)),
 M 12 35] 3))))))))))
def rv : List RV := []
theorem enter : En Tryd.prog 81 60 s rv := En.mk (c := Tryd.f81.body.getD .ret) Tryd.func81 rfl (by kernel_rfl) (by kernel_rfl) (by kernel_rfl) (by kernel_rfl)
end slices_heapSortCmpFunc_int
namespace slices_breakPatternsCmpFunc_int
abbrev f : Nat := 82
def s : SCo := (.seq
(F [M 13 2,
 M 14 1,
 J 15 (.bin .sub (.t 13) (.t 14)),
 M 8 15] 4)
(.seq
(F [M 16 8,
 J 17 (.bin .geq (.t 16) (Z 8))] 2)
(.cond (.t 17)
(.seq
(F [M 18 8,
 J 19 (.conv .u64 (.t 18)),
 J 9 (.alloc 120 [b64 0]),
 N (.store 1 (.t 9) (.t 19))] 4)
(.seq
(F [M 20 8,
 J 21 (.call (C 92) [(.t 20)]),
 M 10 21] 3)
(.seq
(F [M 22 1,
 M 23 8,
 J 24 (.bin .quo (.t 23) (Z 4)),
 J 25 (.bin .mul (.t 24) (Z 2)),
 J 26 (.bin .add (.t 22) (.t 25)),
 J 27 (.bin .sub (.t 26) (Z 1)),
 M 11 27] 7)
(.block 0
(.loop
(.seq
(.seq
(F [M 28 11,
 M 29 1,
 M 30 8,
 J 31 (.bin .quo (.t 30) (Z 4)),
 J 32 (.bin .mul (.t 31) (Z 2)),
 J 33 (.bin .add (.t 29) (.t 32)),
 J 34 (.bin .add (.t 33) (Z 1)),
 J 35 (.bin .leq (.t 28) (.t 34))] 8)
(.cond (.t 35)
.skip
(.exit 0)))
(.seq
(.block 1
(.seq
(F [J 38 (.call (C 93) [(.t 9)]),
 M 39 10,
 J 40 (.bin .sub (.t 39) (.k (b64 1))),
 J 41 (.bin .and (.t 38) (.t 40)),
 J 42 (.conv .i64 (.t 41)),
 M 12 42] 6)
(.seq
(.seq
(F [M 43 12,
 M 44 8,
 J 45 (.bin .geq (.t 43) (.t 44))] 3)
(.cond (.t 45)
(F [M 46 12,
 M 47 8,
 J 48 (.bin .sub (.t 46) (.t 47)),
 M 12 48] 4)
.skip))
(.reg (M 49 0 ::
 M 50 11 ::
 M 51 0 ::
 M 52 1 ::
 M 53 12 ::
 J 54 (.bin .add (.t 52) (.t 53)) ::
 M 55 0 ::
 M 56 1 ::
 M 57 12 ::
 J 58 (.bin .add (.t 56) (.t 57)) ::
 J 59 (.idxS 1 (.t 55) (.t 58)) ::
 J 60 (.load none (.t 59)) ::
 M 61 0 ::
 M 62 11 ::
 J 63 (.idxS 1 (.t 61) (.t 62)) ::
 J 64 (.load none (.t 63)) ::
 J 65 (.idxS 1 (.t 49) (.t 50)) ::
 N (.store 1 (.t 65) (.t 60)) ::
 J 66 (.idxS 1 (.t 51) (.t 54)) ::
 N (.store 1 (.t 66) (.t 64)) :: []) (0 ::
0 ::
0 ::
0 ::
0 ::
24 ::
0 ::
0 ::
0 ::
384 ::
960 ::
1984 ::
0 ::
0 ::
12288 ::
28672 ::
65475 ::
131011 ::
262143 ::
524287 :: []) true))))
(F [M 36 11,
 J 37 (.bin .add (.t 36) (Z 1)),
 M 11 37] 3))))))))
.skip)))
def rv : List RV := []
theorem enter : En Tryd.prog 82 67 s rv := En.mk (c := Tryd.f82.body.getD .ret) Tryd.func82 rfl (by kernel_rfl) (by kernel_rfl) (by kernel_rfl) (by kernel_rfl)
end slices_breakPatternsCmpFunc_int
namespace slices_choosePivotCmpFunc_int
abbrev f : Nat := 83
def s : SCo := (.seq
(F [J 8 (.mv (Z 0)),
 J 9 (.mv (Z 0))] 2)
(.seq
(F [M 15 2,
 M 16 1,
 J 17 (.bin .sub (.t 15) (.t 16)),
 M 10 17] 4)
(.seq
(F [J 11 (.alloc 3 [i6 0])] 1)
(.seq
(F [M 18 1,
 M 19 10,
 J 20 (.bin .quo (.t 19) (Z 4)),
 J 21 (.bin .mul (.t 20) (Z 1)),
 J 22 (.bin .add (.t 18) (.t 21)),
 M 12 22] 6)
(.seq
(F [M 23 1,
 M 24 10,
 J 25 (.bin .quo (.t 24) (Z 4)),
 J 26 (.bin .mul (.t 25) (Z 2)),
 J 27 (.bin .add (.t 23) (.t 26)),
 M 13 27] 6)
(.seq
(F [M 28 1,
 M 29 10,
 J 30 (.bin .quo (.t 29) (Z 4)),
 J 31 (.bin .mul (.t 30) (Z 3)),
 J 32 (.bin .add (.t 28) (.t 31)),
 M 14 32] 6)
(.seq
(.seq
(F [M 33 10,
 J 34 (.bin .geq (.t 33) (Z 8))] 2)
(.cond (.t 34)
(.seq
(.seq
(F [M 35 10,
 J 36 (.bin .geq (.t 35) (Z 50))] 2)
(.cond (.t 36)
(.seq
(F [M 37 0,
 M 38 12,
 M 39 3,
 J 40 (.call (C 94) [(.t 37), (.t 38), (.t 11), (.t 39)]),
 M 12 40] 5)
(.seq
(F [M 41 0,
 M 42 13,
 M 43 3,
 J 44 (.call (C 94) [(.t 41), (.t 42), (.t 11), (.t 43)]),
 M 13 44] 5)
(F [M 45 0,
 M 46 14,
 M 47 3,
 J 48 (.call (C 94) [(.t 45), (.t 46), (.t 11), (.t 47)]),
 M 14 48] 5)))
.skip))
(F [M 49 0,
 M 50 12,
 M 51 13,
 M 52 14,
 M 53 3,
 J 54 (.call (C 95) [(.t 49), (.t 50), (.t 51), (.t 52), (.t 11), (.t 53)]),
 M 13 54] 7))
.skip))
(.seq
(F [J 55 (.load none (.t 11))] 1)
(.block 0
(.seq
(F [J 58 (.bin .eql (.t 55) (Z 0)),
 M 57 58] 2)
(.cond (.t 57)
(.seq
(F [M 59 13,
 M 8 59,
 J 9 (.mv (Z 1))] 3)
.ret)
(.seq
(F [J 61 (.bin .eql (.t 55) (Z 12)),
 M 60 61] 2)
(.cond (.t 60)
(.seq
(F [M 62 13,
 M 8 62,
 J 9 (.mv (Z 2))] 3)
.ret)
(.seq
(F [M 56 13,
 M 8 56,
 J 9 (.mv (Z 0))] 3)
.ret))))))))))))))
def rv : List RV := [.tmp 8, .tmp 9]
theorem enter : En Tryd.prog 83 63 s rv := En.mk (c := Tryd.f83.body.getD .ret) Tryd.func83 rfl (by kernel_rfl) (by kernel_rfl) (by kernel_rfl) (by kernel_rfl)
end slices_choosePivotCmpFunc_int
namespace slices_reverseRangeCmpFunc_int
abbrev f : Nat := 84
def s : SCo := (.seq
(F [M 10 1,
 M 8 10] 2)
(.seq
(F [M 11 2,
 J 12 (.bin .sub (.t 11) (Z 1)),
 M 9 12] 3)
(.block 0
(.loop
(.seq
(.seq
(F [M 13 8,
 M 14 9,
 J 15 (.bin .lss (.t 13) (.t 14))] 3)
(.cond (.t 15)
.skip
(.exit 0)))
(.block 1
(.seq
(.reg (M 16 0 ::
 M 17 8 ::
 M 18 0 ::
 M 19 9 ::
 M 20 0 ::
 M 21 9 ::
 J 22 (.idxS 1 (.t 20) (.t 21)) ::
 J 23 (.load none (.t 22)) ::
 M 24 0 ::
 M 25 8 ::
 J 26 (.idxS 1 (.t 24) (.t 25)) ::
 J 27 (.load none (.t 26)) ::
 J 28 (.idxS 1 (.t 16) (.t 17)) ::
 N (.store 1 (.t 28) (.t 23)) ::
 J 29 (.idxS 1 (.t 18) (.t 19)) ::
 N (.store 1 (.t 29) (.t 27)) :: []) (0 ::
0 ::
0 ::
0 ::
0 ::
0 ::
48 ::
112 ::
0 ::
0 ::
768 ::
1792 ::
4083 ::
8179 ::
16383 ::
32767 :: []) true)
(.seq
(F [M 30 8,
 J 31 (.bin .add (.t 30) (Z 1)),
 M 8 31] 3)
(F [M 32 9,
 J 33 (.bin .sub (.t 32) (Z 1)),
 M 9 33] 3)))))))))
def rv : List RV := []
theorem enter : En Tryd.prog 84 34 s rv := En.mk (c := Tryd.f84.body.getD .ret) Tryd.func84 rfl (by kernel_rfl) (by kernel_rfl) (by kernel_rfl) (by kernel_rfl)
end slices_reverseRangeCmpFunc_int
namespace slices_partialInsertionSortCmpFunc_int
abbrev f : Nat := 85
def s : SCo := (.seq
(F [J 8 (.mv (B false))] 1)
(.seq
(F [M 13 1,
 J 14 (.bin .add (.t 13) (Z 1)),
 M 9 14] 3)
(.seq
(.seq
(F [J 10 (.mv (Z 0))] 1)
(.block 0
(.loop
(.seq
(.seq
(F [M 15 10,
 J 16 (.bin .lss (.t 15) (Z 5))] 2)
(.cond (.t 16)
.skip
(.exit 0)))
(.seq
(.block 1
(.seq
(.block 2
(.loop
(.seq
(.seq
(.reg (M 19 9 ::
 M 20 2 ::
 J 21 (.bin .lss (.t 19) (.t 20)) ::
 M 22 21 ::
 G 23 3 22 true ::
 G 24 0 22 true ::
 G 25 9 22 true ::
 H 26 (.idxS 1 (.t 24) (.t 25)) 22 true ::
 H 27 (.load none (.t 26)) 22 true ::
 G 28 0 22 true ::
 G 29 9 22 true ::
 H 30 (.bin .sub (.t 29) (Z 1)) 22 true ::
 H 31 (.idxS 1 (.t 28) (.t 30)) 22 true ::
 H 32 (.load none (.t 31)) 22 true ::
 H 33 (.call (.t 23) [(.t 27), (.t 32)]) 22 true ::
 H 34 (.bin .lss (.t 33) (Z 0)) 22 true ::
 H 35 (.not (.t 34)) 22 true ::
 J 36 (.pick (.t 22) (.t 35) (B false)) :: []) (0 ::
0 ::
3 ::
7 ::
15 ::
15 ::
15 ::
111 ::
239 ::
15 ::
15 ::
1039 ::
3599 ::
7695 ::
16383 ::
32767 ::
65535 ::
131071 :: []) true)
(.cond (.t 36)
.skip
(.exit 2)))
(.block 3
(F [M 37 9,
 J 38 (.bin .add (.t 37) (Z 1)),
 M 9 38] 3)))))
(.seq
(.seq
(F [M 39 9,
 M 40 2,
 J 41 (.bin .eql (.t 39) (.t 40))] 3)
(.cond (.t 41)
(.seq
(F [J 8 (.mv (B true))] 1)
.ret)
.skip))
(.seq
(.seq
(F [M 42 2,
 M 43 1,
 J 44 (.bin .sub (.t 42) (.t 43)),
 J 45 (.bin .lss (.t 44) (Z 50))] 4)
(.cond (.t 45)
(.seq
(F [J 8 (.mv (B false))] 1)
.ret)
.skip))
(.seq
(.reg (M 46 0 ::
 M 47 9 ::
 M 48 0 ::
 M 49 9 ::
 J 50 (.bin .sub (.t 49) (Z 1)) ::
 M 51 0 ::
 M 52 9 ::
 J 53 (.bin .sub (.t 52) (Z 1)) ::
 J 54 (.idxS 1 (.t 51) (.t 53)) ::
 J 55 (.load none (.t 54)) ::
 M 56 0 ::
 M 57 9 ::
 J 58 (.idxS 1 (.t 56) (.t 57)) ::
 J 59 (.load none (.t 58)) ::
 J 60 (.idxS 1 (.t 46) (.t 47)) ::
 N (.store 1 (.t 60) (.t 55)) ::
 J 61 (.idxS 1 (.t 48) (.t 50)) ::
 N (.store 1 (.t 61) (.t 59)) :: []) (0 ::
0 ::
0 ::
0 ::
8 ::
0 ::
0 ::
64 ::
224 ::
480 ::
0 ::
0 ::
3072 ::
7168 ::
16355 ::
32739 ::
65535 ::
131071 :: []) true)
(.seq
(.seq
(F [M 62 9,
 M 63 1,
 J 64 (.bin .sub (.t 62) (.t 63)),
 J 65 (.bin .geq (.t 64) (Z 2))] 4)
(.cond (.t 65)
(.seq
(F [M 66 9,
 J 67 (.bin .sub (.t 66) (Z 1)),
 M 11 67] 3)
(.block 4
(.loop
(.seq
(.seq
(F [M 68 11,
 J 69 (.bin .geq (.t 68) (Z 1))] 2)
(.cond (.t 69)
.skip
(.exit 4)))
(.seq
(.block 5
(.seq
(.seq
(.reg [M 72 3,
 M 73 0,
 M 74 11,
 J 75 (.idxS 1 (.t 73) (.t 74)),
 J 76 (.load none (.t 75)),
 M 77 0,
 M 78 11,
 J 79 (.bin .sub (.t 78) (Z 1)),
 J 80 (.idxS 1 (.t 77) (.t 79)),
 J 81 (.load none (.t 80)),
 J 82 (.call (.t 72) [(.t 76), (.t 81)]),
 J 83 (.bin .lss (.t 82) (Z 0)),
 J 84 (.not (.t 83))] [0,
0,
0,
6,
14,
0,
0,
64,
224,
480,
1023,
2047,
4095] true)
(.cond (.t 84)
(.exit 4)
.skip))
(.reg (M 85 0 ::
 M 86 11 ::
 M 87 0 ::
 M 88 11 ::
 J 89 (.bin .sub (.t 88) (Z 1)) ::
 M 90 0 ::
 M 91 11 ::
 J 92 (.bin .sub (.t 91) (Z 1)) ::
 J 93 (.idxS 1 (.t 90) (.t 92)) ::
 J 94 (.load none (.t 93)) ::
 M 95 0 ::
 M 96 11 ::
 J 97 (.idxS 1 (.t 95) (.t 96)) ::
 J 98 (.load none (.t 97)) ::
 J 99 (.idxS 1 (.t 85) (.t 86)) ::
 N (.store 1 (.t 99) (.t 94)) ::
 J 100 (.idxS 1 (.t 87) (.t 89)) ::
 N (.store 1 (.t 100) (.t 98)) :: []) (0 ::
0 ::
0 ::
0 ::
8 ::
0 ::
0 ::
64 ::
224 ::
480 ::
0 ::
0 ::
3072 ::
7168 ::
16355 ::
32739 ::
65535 ::
131071 :: []) true)))
(F [M 70 11,
 J 71 (.bin .sub (.t 70) (Z 1)),
 M 11 71] 3))))))
.skip))
(.seq
(F [M 101 2,
 M 102 9,
 J 103 (.bin .sub (.t 101) (.t 102)),
 J 104 (.bin .geq (.t 103) (Z 2))] 4)
(.cond (.t 104)
(.seq
(F [M 105 9,
 J 106 (.bin .add (.t 105) (Z 1)),
 M 12 106] 3)
(.block 6
(.loop
(.seq
(.seq
(F [M 107 12,
 M 108 2,
 J 109 (.bin .lss (.t 107) (.t 108))] 3)
(.cond (.t 109)
.skip
(.exit 6)))
(.seq
(.block 7
(.seq
(.seq
(.reg [M 112 3,
 M 113 0,
 M 114 12,
 J 115 (.idxS 1 (.t 113) (.t 114)),
 J 116 (.load none (.t 115)),
 M 117 0,
 M 118 12,
 J 119 (.bin .sub (.t 118) (Z 1)),
 J 120 (.idxS 1 (.t 117) (.t 119)),
 J 121 (.load none (.t 120)),
 J 122 (.call (.t 112) [(.t 116), (.t 121)]),
 J 123 (.bin .lss (.t 122) (Z 0)),
 J 124 (.not (.t 123))] [0,
0,
0,
6,
14,
0,
0,
64,
224,
480,
1023,
2047,
4095] true)
(.cond (.t 124)
(.exit 6)
.skip))
(.reg (M 125 0 ::
 M 126 12 ::
 M 127 0 ::
 M 128 12 ::
 J 129 (.bin .sub (.t 128) (Z 1)) ::
 M 130 0 ::
 M 131 12 ::
 J 132 (.bin .sub (.t 131) (Z 1)) ::
 J 133 (.idxS 1 (.t 130) (.t 132)) ::
 J 134 (.load none (.t 133)) ::
 M 135 0 ::
 M 136 12 ::
 J 137 (.idxS 1 (.t 135) (.t 136)) ::
 J 138 (.load none (.t 137)) ::
 J 139 (.idxS 1 (.t 125) (.t 126)) ::
 N (.store 1 (.t 139) (.t 134)) ::
 J 140 (.idxS 1 (.t 127) (.t 129)) ::
 N (.store 1 (.t 140) (.t 138)) :: []) (0 ::
0 ::
0 ::
0 ::
8 ::
0 ::
0 ::
64 ::
224 ::
480 ::
0 ::
0 ::
3072 ::
7168 ::
16355 ::
32739 ::
65535 ::
131071 :: []) true)))
(F [M 110 12,
 J 111 (.bin .add (.t 110) (Z 1)),
 M 12 111] 3))))))
.skip))))))))
(F [M 17 10,
 J 18 (.bin .add (.t 17) (Z 1)),
 M 10 18] 3))))))
(.seq
(F [J 8 (.mv (B false))] 1)
.ret))))
def rv : List RV := [.tmp 8]
theorem enter : En Tryd.prog 85 141 s rv := En.mk (c := Tryd.f85.body.getD .ret) Tryd.func85 rfl (by kernel_rfl) (by kernel_rfl) (by kernel_rfl) (by kernel_rfl)
end slices_partialInsertionSortCmpFunc_int
namespace slices_partitionCmpFunc_int
abbrev f : Nat := 87
def s : SCo := (.seq
(F [J 10 (.mv (Z 0)),
 J 11 (.mv (B false))] 2)
(.seq
(.reg (M 14 0 ::
 M 15 1 ::
 M 16 0 ::
 M 17 3 ::
 M 18 0 ::
 M 19 3 ::
 J 20 (.idxS 1 (.t 18) (.t 19)) ::
 J 21 (.load none (.t 20)) ::
 M 22 0 ::
 M 23 1 ::
 J 24 (.idxS 1 (.t 22) (.t 23)) ::
 J 25 (.load none (.t 24)) ::
 J 26 (.idxS 1 (.t 14) (.t 15)) ::
 N (.store 1 (.t 26) (.t 21)) ::
 J 27 (.idxS 1 (.t 16) (.t 17)) ::
 N (.store 1 (.t 27) (.t 25)) :: []) (0 ::
0 ::
0 ::
0 ::
0 ::
0 ::
48 ::
112 ::
0 ::
0 ::
768 ::
1792 ::
4083 ::
8179 ::
16383 ::
32767 :: []) true)
(.seq
(F [M 28 1,
 J 29 (.bin .add (.t 28) (Z 1)),
 M 30 2,
 J 31 (.bin .sub (.t 30) (Z 1)),
 M 12 29,
 M 13 31] 6)
(.seq
(.block 0
(.loop
(.seq
(.seq
(.reg (M 32 12 ::
 M 33 13 ::
 J 34 (.bin .leq (.t 32) (.t 33)) ::
 M 35 34 ::
 G 36 4 35 true ::
 G 37 0 35 true ::
 G 38 12 35 true ::
 H 39 (.idxS 1 (.t 37) (.t 38)) 35 true ::
 H 40 (.load none (.t 39)) 35 true ::
 G 41 0 35 true ::
 G 42 1 35 true ::
 H 43 (.idxS 1 (.t 41) (.t 42)) 35 true ::
 H 44 (.load none (.t 43)) 35 true ::
 H 45 (.call (.t 36) [(.t 40), (.t 44)]) 35 true ::
 H 46 (.bin .lss (.t 45) (Z 0)) 35 true ::
 J 47 (.pick (.t 35) (.t 46) (B false)) :: []) (0 ::
0 ::
3 ::
7 ::
15 ::
15 ::
15 ::
111 ::
239 ::
15 ::
15 ::
1551 ::
3599 ::
8191 ::
16383 ::
32767 :: []) true)
(.cond (.t 47)
.skip
(.exit 0)))
(.block 1
(F [M 48 12,
 J 49 (.bin .add (.t 48) (Z 1)),
 M 12 49] 3)))))
(.seq
(.block 2
(.loop
(.seq
(.seq
(.reg (M 50 12 ::
 M 51 13 ::
 J 52 (.bin .leq (.t 50) (.t 51)) ::
 M 53 52 ::
 G 54 4 53 true ::
 G 55 0 53 true ::
 G 56 13 53 true ::
 H 57 (.idxS 1 (.t 55) (.t 56)) 53 true ::
 H 58 (.load none (.t 57)) 53 true ::
 G 59 0 53 true ::
 G 60 1 53 true ::
 H 61 (.idxS 1 (.t 59) (.t 60)) 53 true ::
 H 62 (.load none (.t 61)) 53 true ::
 H 63 (.call (.t 54) [(.t 58), (.t 62)]) 53 true ::
 H 64 (.bin .lss (.t 63) (Z 0)) 53 true ::
 H 65 (.not (.t 64)) 53 true ::
 J 66 (.pick (.t 53) (.t 65) (B false)) :: []) (0 ::
0 ::
3 ::
7 ::
15 ::
15 ::
15 ::
111 ::
239 ::
15 ::
15 ::
1551 ::
3599 ::
8191 ::
16383 ::
32767 ::
65535 :: []) true)
(.cond (.t 66)
.skip
(.exit 2)))
(.block 3
(F [M 67 13,
 J 68 (.bin .sub (.t 67) (Z 1)),
 M 13 68] 3)))))
(.seq
(.seq
(F [M 69 12,
 M 70 13,
 J 71 (.bin .gtr (.t 69) (.t 70))] 3)
(.cond (.t 71)
(.seq
(.reg (M 72 0 ::
 M 73 13 ::
 M 74 0 ::
 M 75 1 ::
 M 76 0 ::
 M 77 1 ::
 J 78 (.idxS 1 (.t 76) (.t 77)) ::
 J 79 (.load none (.t 78)) ::
 M 80 0 ::
 M 81 13 ::
 J 82 (.idxS 1 (.t 80) (.t 81)) ::
 J 83 (.load none (.t 82)) ::
 J 84 (.idxS 1 (.t 72) (.t 73)) ::
 N (.store 1 (.t 84) (.t 79)) ::
 J 85 (.idxS 1 (.t 74) (.t 75)) ::
 N (.store 1 (.t 85) (.t 83)) :: []) (0 ::
0 ::
0 ::
0 ::
0 ::
0 ::
48 ::
112 ::
0 ::
0 ::
768 ::
1792 ::
4083 ::
8179 ::
16383 ::
32767 :: []) true)
(.seq
(F [M 86 13,
 M 10 86,
 J 11 (.mv (B true))] 3)
.ret))
.skip))
(.seq
(.reg (M 87 0 ::
 M 88 12 ::
 M 89 0 ::
 M 90 13 ::
 M 91 0 ::
 M 92 13 ::
 J 93 (.idxS 1 (.t 91) (.t 92)) ::
 J 94 (.load none (.t 93)) ::
 M 95 0 ::
 M 96 12 ::
 J 97 (.idxS 1 (.t 95) (.t 96)) ::
 J 98 (.load none (.t 97)) ::
 J 99 (.idxS 1 (.t 87) (.t 88)) ::
 N (.store 1 (.t 99) (.t 94)) ::
 J 100 (.idxS 1 (.t 89) (.t 90)) ::
 N (.store 1 (.t 100) (.t 98)) :: []) (0 ::
0 ::
0 ::
0 ::
0 ::
0 ::
48 ::
112 ::
0 ::
0 ::
768 ::
1792 ::
4083 ::
8179 ::
16383 ::
32767 :: []) true)
(.seq
(F [M 101 12,
 J 102 (.bin .add (.t 101) (Z 1)),
 M 12 102] 3)
(.seq
(F [M 103 13,
 J 104 (.bin .sub (.t 103) (Z 1)),
 M 13 104] 3)
(.seq
(.block 4
(.loop
(.block 5
(.seq
(.block 6
(.loop
(.seq
(.seq
(.reg (M 105 12 ::
 M 106 13 ::
 J 107 (.bin .leq (.t 105) (.t 106)) ::
 M 108 107 ::
 G 109 4 108 true ::
 G 110 0 108 true ::
 G 111 12 108 true ::
 H 112 (.idxS 1 (.t 110) (.t 111)) 108 true ::
 H 113 (.load none (.t 112)) 108 true ::
 G 114 0 108 true ::
 G 115 1 108 true ::
 H 116 (.idxS 1 (.t 114) (.t 115)) 108 true ::
 H 117 (.load none (.t 116)) 108 true ::
 H 118 (.call (.t 109) [(.t 113), (.t 117)]) 108 true ::
 H 119 (.bin .lss (.t 118) (Z 0)) 108 true ::
 J 120 (.pick (.t 108) (.t 119) (B false)) :: []) (0 ::
0 ::
3 ::
7 ::
15 ::
15 ::
15 ::
111 ::
239 ::
15 ::
15 ::
1551 ::
3599 ::
8191 ::
16383 ::
32767 :: []) true)
(.cond (.t 120)
.skip
(.exit 6)))
(.block 7
(F [M 121 12,
 J 122 (.bin .add (.t 121) (Z 1)),
 M 12 122] 3)))))
(.seq
(.block 8
(.loop
(.seq
(.seq
(.reg (M 123 12 ::
 M 124 13 ::
 J 125 (.bin .leq (.t 123) (.t 124)) ::
 M 126 125 ::
 G 127 4 126 true ::
 G 128 0 126 true ::
 G 129 13 126 true ::
 H 130 (.idxS 1 (.t 128) (.t 129)) 126 true ::
 H 131 (.load none (.t 130)) 126 true ::
 G 132 0 126 true ::
 G 133 1 126 true ::
 H 134 (.idxS 1 (.t 132) (.t 133)) 126 true ::
 H 135 (.load none (.t 134)) 126 true ::
 H 136 (.call (.t 127) [(.t 131), (.t 135)]) 126 true ::
 H 137 (.bin .lss (.t 136) (Z 0)) 126 true ::
 H 138 (.not (.t 137)) 126 true ::
 J 139 (.pick (.t 126) (.t 138) (B false)) :: []) (0 ::
0 ::
3 ::
7 ::
15 ::
15 ::
15 ::
111 ::
239 ::
15 ::
15 ::
1551 ::
3599 ::
8191 ::
16383 ::
32767 ::
65535 :: []) true)
(.cond (.t 139)
.skip
(.exit 8)))
(.block 9
(F [M 140 13,
 J 141 (.bin .sub (.t 140) (Z 1)),
 M 13 141] 3)))))
(.seq
(.seq
(F [M 142 12,
 M 143 13,
 J 144 (.bin .gtr (.t 142) (.t 143))] 3)
(.cond (.t 144)
(.exit 4)
.skip))
(.seq
(.reg (M 145 0 ::
 M 146 12 ::
 M 147 0 ::
 M 148 13 ::
 M 149 0 ::
 M 150 13 ::
 J 151 (.idxS 1 (.t 149) (.t 150)) ::
 J 152 (.load none (.t 151)) ::
 M 153 0 ::
 M 154 12 ::
 J 155 (.idxS 1 (.t 153) (.t 154)) ::
 J 156 (.load none (.t 155)) ::
 J 157 (.idxS 1 (.t 145) (.t 146)) ::
 N (.store 1 (.t 157) (.t 152)) ::
 J 158 (.idxS 1 (.t 147) (.t 148)) ::
 N (.store 1 (.t 158) (.t 156)) :: []) (0 ::
0 ::
0 ::
0 ::
0 ::
0 ::
48 ::
112 ::
0 ::
0 ::
768 ::
1792 ::
4083 ::
8179 ::
16383 ::
32767 :: []) true)
(.seq
(F [M 159 12,
 J 160 (.bin .add (.t 159) (Z 1)),
 M 12 160] 3)
(F [M 161 13,
 J 162 (.bin .sub (.t 161) (Z 1)),
 M 13 162] 3)))))))))
(.seq
(.reg (M 163 0 ::
 M 164 13 ::
 M 165 0 ::
 M 166 1 ::
 M 167 0 ::
 M 168 1 ::
 J 169 (.idxS 1 (.t 167) (.t 168)) ::
 J 170 (.load none (.t 169)) ::
 M 171 0 ::
 M 172 13 ::
 J 173 (.idxS 1 (.t 171) (.t 172)) ::
 J 174 (.load none (.t 173)) ::
 J 175 (.idxS 1 (.t 163) (.t 164)) ::
 N (.store 1 (.t 175) (.t 170)) ::
 J 176 (.idxS 1 (.t 165) (.t 166)) ::
 N (.store 1 (.t 176) (.t 174)) :: []) (0 ::
0 ::
0 ::
0 ::
0 ::
0 ::
48 ::
112 ::
0 ::
0 ::
768 ::
1792 ::
4083 ::
8179 ::
16383 ::
32767 :: []) true)
(.seq
(F [M 177 13,
 M 10 177,
 J 11 (.mv (B false))] 3)
.ret))))))))))))
def rv : List RV := [.tmp 10, .tmp 11]
theorem enter : En Tryd.prog 87 178 s rv := En.mk (c := Tryd.f87.body.getD .ret) Tryd.func87 rfl (by kernel_rfl) (by kernel_rfl) (by kernel_rfl) (by kernel_rfl)
end slices_partitionCmpFunc_int
namespace math_bits_Len64
abbrev f : Nat := 89
def s : SCo := (.seq
(F [J 2 (.mv (Z 0))] 1)
(.seq
(.seq
(F [M 3 0,
 J 4 (.bin .geq (.t 3) (.k (b64 4294967296)))] 2)
(.cond (.t 4)
(.seq
(F [M 5 0,
 J 6 (.bin .shr (.t 5) (.k (b64 32))),
 M 0 6] 3)
(F [J 2 (.mv (Z 32))] 1))
.skip))
(.seq
(.seq
(F [M 7 0,
 J 8 (.bin .geq (.t 7) (.k (b64 65536)))] 2)
(.cond (.t 8)
(.seq
(F [M 9 0,
 J 10 (.bin .shr (.t 9) (.k (b64 16))),
 M 0 10] 3)
(F [M 11 2,
 J 12 (.bin .add (.t 11) (Z 16)),
 M 2 12] 3))
.skip))
(.seq
(.seq
(F [M 13 0,
 J 14 (.bin .geq (.t 13) (.k (b64 256)))] 2)
(.cond (.t 14)
(.seq
(F [M 15 0,
 J 16 (.bin .shr (.t 15) (.k (b64 8))),
 M 0 16] 3)
(F [M 17 2,
 J 18 (.bin .add (.t 17) (Z 8)),
 M 2 18] 3))
.skip))
(.seq
(F [M 19 2,
 M 20 0,
 J 21 (.conv .u8 (.t 20)),
 J 22 (.idxT (.k (.d (.str [0, 1, 2, 2, 3, 3, 3, 3, 4, 4, 4, 4, 4, 4, 4, 4, 5, 5, 5, 5, 5, 5, 5, 5, 5, 5, 5, 5, 5, 5, 5, 5, 6, 6, 6, 6, 6, 6, 6, 6, 6, 6, 6, 6, 6, 6, 6, 6, 6, 6, 6, 6, 6, 6, 6, 6, 6, 6, 6, 6, 6, 6, 6, 6, 7, 7, 7, 7, 7, 7, 7, 7, 7, 7, 7, 7, 7, 7, 7, 7, 7, 7, 7, 7, 7, 7, 7, 7, 7, 7, 7, 7, 7, 7, 7, 7, 7, 7, 7, 7, 7, 7, 7, 7, 7, 7, 7, 7, 7, 7, 7, 7, 7, 7, 7, 7, 7, 7, 7, 7, 7, 7, 7, 7, 7, 7, 7, 7, 8, 8, 8, 8, 8, 8, 8, 8, 8, 8, 8, 8, 8, 8, 8, 8, 8, 8, 8, 8, 8, 8, 8, 8, 8, 8, 8, 8, 8, 8, 8, 8, 8, 8, 8, 8, 8, 8, 8, 8, 8, 8, 8, 8, 8, 8, 8, 8, 8, 8, 8, 8, 8, 8, 8, 8, 8, 8, 8, 8, 8, 8, 8, 8, 8, 8, 8, 8, 8, 8, 8, 8, 8, 8, 8, 8, 8, 8, 8, 8, 8, 8, 8, 8, 8, 8, 8, 8, 8, 8, 8, 8, 8, 8, 8, 8, 8, 8, 8, 8, 8, 8, 8, 8, 8, 8, 8, 8, 8, 8, 8, 8, 8, 8, 8, 8, 8, 8, 8, 8, 8, 8, 8, 8, 8, 8, 8, 8]))) (.t 21)),
 J 23 (.conv .i64 (.t 22)),
 J 24 (.bin .add (.t 19) (.t 23)),
 M 2 24] 7)
.ret)))))
def rv : List RV := [.tmp 2]
theorem enter : En Tryd.prog 89 25 s rv := En.mk (c := Tryd.f89.body.getD .ret) Tryd.func89 rfl (by kernel_rfl) (by kernel_rfl) (by kernel_rfl) (by kernel_rfl)
end math_bits_Len64
namespace slices_siftDownCmpFunc_int
abbrev f : Nat := 91
def s : SCo := (.seq
(F [M 12 1,
 M 10 12] 2)
(.block 0
(.loop
(.block 1
(.seq
(F [M 13 10,
 J 14 (.bin .mul (Z 2) (.t 13)),
 J 15 (.bin .add (.t 14) (Z 1)),
 M 11 15] 4)
(.seq
(.seq
(F [M 16 11,
 M 17 2,
 J 18 (.bin .geq (.t 16) (.t 17))] 3)
(.cond (.t 18)
(.exit 0)
.skip))
(.seq
(.seq
(.reg (M 19 11 ::
 J 20 (.bin .add (.t 19) (Z 1)) ::
 M 21 2 ::
 J 22 (.bin .lss (.t 20) (.t 21)) ::
 M 23 22 ::
 G 24 4 23 true ::
 G 25 0 23 true ::
 G 26 3 23 true ::
 G 27 11 23 true ::
 H 28 (.bin .add (.t 26) (.t 27)) 23 true ::
 H 29 (.idxS 1 (.t 25) (.t 28)) 23 true ::
 H 30 (.load none (.t 29)) 23 true ::
 G 31 0 23 true ::
 G 32 3 23 true ::
 G 33 11 23 true ::
 H 34 (.bin .add (.t 32) (.t 33)) 23 true ::
 H 35 (.bin .add (.t 34) (Z 1)) 23 true ::
 H 36 (.idxS 1 (.t 31) (.t 35)) 23 true ::
 H 37 (.load none (.t 36)) 23 true ::
 H 38 (.call (.t 24) [(.t 30), (.t 37)]) 23 true ::
 H 39 (.bin .lss (.t 38) (Z 0)) 23 true ::
 J 40 (.pick (.t 23) (.t 39) (B false)) :: []) (0 ::
1 ::
0 ::
7 ::
15 ::
31 ::
31 ::
31 ::
31 ::
415 ::
991 ::
2015 ::
31 ::
31 ::
31 ::
24607 ::
57375 ::
127007 ::
258079 ::
524287 ::
1048575 ::
2097151 :: []) true)
(.cond (.t 40)
(F [M 41 11,
 J 42 (.bin .add (.t 41) (Z 1)),
 M 11 42] 3)
.skip))
(.seq
(.seq
(.reg (M 43 4 ::
 M 44 0 ::
 M 45 3 ::
 M 46 10 ::
 J 47 (.bin .add (.t 45) (.t 46)) ::
 J 48 (.idxS 1 (.t 44) (.t 47)) ::
 J 49 (.load none (.t 48)) ::
 M 50 0 ::
 M 51 3 ::
 M 52 11 ::
 J 53 (.bin .add (.t 51) (.t 52)) ::
 J 54 (.idxS 1 (.t 50) (.t 53)) ::
 J 55 (.load none (.t 54)) ::
 J 56 (.call (.t 43) [(.t 49), (.t 55)]) ::
 J 57 (.bin .lss (.t 56) (Z 0)) ::
 J 58 (.not (.t 57)) :: []) (0 ::
0 ::
0 ::
0 ::
12 ::
30 ::
62 ::
0 ::
0 ::
0 ::
768 ::
1920 ::
3968 ::
8191 ::
16383 ::
32767 :: []) true)
(.cond (.t 58)
.ret
.skip))
(.seq
(.reg (M 59 0 ::
 M 60 3 ::
 M 61 10 ::
 J 62 (.bin .add (.t 60) (.t 61)) ::
 M 63 0 ::
 M 64 3 ::
 M 65 11 ::
 J 66 (.bin .add (.t 64) (.t 65)) ::
 M 67 0 ::
 M 68 3 ::
 M 69 11 ::
 J 70 (.bin .add (.t 68) (.t 69)) ::
 J 71 (.idxS 1 (.t 67) (.t 70)) ::
 J 72 (.load none (.t 71)) ::
 M 73 0 ::
 M 74 3 ::
 M 75 10 ::
 J 76 (.bin .add (.t 74) (.t 75)) ::
 J 77 (.idxS 1 (.t 73) (.t 76)) ::
 J 78 (.load none (.t 77)) ::
 J 79 (.idxS 1 (.t 59) (.t 62)) ::
 N (.store 1 (.t 79) (.t 72)) ::
 J 80 (.idxS 1 (.t 63) (.t 66)) ::
 N (.store 1 (.t 80) (.t 78)) :: []) (0 ::
0 ::
0 ::
6 ::
0 ::
0 ::
0 ::
96 ::
0 ::
0 ::
0 ::
1536 ::
3840 ::
7936 ::
0 ::
0 ::
0 ::
98304 ::
245760 ::
507904 ::
1048335 ::
2096911 ::
4194303 ::
8388607 :: []) true)
(F [M 81 11,
 M 10 81] 2))))))))))
def rv : List RV := []
theorem enter : En Tryd.prog 91 82 s rv := En.mk (c := Tryd.f91.body.getD .ret) Tryd.func91 rfl (by kernel_rfl) (by kernel_rfl) (by kernel_rfl) (by kernel_rfl)
end slices_siftDownCmpFunc_int
namespace slices_nextPowerOfTwo
abbrev f : Nat := 92
def s : SCo := (.seq
(F [J 2 (.mv (.k (b64 0)))] 1)
(.seq
(F [M 3 0,
 J 4 (.conv .u64 (.t 3)),
 J 5 (.call (C 76) [(.t 4)]),
 J 6 (.bin .shl (.k (b64 1)) (.t 5)),
 M 2 6] 5)
.ret))
def rv : List RV := [.tmp 2]
theorem enter : En Tryd.prog 92 7 s rv := En.mk (c := Tryd.f92.body.getD .ret) Tryd.func92 rfl (by kernel_rfl) (by kernel_rfl) (by kernel_rfl) (by kernel_rfl)
end slices_nextPowerOfTwo
namespace slices_xorshift_Next
abbrev f : Nat := 93
def s : SCo := (.seq
(F [J 2 (.mv (.k (b64 0)))] 1)
(.seq
(.reg [M 3 0,
 J 4 (.nilc (.t 3)),
 J 5 (.load none (.t 4)),
 M 6 0,
 J 7 (.nilc (.t 6)),
 J 8 (.load none (.t 7)),
 J 9 (.bin .shl (.t 8) (.k (b64 13))),
 J 10 (.bin .xor (.t 5) (.t 9)),
 J 11 (.nilc (.t 3)),
 N (.store 1 (.t 11) (.t 10))] [0,
1,
3,
0,
8,
24,
56,
127,
255,
511] true)
(.seq
(.reg [M 12 0,
 J 13 (.nilc (.t 12)),
 J 14 (.load none (.t 13)),
 M 15 0,
 J 16 (.nilc (.t 15)),
 J 17 (.load none (.t 16)),
 J 18 (.bin .shr (.t 17) (.k (b64 7))),
 J 19 (.bin .xor (.t 14) (.t 18)),
 J 20 (.nilc (.t 12)),
 N (.store 1 (.t 20) (.t 19))] [0,
1,
3,
0,
8,
24,
56,
127,
255,
511] true)
(.seq
(.reg [M 21 0,
 J 22 (.nilc (.t 21)),
 J 23 (.load none (.t 22)),
 M 24 0,
 J 25 (.nilc (.t 24)),
 J 26 (.load none (.t 25)),
 J 27 (.bin .shl (.t 26) (.k (b64 17))),
 J 28 (.bin .xor (.t 23) (.t 27)),
 J 29 (.nilc (.t 21)),
 N (.store 1 (.t 29) (.t 28))] [0,
1,
3,
0,
8,
24,
56,
127,
255,
511] true)
(.seq
(F [M 30 0,
 J 31 (.nilc (.t 30)),
 J 32 (.load none (.t 31)),
 M 2 32] 4)
.ret)))))
def rv : List RV := [.tmp 2]
theorem enter : En Tryd.prog 93 33 s rv := En.mk (c := Tryd.f93.body.getD .ret) Tryd.func93 rfl (by kernel_rfl) (by kernel_rfl) (by kernel_rfl) (by kernel_rfl)
end slices_xorshift_Next
namespace slices_medianAdjacentCmpFunc_int
abbrev f : Nat := 94
def s : SCo := (.seq
(F [J 8 (.mv (Z 0))] 1)
(.seq
(F [M 9 0,
 M 10 1,
 J 11 (.bin .sub (.t 10) (Z 1)),
 M 12 1,
 M 13 1,
 J 14 (.bin .add (.t 13) (Z 1)),
 M 15 2,
 M 16 3,
 J 17 (.call (C 95) [(.t 9), (.t 11), (.t 12), (.t 14), (.t 15), (.t 16)]),
 M 8 17] 10)
.ret))
def rv : List RV := [.tmp 8]
theorem enter : En Tryd.prog 94 18 s rv := En.mk (c := Tryd.f94.body.getD .ret) Tryd.func94 rfl (by kernel_rfl) (by kernel_rfl) (by kernel_rfl) (by kernel_rfl)
end slices_medianAdjacentCmpFunc_int
namespace slices_medianCmpFunc_int
abbrev f : Nat := 95
def s : SCo := (.seq
(F [J 12 (.mv (Z 0))] 1)
(.seq
(F [M 14 0,
 M 15 1,
 M 16 2,
 M 17 4,
 M 18 5,
 J 19 (.call (C 96) [(.t 14), (.t 15), (.t 16), (.t 17), (.t 18)]),
 M 13 19,
 J 20 (.ext 0 (.t 13)),
 J 21 (.ext 1 (.t 13)),
 M 1 20,
 M 2 21] 11)
(.seq
(F [M 23 0,
 M 24 2,
 M 25 3,
 M 26 4,
 M 27 5,
 J 28 (.call (C 96) [(.t 23), (.t 24), (.t 25), (.t 26), (.t 27)]),
 M 22 28,
 J 29 (.ext 0 (.t 22)),
 J 30 (.ext 1 (.t 22)),
 M 2 29,
 M 3 30] 11)
(.seq
(F [M 32 0,
 M 33 1,
 M 34 2,
 M 35 4,
 M 36 5,
 J 37 (.call (C 96) [(.t 32), (.t 33), (.t 34), (.t 35), (.t 36)]),
 M 31 37,
 J 38 (.ext 0 (.t 31)),
 J 39 (.ext 1 (.t 31)),
 M 1 38,
 M 2 39] 11)
(.seq
(F [M 40 2,
 M 12 40] 2)
.ret)))))
def rv : List RV := [.tmp 12]
theorem enter : En Tryd.prog 95 41 s rv := En.mk (c := Tryd.f95.body.getD .ret) Tryd.func95 rfl (by kernel_rfl) (by kernel_rfl) (by kernel_rfl) (by kernel_rfl)
end slices_medianCmpFunc_int
namespace slices_order2CmpFunc_int
abbrev f : Nat := 96
def s : SCo := (.seq
(F [J 10 (.mv (Z 0)),
 J 11 (.mv (Z 0))] 2)
(.seq
(.seq
(.reg [M 12 4,
 M 13 0,
 M 14 2,
 J 15 (.idxS 1 (.t 13) (.t 14)),
 J 16 (.load none (.t 15)),
 M 17 0,
 M 18 1,
 J 19 (.idxS 1 (.t 17) (.t 18)),
 J 20 (.load none (.t 19)),
 J 21 (.call (.t 12) [(.t 16), (.t 20)]),
 J 22 (.bin .lss (.t 21) (Z 0))] [0,
0,
0,
6,
14,
0,
0,
96,
224,
511,
1023] true)
(.cond (.t 22)
(.seq
(F [M 23 3,
 J 24 (.nilc (.t 23)),
 J 25 (.load none (.t 24)),
 J 26 (.bin .add (.t 25) (Z 1)),
 J 27 (.nilc (.t 23)),
 N (.store 1 (.t 27) (.t 26))] 6)
(.seq
(F [M 28 2,
 M 29 1,
 M 10 28,
 M 11 29] 4)
.ret))
.skip))
(.seq
(F [M 30 1,
 M 31 2,
 M 10 30,
 M 11 31] 4)
.ret)))
def rv : List RV := [.tmp 10, .tmp 11]
theorem enter : En Tryd.prog 96 32 s rv := En.mk (c := Tryd.f96.body.getD .ret) Tryd.func96 rfl (by kernel_rfl) (by kernel_rfl) (by kernel_rfl) (by kernel_rfl)
end slices_order2CmpFunc_int
end Go.Proofs.YtemghnbbmahaaaaDoor
namespace Go.Proofs.YtemghnbbmahaaaaDoor
open Go.Sl Go.Sl.Co Go.Proofs
namespace gosem_cut_init
end gosem_cut_init
namespace law10_OrderBefore
end law10_OrderBefore
namespace law10_OrderBegins
end law10_OrderBegins
namespace law10_OrderTells
abbrev f : Nat := 5
def s : SCo := (.seq
(F [J 5 (.box 32 (.t 2)),
 J 6 (.mv (B false))] 2)
(.seq
(.seq
(F [M 13 0,
 J 14 (.call (C 8) [(.t 13)])] 2)
(.cond (.t 14)
(.seq
(F [J 15 (.call (C 10) []),
 M 6 15] 2)
.ret)
.skip))
(.seq
(.seq
(F [J 7 (.mv (Z 0))] 1)
(.block 0
(.loop
(.seq
(.seq
(F [M 16 7,
 M 17 0,
 J 18 (.len (.t 17)),
 J 19 (.bin .lss (.t 16) (.t 18))] 4)
(.cond (.t 19)
.skip
(.exit 0)))
(.seq
(.block 1
(.seq
(.seq
(F [J 8 (.mv (Z 0))] 1)
(.block 2
(.loop
(.seq
(.seq
(F [M 22 8,
 M 23 0,
 J 24 (.len (.t 23)),
 J 25 (.bin .lss (.t 22) (.t 24))] 4)
(.cond (.t 25)
.skip
(.exit 2)))
(.seq
(.block 3
(.seq
(.reg (M 28 0 ::
 M 29 7 ::
 J 30 (.idxS 29 (.t 28) (.t 29)) ::
 J 31 (.load (some 29) (.t 30)) ::
 M 32 0 ::
 M 33 8 ::
 J 34 (.idxS 29 (.t 32) (.t 33)) ::
 J 35 (.load (some 29) (.t 34)) ::
 J 36 (.call (C 12) [(.t 31), (.t 35)]) ::
 M 37 0 ::
 M 38 7 ::
 J 39 (.idxS 29 (.t 37) (.t 38)) ::
 J 40 (.load (some 29) (.t 39)) ::
 M 41 0 ::
 M 42 8 ::
 J 43 (.idxS 29 (.t 41) (.t 42)) ::
 J 44 (.load (some 29) (.t 43)) ::
 J 45 (.call (C 17) [(.t 40), (.t 44)]) ::
 J 46 (.bin .neq (.t 36) (.t 45)) ::
 M 47 46 ::
 G 48 0 47 false ::
 G 49 7 47 false ::
 H 50 (.idxS 29 (.t 48) (.t 49)) 47 false ::
 H 51 (.load (some 29) (.t 50)) 47 false ::
 G 52 0 47 false ::
 G 53 8 47 false ::
 H 54 (.idxS 29 (.t 52) (.t 53)) 47 false ::
 H 55 (.load (some 29) (.t 54)) 47 false ::
 H 56 (.call (C 11) [(.t 51), (.t 55)]) 47 false ::
 G 57 0 47 false ::
 G 58 7 47 false ::
 H 59 (.idxS 29 (.t 57) (.t 58)) 47 false ::
 H 60 (.load (some 29) (.t 59)) 47 false ::
 G 61 0 47 false ::
 G 62 8 47 false ::
 H 63 (.idxS 29 (.t 61) (.t 62)) 47 false ::
 H 64 (.load (some 29) (.t 63)) 47 false ::
 H 65 (.call (C 18) [(.t 60), (.t 64)]) 47 false ::
 H 66 (.eqb true (.t 56) (.t 65)) 47 false ::
 J 67 (.pick (.t 47) (B true) (.t 66)) ::
 M 68 67 ::
 G 69 0 68 false ::
 G 70 7 68 false ::
 H 71 (.idxS 29 (.t 69) (.t 70)) 68 false ::
 H 72 (.load (some 29) (.t 71)) 68 false ::
 G 73 0 68 false ::
 G 74 8 68 false ::
 H 75 (.idxS 29 (.t 73) (.t 74)) 68 false ::
 H 76 (.load (some 29) (.t 75)) 68 false ::
 H 77 (.call (C 19) [(.t 72), (.t 76)]) 68 false ::
 G 78 0 68 false ::
 G 79 7 68 false ::
 H 80 (.idxS 29 (.t 78) (.t 79)) 68 false ::
 H 81 (.fld 0 (.t 80)) 68 false ::
 H 82 (.load (some 2) (.t 81)) 68 false ::
 G 83 0 68 false ::
 G 84 8 68 false ::
 H 85 (.idxS 29 (.t 83) (.t 84)) 68 false ::
 H 86 (.fld 0 (.t 85)) 68 false ::
 H 87 (.load (some 2) (.t 86)) 68 false ::
 H 88 (.eqv true [true, true] (.t 82) (.t 87)) 68 false ::
 G 89 88 68 false ::
 G 90 0 89 true ::
 G 91 7 89 true ::
 H 92 (.idxS 29 (.t 90) (.t 91)) 89 true ::
 H 93 (.load (some 29) (.t 92)) 89 true ::
 G 94 0 89 true ::
 G 95 8 89 true ::
 H 96 (.idxS 29 (.t 94) (.t 95)) 89 true ::
 H 97 (.load (some 29) (.t 96)) 89 true ::
 H 98 (.call (C 18) [(.t 93), (.t 97)]) 89 true ::
 H 99 (.not (.t 98)) 89 true ::
 H 100 (.pick (.t 89) (.t 99) (B false)) 68 false ::
 G 101 100 68 false ::
 G 102 0 101 true ::
 G 103 8 101 true ::
 H 104 (.idxS 29 (.t 102) (.t 103)) 101 true ::
 H 105 (.load (some 29) (.t 104)) 101 true ::
 G 106 0 101 true ::
 G 107 7 101 true ::
 H 108 (.idxS 29 (.t 106) (.t 107)) 101 true ::
 H 109 (.load (some 29) (.t 108)) 101 true ::
 H 110 (.call (C 18) [(.t 105), (.t 109)]) 101 true ::
 H 111 (.not (.t 110)) 101 true ::
 H 112 (.pick (.t 101) (.t 111) (B false)) 68 false ::
 H 113 (.eqb true (.t 77) (.t 112)) 68 false ::
 J 114 (.pick (.t 68) (B true) (.t 113)) :: []) (0 ::
0 ::
3 ::
7 ::
0 ::
0 ::
48 ::
112 ::
255 ::
0 ::
0 ::
1536 ::
3584 ::
0 ::
0 ::
24576 ::
57344 ::
131071 ::
262143 ::
524287 ::
1048575 ::
1048575 ::
4194303 ::
8388607 ::
1048575 ::
1048575 ::
51380223 ::
118489087 ::
268435455 ::
1048575 ::
1048575 ::
1611661311 ::
3759144959 ::
1048575 ::
1048575 ::
25770852351 ::
60130590719 ::
137438953471 ::
274877906943 ::
549755813887 ::
1099511627775 ::
2199023255551 ::
2199023255551 ::
8796093022207 ::
17592186044415 ::
2199023255551 ::
2199023255551 ::
107752139522047 ::
248489627877375 ::
562949953421311 ::
2199023255551 ::
2199023255551 ::
3379898743783423 ::
7883498371153919 ::
16890697625894911 ::
2199023255551 ::
2199023255551 ::
108088590080147455 ::
252203778156003327 ::
540434154307715071 ::
1151797803723259903 ::
2305843009213693951 ::
4611686018427387903 ::
4611686018427387903 ::
18446744073709551615 ::
36893488147419103231 ::
4611686018427387903 ::
4611686018427387903 ::
225972614902942007295 ::
521120520082294833151 ::
1180591620717411303423 ::
2361183241434822606847 ::
4722366482869645213695 ::
9444732965739290427391 ::
18889465931478580854783 ::
18889465931478580854783 ::
75557863725914323419135 ::
151115727451828646838271 ::
18889465931478580854783 ::
18889465931478580854783 ::
925583830642450461884415 ::
2134509650257079636590591 ::
4835703278458516698824703 ::
9671406556917033397649407 ::
19342813113834066795298815 ::
38685626227668133590597631 ::
77371252455336267181195263 :: []) true)
(.cond (.t 114)
(.seq
(F [J 6 (.mv (B false))] 1)
.ret)
.skip)))
(F [M 26 8,
 J 27 (.bin .add (.t 26) (Z 1)),
 M 8 27] 3))))))
(.seq
(F [M 116 0,
 M 117 0,
 M 118 7,
 J 119 (.idxS 29 (.t 117) (.t 118)),
 J 120 (.fld 0 (.t 119)),
 J 121 (.load (some 2) (.t 120)),
 J 122 (.call (C 20) [(.t 116), (.t 121)]),
 M 115 122,
 J 123 (.ext 0 (.t 115)),
 J 124 (.ext 1 (.t 115)),
 J 9 (.alloc 36 z29),
 N (.store 29 (.t 9) (.t 123)),
 M 10 124] 13)
(.seq
(F [M 126 0,
 M 127 0,
 M 128 7,
 J 129 (.idxS 29 (.t 127) (.t 128)),
 J 130 (.fld 0 (.t 129)),
 J 131 (.load (some 2) (.t 130)),
 J 132 (.call (C 21) [(.t 126), (.t 131)]),
 M 125 132,
 J 133 (.ext 0 (.t 125)),
 J 134 (.ext 1 (.t 125)),
 J 11 (.alloc 36 z29),
 N (.store 29 (.t 11) (.t 133)),
 M 12 134] 13)
(.seq
(F [J 135 (.load (some 29) (.t 9)),
 J 136 (.load (some 29) (.t 11)),
 J 137 (.call (C 22) [(.t 135), (.t 136)]),
 J 138 (.not (.t 137)),
 M 139 138,
 G 140 10 139 false,
 G 141 12 139 false,
 H 142 (.eqb true (.t 140) (.t 141)) 139 false,
 J 143 (.pick (.t 139) (B true) (.t 142))] 9)
(.cond (.t 143)
(.seq
(F [J 6 (.mv (B false))] 1)
.ret)
.skip))))))
(F [M 20 7,
 J 21 (.bin .add (.t 20) (Z 1)),
 M 7 21] 3))))))
(.seq
(.reg (M 144 0 ::
 J 145 (.call (C 13) [(.t 144)]) ::
 M 146 0 ::
 J 147 (.call (C 23) [(.t 146)]) ::
 J 148 (.call (C 14) [(.t 145), (.t 147)]) ::
 M 149 148 ::
 G 150 0 149 true ::
 H 151 (.load (some 8) (.t 5)) 149 true ::
 H 152 (.call (C 16) [(.t 150), (.t 151)]) 149 true ::
 G 153 0 149 true ::
 H 154 (.load (some 8) (.t 5)) 149 true ::
 H 155 (.call (C 24) [(.t 153), (.t 154)]) 149 true ::
 H 156 (.call (C 14) [(.t 152), (.t 155)]) 149 true ::
 J 157 (.pick (.t 149) (.t 156) (B false)) ::
 M 158 157 ::
 G 159 0 158 true ::
 H 160 (.call (C 15) [(.t 159)]) 158 true ::
 G 161 0 158 true ::
 H 162 (.call (C 25) [(.t 161)]) 158 true ::
 H 163 (.eqv false [true, true, true, true, true, true, true, true] (.t 160) (.t 162)) 158 true ::
 J 164 (.pick (.t 158) (.t 163) (B false)) ::
 M 165 164 ::
 G 166 0 165 true ::
 G 167 1 165 true ::
 H 168 (.call (C 9) [(.t 166), (.t 167)]) 165 true ::
 G 169 0 165 true ::
 G 170 1 165 true ::
 H 171 (.call (C 26) [(.t 169), (.t 170)]) 165 true ::
 H 172 (.bin .eql (.t 168) (.t 171)) 165 true ::
 J 173 (.pick (.t 165) (.t 172) (B false)) ::
 M 174 173 ::
 H 175 (.call (C 10) []) 174 true ::
 J 176 (.pick (.t 174) (.t 175) (B false)) ::
 M 6 176 :: []) (0 ::
1 ::
0 ::
7 ::
15 ::
31 ::
63 ::
63 ::
255 ::
63 ::
63 ::
2047 ::
4095 ::
8191 ::
16383 ::
32767 ::
65535 ::
32767 ::
262143 ::
524287 ::
1048575 ::
2097151 ::
4194303 ::
4194303 ::
16777215 ::
4194303 ::
4194303 ::
134217727 ::
268435455 ::
536870911 ::
1073741823 ::
2147483647 ::
4294967295 ::
8589934591 :: []) true)
.ret))))
def rv : List RV := [.tmp 6]
theorem enter : En Tryd.prog 5 177 s rv := En.mk (c := Tryd.f5.body.getD .ret) Tryd.func5 rfl (by kernel_rfl) (by kernel_rfl) (by kernel_rfl) (by kernel_rfl)
end law10_OrderTells
namespace law10_OrderParts
end law10_OrderParts
namespace law10_OrderCuts
end law10_OrderCuts
namespace ref10_Great
abbrev f : Nat := 8
def s : SCo := (.seq
(F [J 2 (.mv (B false))] 1)
(.seq
(F [J 3 (.mv (Z 0))] 1)
(.seq
(.seq
(F [J 4 (.mv (Z 0))] 1)
(.block 0
(.loop
(.seq
(.seq
(F [M 5 4,
 M 6 0,
 J 7 (.len (.t 6)),
 J 8 (.bin .lss (.t 5) (.t 7)),
 M 9 8,
 G 10 4 9 true,
 H 11 (.bin .lss (.t 10) (Z 100)) 9 true,
 J 12 (.pick (.t 9) (.t 11) (B false))] 8)
(.cond (.t 12)
.skip
(.exit 0)))
(.seq
(.block 1
(F [M 15 3,
 M 16 0,
 M 17 4,
 J 18 (.idxS 29 (.t 16) (.t 17)),
 J 19 (.fld 28 (.t 18)),
 J 20 (.load none (.t 19)),
 J 21 (.len (.t 20)),
 J 22 (.bin .add (.t 15) (.t 21)),
 M 3 22] 9))
(F [M 13 4,
 J 14 (.bin .add (.t 13) (Z 1)),
 M 4 14] 3))))))
(.seq
(F [M 23 0,
 J 24 (.len (.t 23)),
 J 25 (.bin .gtr (.t 24) (Z 80)),
 M 26 25,
 G 27 3 26 false,
 H 28 (.bin .gtr (.t 27) (Z 300)) 26 false,
 J 29 (.pick (.t 26) (B true) (.t 28)),
 M 2 29] 8)
.ret))))
def rv : List RV := [.tmp 2]
theorem enter : En Tryd.prog 8 30 s rv := En.mk (c := Tryd.f8.body.getD .ret) Tryd.func8 rfl (by kernel_rfl) (by kernel_rfl) (by kernel_rfl) (by kernel_rfl)
end ref10_Great
namespace order_History
abbrev f : Nat := 9
def s : SCo := (.seq
(F [J 4 (.mv (Z 0))] 1)
(.seq
(.seq
(F [M 11 1,
 J 12 (.bin .lss (.t 11) (Z 1)),
 M 13 12,
 G 14 1 13 false,
 H 15 (.bin .gtr (.t 14) (Z 8)) 13 false,
 J 16 (.pick (.t 13) (B true) (.t 15))] 6)
(.cond (.t 16)
(.seq
(F [J 4 (.mv (Z 2))] 1)
.ret)
.skip))
(.seq
(.seq
(F [M 17 0,
 J 18 (.len (.t 17)),
 J 19 (.mv (Z 0))] 3)
(.block 0
(.loop
(.seq
(F [J 20 (.bin .lss (.t 19) (.t 18))] 1)
(.seq
(.cond (.t 20)
.skip
(.exit 0))
(.seq
(.block 1
(.seq
(F [J 21 (.idxS 29 (.t 17) (.t 19)),
 J 22 (.load (some 29) (.t 21)),
 J 6 (.alloc 36 z29),
 N (.store 29 (.t 6) (.t 22))] 4)
(.seq
(F [J 23 (.load (some 29) (.t 6)),
 M 24 1,
 J 25 (.call (C 27) [(.t 23), (.t 24)]),
 J 26 (.bin .neq (.t 25) (Z 0))] 4)
(.cond (.t 26)
(.seq
(F [J 4 (.mv (Z 5))] 1)
.ret)
.skip))))
(F [J 27 (.bin .add (.t 19) (Z 1)),
 M 19 27] 2)))))))
(.seq
(F [M 28 0,
 J 29 (.call (C 28) [(.t 28)]),
 M 30 0,
 J 31 (.call (C 15) [(.t 30)]),
 J 7 (.alloc 54 [(.d .nils), (.d .nilm)]),
 J 8 (.alloc 32 z8),
 N (.store 2 (.t 7) (.t 29)),
 N (.store 8 (.t 8) (.t 31))] 8)
(.seq
(.seq
(F [J 32 (.fld 1 (.t 7)),
 J 33 (.load none (.t 32)),
 J 34 (.mlen (.t 33)),
 M 35 0,
 J 36 (.len (.t 35)),
 J 37 (.bin .neq (.t 34) (.t 36)),
 M 38 37,
 H 39 (.load (some 8) (.t 8)) 38 false,
 H 40 (.call (C 29) [(.t 39)]) 38 false,
 G 41 0 38 false,
 H 42 (.len (.t 41)) 38 false,
 H 43 (.conv .u64 (.t 42)) 38 false,
 H 44 (.bin .neq (.t 40) (.t 43)) 38 false,
 J 45 (.pick (.t 38) (B true) (.t 44))] 14)
(.cond (.t 45)
(.seq
(F [J 4 (.mv (Z 9))] 1)
.ret)
.skip))
(.seq
(.seq
(F [M 46 0,
 J 47 (.len (.t 46)),
 J 48 (.mv (Z 0))] 3)
(.block 2
(.loop
(.seq
(F [J 49 (.bin .lss (.t 48) (.t 47))] 1)
(.seq
(.cond (.t 49)
.skip
(.exit 2))
(.seq
(.block 3
(.seq
(F [J 50 (.idxS 29 (.t 46) (.t 48)),
 J 51 (.load (some 29) (.t 50)),
 J 10 (.alloc 36 z29),
 N (.store 29 (.t 10) (.t 51))] 4)
(.seq
(F [J 52 (.load (some 2) (.t 7)),
 J 53 (.load (some 29) (.t 10)),
 J 54 (.load (some 8) (.t 8)),
 J 55 (.call (C 30) [(.t 52), (.t 53), (.t 54)]),
 J 56 (.not (.t 55))] 5)
(.cond (.t 56)
(.seq
(F [J 4 (.mv (Z 9))] 1)
.ret)
.skip))))
(F [J 57 (.bin .add (.t 48) (Z 1)),
 M 48 57] 2)))))))
(.seq
(F [J 4 (.mv (Z 0))] 1)
.ret)))))))
def rv : List RV := [.tmp 4]
theorem enter : En Tryd.prog 9 58 s rv := En.mk (c := Tryd.f9.body.getD .ret) Tryd.func9 rfl (by kernel_rfl) (by kernel_rfl) (by kernel_rfl) (by kernel_rfl)
end order_History
namespace law10_head
abbrev f : Nat := 10
def s : SCo := (.seq
(F [J 0 (.mv (B false))] 1)
(.seq
(F [J 4 (.bld z8 []),
 J 5 (.call (C 31) [(.k (b8 0)), (.k (b32 1)), (.t 4), (.k (b64 1))]),
 J 6 (.bld z8 []),
 J 7 (.call (C 31) [(.k (b8 1)), (.k (b32 1)), (.t 6), (.k (b64 1))]),
 J 8 (.bld z8 [(0, 1, (.k (b32 1))), (1, 1, (.k (b32 1)))]),
 J 9 (.call (C 31) [(.k (b8 0)), (.k (b32 2)), (.t 8), (.k (b64 2))]),
 J 1 (.alloc 36 z29),
 J 2 (.alloc 36 z29),
 J 3 (.alloc 36 z29),
 N (.store 29 (.t 1) (.t 5)),
 N (.store 29 (.t 2) (.t 7)),
 N (.store 29 (.t 3) (.t 9))] 12)
(.seq
(.reg (J 10 (.load (some 29) (.t 1)) ::
 J 11 (.load (some 29) (.t 2)) ::
 J 12 (.call (C 12) [(.t 10), (.t 11)]) ::
 J 13 (.bin .eql (.t 12) (.k (.d (.int .i64 (-1))))) ::
 M 14 13 ::
 H 15 (.load (some 29) (.t 1)) 14 true ::
 H 16 (.load (some 29) (.t 3)) 14 true ::
 H 17 (.call (C 11) [(.t 15), (.t 16)]) 14 true ::
 J 18 (.pick (.t 14) (.t 17) (B false)) ::
 M 19 18 ::
 H 20 (.load (some 29) (.t 1)) 19 true ::
 H 21 (.load (some 29) (.t 2)) 19 true ::
 H 22 (.call (C 19) [(.t 20), (.t 21)]) 19 true ::
 J 23 (.pick (.t 19) (.t 22) (B false)) ::
 M 24 23 ::
 H 25 (.load (some 29) (.t 1)) 24 true ::
 H 26 (.load (some 29) (.t 1)) 24 true ::
 H 27 (.call (C 19) [(.t 25), (.t 26)]) 24 true ::
 H 28 (.not (.t 27)) 24 true ::
 J 29 (.pick (.t 24) (.t 28) (B false)) ::
 M 30 29 ::
 H 31 (.load (some 29) (.t 3)) 30 true ::
 H 32 (.load (some 29) (.t 2)) 30 true ::
 H 33 (.load (some 29) (.t 1)) 30 true ::
 H 34 (.bsl 36 29 3 [b8 0, b32 0, b32 0, b32 0, b32 0, b32 0, b32 0, b32 0, b32 0, b32 0, b64 0, b32 0, b8 0, b32 0, b8 0, b8 0, b32 0, b32 0, b8 0, b8 0, b64 0, b8 0, b32 0, b8 0, b32 0, b32 0, b32 0, b32 0, (.d .nils), b8 0, b32 0, b32 0, b32 0, b32 0, b32 0, b32 0, b32 0, b32 0, b32 0, b64 0, b32 0, b8 0, b32 0, b8 0, b8 0, b32 0, b32 0, b8 0, b8 0, b64 0, b8 0, b32 0, b8 0, b32 0, b32 0, b32 0, b32 0, (.d .nils), b8 0, b32 0, b32 0, b32 0, b32 0, b32 0, b32 0, b32 0, b32 0, b32 0, b64 0, b32 0, b8 0, b32 0, b8 0, b8 0, b32 0, b32 0, b8 0, b8 0, b64 0, b8 0, b32 0, b8 0, b32 0, b32 0, b32 0, b32 0, (.d .nils)] [(0, 29, (.t 31)), (29, 29, (.t 32)), (58, 29, (.t 33))]) 30 true ::
 H 35 (.call (C 13) [(.t 34)]) 30 true ::
 H 36 (.load (some 29) (.t 1)) 30 true ::
 H 37 (.load (some 29) (.t 2)) 30 true ::
 H 38 (.load (some 29) (.t 3)) 30 true ::
 H 39 (.bsl 36 29 3 [b8 0, b32 0, b32 0, b32 0, b32 0, b32 0, b32 0, b32 0, b32 0, b32 0, b64 0, b32 0, b8 0, b32 0, b8 0, b8 0, b32 0, b32 0, b8 0, b8 0, b64 0, b8 0, b32 0, b8 0, b32 0, b32 0, b32 0, b32 0, (.d .nils), b8 0, b32 0, b32 0, b32 0, b32 0, b32 0, b32 0, b32 0, b32 0, b32 0, b64 0, b32 0, b8 0, b32 0, b8 0, b8 0, b32 0, b32 0, b8 0, b8 0, b64 0, b8 0, b32 0, b8 0, b32 0, b32 0, b32 0, b32 0, (.d .nils), b8 0, b32 0, b32 0, b32 0, b32 0, b32 0, b32 0, b32 0, b32 0, b32 0, b64 0, b32 0, b8 0, b32 0, b8 0, b8 0, b32 0, b32 0, b8 0, b8 0, b64 0, b8 0, b32 0, b8 0, b32 0, b32 0, b32 0, b32 0, (.d .nils)] [(0, 29, (.t 36)), (29, 29, (.t 37)), (58, 29, (.t 38))]) 30 true ::
 H 40 (.call (C 14) [(.t 35), (.t 39)]) 30 true ::
 J 41 (.pick (.t 30) (.t 40) (B false)) ::
 M 42 41 ::
 H 43 (.load (some 29) (.t 1)) 42 true ::
 H 44 (.load (some 29) (.t 3)) 42 true ::
 H 45 (.bsl 36 29 2 [b8 0, b32 0, b32 0, b32 0, b32 0, b32 0, b32 0, b32 0, b32 0, b32 0, b64 0, b32 0, b8 0, b32 0, b8 0, b8 0, b32 0, b32 0, b8 0, b8 0, b64 0, b8 0, b32 0, b8 0, b32 0, b32 0, b32 0, b32 0, (.d .nils), b8 0, b32 0, b32 0, b32 0, b32 0, b32 0, b32 0, b32 0, b32 0, b32 0, b64 0, b32 0, b8 0, b32 0, b8 0, b8 0, b32 0, b32 0, b8 0, b8 0, b64 0, b8 0, b32 0, b8 0, b32 0, b32 0, b32 0, b32 0, (.d .nils)] [(0, 29, (.t 43)), (29, 29, (.t 44))]) 42 true ::
 H 46 (.call (C 15) [(.t 45)]) 42 true ::
 H 47 (.bld z8 [(0, 1, (.k (b32 2)))]) 42 true ::
 H 48 (.eqv false [true, true, true, true, true, true, true, true] (.t 46) (.t 47)) 42 true ::
 J 49 (.pick (.t 42) (.t 48) (B false)) ::
 M 50 49 ::
 H 51 (.load (some 29) (.t 1)) 50 true ::
 H 52 (.load (some 29) (.t 2)) 50 true ::
 H 53 (.load (some 29) (.t 3)) 50 true ::
 H 54 (.bsl 36 29 3 [b8 0, b32 0, b32 0, b32 0, b32 0, b32 0, b32 0, b32 0, b32 0, b32 0, b64 0, b32 0, b8 0, b32 0, b8 0, b8 0, b32 0, b32 0, b8 0, b8 0, b64 0, b8 0, b32 0, b8 0, b32 0, b32 0, b32 0, b32 0, (.d .nils), b8 0, b32 0, b32 0, b32 0, b32 0, b32 0, b32 0, b32 0, b32 0, b32 0, b64 0, b32 0, b8 0, b32 0, b8 0, b8 0, b32 0, b32 0, b8 0, b8 0, b64 0, b8 0, b32 0, b8 0, b32 0, b32 0, b32 0, b32 0, (.d .nils), b8 0, b32 0, b32 0, b32 0, b32 0, b32 0, b32 0, b32 0, b32 0, b32 0, b64 0, b32 0, b8 0, b32 0, b8 0, b8 0, b32 0, b32 0, b8 0, b8 0, b64 0, b8 0, b32 0, b8 0, b32 0, b32 0, b32 0, b32 0, (.d .nils)] [(0, 29, (.t 51)), (29, 29, (.t 52)), (58, 29, (.t 53))]) 50 true ::
 H 55 (.call (C 9) [(.t 54), (Z 2)]) 50 true ::
 H 56 (.bin .eql (.t 55) (Z 0)) 50 true ::
 J 57 (.pick (.t 50) (.t 56) (B false)) ::
 M 58 57 ::
 H 59 (.load (some 29) (.t 3)) 58 true ::
 H 60 (.load (some 29) (.t 2)) 58 true ::
 H 61 (.bsl 36 29 2 [b8 0, b32 0, b32 0, b32 0, b32 0, b32 0, b32 0, b32 0, b32 0, b32 0, b64 0, b32 0, b8 0, b32 0, b8 0, b8 0, b32 0, b32 0, b8 0, b8 0, b64 0, b8 0, b32 0, b8 0, b32 0, b32 0, b32 0, b32 0, (.d .nils), b8 0, b32 0, b32 0, b32 0, b32 0, b32 0, b32 0, b32 0, b32 0, b32 0, b64 0, b32 0, b8 0, b32 0, b8 0, b8 0, b32 0, b32 0, b8 0, b8 0, b64 0, b8 0, b32 0, b8 0, b32 0, b32 0, b32 0, b32 0, (.d .nils)] [(0, 29, (.t 59)), (29, 29, (.t 60))]) 58 true ::
 H 62 (.call (C 9) [(.t 61), (Z 2)]) 58 true ::
 H 63 (.bin .eql (.t 62) (Z 9)) 58 true ::
 J 64 (.pick (.t 58) (.t 63) (B false)) ::
 M 65 64 ::
 H 66 (.load (some 29) (.t 1)) 65 true ::
 H 67 (.load (some 29) (.t 3)) 65 true ::
 H 68 (.bsl 36 29 2 [b8 0, b32 0, b32 0, b32 0, b32 0, b32 0, b32 0, b32 0, b32 0, b32 0, b64 0, b32 0, b8 0, b32 0, b8 0, b8 0, b32 0, b32 0, b8 0, b8 0, b64 0, b8 0, b32 0, b8 0, b32 0, b32 0, b32 0, b32 0, (.d .nils), b8 0, b32 0, b32 0, b32 0, b32 0, b32 0, b32 0, b32 0, b32 0, b32 0, b64 0, b32 0, b8 0, b32 0, b8 0, b8 0, b32 0, b32 0, b8 0, b8 0, b64 0, b8 0, b32 0, b8 0, b32 0, b32 0, b32 0, b32 0, (.d .nils)] [(0, 29, (.t 66)), (29, 29, (.t 67))]) 65 true ::
 H 69 (.call (C 9) [(.t 68), (Z 2)]) 65 true ::
 H 70 (.bin .eql (.t 69) (Z 9)) 65 true ::
 J 71 (.pick (.t 65) (.t 70) (B false)) ::
 M 72 71 ::
 H 73 (.load (some 29) (.t 1)) 72 true ::
 H 74 (.load (some 29) (.t 2)) 72 true ::
 H 75 (.load (some 29) (.t 3)) 72 true ::
 H 76 (.bsl 36 29 3 [b8 0, b32 0, b32 0, b32 0, b32 0, b32 0, b32 0, b32 0, b32 0, b32 0, b64 0, b32 0, b8 0, b32 0, b8 0, b8 0, b32 0, b32 0, b8 0, b8 0, b64 0, b8 0, b32 0, b8 0, b32 0, b32 0, b32 0, b32 0, (.d .nils), b8 0, b32 0, b32 0, b32 0, b32 0, b32 0, b32 0, b32 0, b32 0, b32 0, b64 0, b32 0, b8 0, b32 0, b8 0, b8 0, b32 0, b32 0, b8 0, b8 0, b64 0, b8 0, b32 0, b8 0, b32 0, b32 0, b32 0, b32 0, (.d .nils), b8 0, b32 0, b32 0, b32 0, b32 0, b32 0, b32 0, b32 0, b32 0, b32 0, b64 0, b32 0, b8 0, b32 0, b8 0, b8 0, b32 0, b32 0, b8 0, b8 0, b64 0, b8 0, b32 0, b8 0, b32 0, b32 0, b32 0, b32 0, (.d .nils)] [(0, 29, (.t 73)), (29, 29, (.t 74)), (58, 29, (.t 75))]) 72 true ::
 H 77 (.call (C 9) [(.t 76), (Z 1)]) 72 true ::
 H 78 (.bin .eql (.t 77) (Z 5)) 72 true ::
 J 79 (.pick (.t 72) (.t 78) (B false)) ::
 M 0 79 :: []) (0 ::
0 ::
3 ::
7 ::
15 ::
31 ::
31 ::
127 ::
255 ::
511 ::
1023 ::
1023 ::
4095 ::
8191 ::
16383 ::
32767 ::
32767 ::
131071 ::
262143 ::
524287 ::
1048575 ::
2097151 ::
2097151 ::
2097151 ::
16777215 ::
33554431 ::
2097151 ::
2097151 ::
2097151 ::
471859199 ::
1073741823 ::
2147483647 ::
4294967295 ::
8589934591 ::
8589934591 ::
34359738367 ::
68719476735 ::
8589934591 ::
274877906943 ::
549755813887 ::
1099511627775 ::
2199023255551 ::
2199023255551 ::
2199023255551 ::
17592186044415 ::
35184372088831 ::
70368744177663 ::
140737488355327 ::
281474976710655 ::
562949953421311 ::
562949953421311 ::
2251799813685247 ::
4503599627370495 ::
9007199254740991 ::
18014398509481983 ::
36028797018963967 ::
72057594037927935 ::
72057594037927935 ::
288230376151711743 ::
576460752303423487 ::
1152921504606846975 ::
2305843009213693951 ::
4611686018427387903 ::
9223372036854775807 ::
9223372036854775807 ::
9223372036854775807 ::
73786976294838206463 ::
147573952589676412927 ::
295147905179352825855 ::
590295810358705651711 ::
1180591620717411303423 :: []) true)
.ret)))
def rv : List RV := [.tmp 0]
theorem enter : En Tryd.prog 10 80 s rv := En.mk (c := Tryd.f10.body.getD .ret) Tryd.func10 rfl (by kernel_rfl) (by kernel_rfl) (by kernel_rfl) (by kernel_rfl)
end law10_head
namespace order_Before
abbrev f : Nat := 11
def s : SCo := (.seq
(F [J 2 (.box 36 (.t 0)),
 J 3 (.box 36 (.t 1)),
 J 4 (.mv (B false))] 3)
(.seq
(F [J 5 (.fld 2 (.t 3)),
 J 6 (.load (some 8) (.t 5)),
 J 7 (.fld 0 (.t 2)),
 J 8 (.load (some 2) (.t 7)),
 J 9 (.call (C 32) [(.t 6), (.t 8)]),
 M 4 9] 6)
.ret))
def rv : List RV := [.tmp 4]
theorem enter : En Tryd.prog 11 10 s rv := En.mk (c := Tryd.f11.body.getD .ret) Tryd.func11 rfl (by kernel_rfl) (by kernel_rfl) (by kernel_rfl) (by kernel_rfl)
end order_Before
namespace law10_same
abbrev f : Nat := 14
def s : SCo := (.seq
(F [J 4 (.mv (B false))] 1)
(.seq
(.seq
(F [M 6 0,
 J 7 (.len (.t 6)),
 M 8 1,
 J 9 (.len (.t 8)),
 J 10 (.bin .neq (.t 7) (.t 9))] 5)
(.cond (.t 10)
(.seq
(F [J 4 (.mv (B false))] 1)
.ret)
.skip))
(.seq
(.seq
(F [J 5 (.mv (Z 0))] 1)
(.block 0
(.loop
(.seq
(.seq
(F [M 11 5,
 M 12 0,
 J 13 (.len (.t 12)),
 J 14 (.bin .lss (.t 11) (.t 13))] 4)
(.cond (.t 14)
.skip
(.exit 0)))
(.seq
(.block 1
(.seq
(.reg [M 17 0,
 M 18 5,
 J 19 (.idxS 29 (.t 17) (.t 18)),
 J 20 (.load (some 29) (.t 19)),
 M 21 1,
 M 22 5,
 J 23 (.idxS 29 (.t 21) (.t 22)),
 J 24 (.load (some 29) (.t 23)),
 J 25 (.call (C 22) [(.t 20), (.t 24)]),
 J 26 (.not (.t 25))] [0,
0,
3,
7,
0,
0,
48,
112,
255,
511] true)
(.cond (.t 26)
(.seq
(F [J 4 (.mv (B false))] 1)
.ret)
.skip)))
(F [M 15 5,
 J 16 (.bin .add (.t 15) (Z 1)),
 M 5 16] 3))))))
(.seq
(F [J 4 (.mv (B true))] 1)
.ret))))
def rv : List RV := [.tmp 4]
theorem enter : En Tryd.prog 14 27 s rv := En.mk (c := Tryd.f14.body.getD .ret) Tryd.func14 rfl (by kernel_rfl) (by kernel_rfl) (by kernel_rfl) (by kernel_rfl)
end law10_same
namespace order_Known
abbrev f : Nat := 15
def s : SCo := (.seq
(F [J 2 (.alloc 32 z8)] 1)
(.seq
(F [J 3 (.alloc 32 z8)] 1)
(.seq
(.seq
(F [M 6 0,
 J 7 (.len (.t 6)),
 J 8 (.mv (Z 0))] 3)
(.block 0
(.loop
(.seq
(F [J 9 (.bin .lss (.t 8) (.t 7))] 1)
(.seq
(.cond (.t 9)
.skip
(.exit 0))
(.seq
(.block 1
(.seq
(F [J 10 (.idxS 29 (.t 6) (.t 8)),
 J 11 (.load (some 29) (.t 10)),
 J 5 (.alloc 36 z29),
 N (.store 29 (.t 5) (.t 11))] 4)
(.seq
(F [J 12 (.fld 0 (.t 5)),
 J 13 (.fld 0 (.t 12)),
 J 14 (.load none (.t 13)),
 J 15 (.conv .i64 (.t 14)),
 J 16 (.bin .lss (.t 15) (Z 8))] 5)
(.cond (.t 16)
(.reg [J 17 (.fld 0 (.t 5)),
 J 18 (.fld 0 (.t 17)),
 J 19 (.load none (.t 18)),
 J 20 (.fld 0 (.t 5)),
 J 21 (.fld 0 (.t 20)),
 J 22 (.load none (.t 21)),
 J 23 (.idxA 8 1 (.t 3) (.t 22)),
 J 24 (.load none (.t 23)),
 J 25 (.fld 0 (.t 5)),
 J 26 (.fld 1 (.t 25)),
 J 27 (.load none (.t 26)),
 J 28 (.mx (.t 24) (.t 27)),
 J 29 (.idxA 8 1 (.t 3) (.t 19)),
 N (.store 1 (.t 29) (.t 28))] [0,
1,
3,
0,
8,
24,
56,
120,
0,
256,
768,
2040,
4095,
8191] true)
.skip))))
(F [J 30 (.bin .add (.t 8) (Z 1)),
 M 8 30] 2)))))))
(.seq
(F [J 31 (.load (some 8) (.t 3)),
 N (.store 8 (.t 2) (.t 31))] 2)
.ret))))
def rv : List RV := [.cell 2 (some 8)]
theorem enter : En Tryd.prog 15 32 s rv := En.mk (c := Tryd.f15.body.getD .ret) Tryd.func15 rfl (by kernel_rfl) (by kernel_rfl) (by kernel_rfl) (by kernel_rfl)
end order_Known
namespace order_Cut
abbrev f : Nat := 16
def s : SCo := (.seq
(F [J 3 (.box 32 (.t 1)),
 J 4 (.mv (.k (.d .nils)))] 2)
(.seq
(F [J 5 (.mv (.k (.d .nils)))] 1)
(.seq
(.seq
(F [M 8 0,
 J 9 (.len (.t 8)),
 J 10 (.mv (Z 0))] 3)
(.block 0
(.loop
(.seq
(F [J 11 (.bin .lss (.t 10) (.t 9))] 1)
(.seq
(.cond (.t 11)
.skip
(.exit 0))
(.seq
(.block 1
(.seq
(F [J 12 (.idxS 29 (.t 8) (.t 10)),
 J 13 (.load (some 29) (.t 12)),
 J 7 (.alloc 36 z29),
 N (.store 29 (.t 7) (.t 13))] 4)
(.seq
(F [J 14 (.load (some 8) (.t 3)),
 J 15 (.fld 0 (.t 7)),
 J 16 (.load (some 2) (.t 15)),
 J 17 (.call (C 32) [(.t 14), (.t 16)])] 4)
(.cond (.t 17)
(F [M 18 5,
 J 19 (.load (some 29) (.t 7)),
 J 20 (.bsl 36 29 1 z29 [(0, 29, (.t 19))]),
 J 21 (.app 36 29 144 (.t 18) (.t 20)),
 M 5 21] 5)
.skip))))
(F [J 22 (.bin .add (.t 10) (Z 1)),
 M 10 22] 2)))))))
(.seq
(F [M 23 5,
 M 4 23] 2)
.ret))))
def rv : List RV := [.tmp 4]
theorem enter : En Tryd.prog 16 24 s rv := En.mk (c := Tryd.f16.body.getD .ret) Tryd.func16 rfl (by kernel_rfl) (by kernel_rfl) (by kernel_rfl) (by kernel_rfl)
end order_Cut
namespace ref10_Compare
abbrev f : Nat := 17
def s : SCo := (.seq
(F [J 2 (.box 36 (.t 0)),
 J 3 (.box 36 (.t 1)),
 J 4 (.mv (Z 0))] 3)
(.seq
(.seq
(F [J 5 (.fld 10 (.t 2)),
 J 6 (.load none (.t 5)),
 J 7 (.fld 10 (.t 3)),
 J 8 (.load none (.t 7)),
 J 9 (.bin .lss (.t 6) (.t 8))] 5)
(.cond (.t 9)
(.seq
(F [J 4 (.mv (.k (.d (.int .i64 (-1)))))] 1)
.ret)
.skip))
(.seq
(.seq
(F [J 10 (.fld 10 (.t 2)),
 J 11 (.load none (.t 10)),
 J 12 (.fld 10 (.t 3)),
 J 13 (.load none (.t 12)),
 J 14 (.bin .gtr (.t 11) (.t 13))] 5)
(.cond (.t 14)
(.seq
(F [J 4 (.mv (Z 1))] 1)
.ret)
.skip))
(.seq
(F [J 15 (.fld 0 (.t 2)),
 J 16 (.load (some 2) (.t 15)),
 J 17 (.fld 0 (.t 3)),
 J 18 (.load (some 2) (.t 17)),
 J 19 (.call (C 40) [(.t 16), (.t 18)]),
 M 4 19] 6)
.ret))))
def rv : List RV := [.tmp 4]
theorem enter : En Tryd.prog 17 20 s rv := En.mk (c := Tryd.f17.body.getD .ret) Tryd.func17 rfl (by kernel_rfl) (by kernel_rfl) (by kernel_rfl) (by kernel_rfl)
end ref10_Compare
namespace ref10_Before
abbrev f : Nat := 18
def s : SCo := (.seq
(F [J 2 (.box 36 (.t 0)),
 J 3 (.box 36 (.t 1)),
 J 4 (.mv (B false))] 3)
(.seq
(F [J 5 (.fld 2 (.t 3)),
 J 6 (.load (some 8) (.t 5)),
 J 7 (.fld 0 (.t 2)),
 J 8 (.load (some 2) (.t 7)),
 J 9 (.call (C 41) [(.t 6), (.t 8)]),
 M 4 9] 6)
.ret))
def rv : List RV := [.tmp 4]
theorem enter : En Tryd.prog 18 10 s rv := En.mk (c := Tryd.f18.body.getD .ret) Tryd.func18 rfl (by kernel_rfl) (by kernel_rfl) (by kernel_rfl) (by kernel_rfl)
end ref10_Before
namespace order_Beside
abbrev f : Nat := 19
def s : SCo := (.seq
(F [J 2 (.box 36 (.t 0)),
 J 3 (.box 36 (.t 1)),
 J 4 (.mv (B false))] 3)
(.seq
(F (J 5 (.fld 0 (.t 2)) ::
 J 6 (.load (some 2) (.t 5)) ::
 J 7 (.fld 0 (.t 3)) ::
 J 8 (.load (some 2) (.t 7)) ::
 J 9 (.eqv true [true, true] (.t 6) (.t 8)) ::
 M 10 9 ::
 H 11 (.load (some 29) (.t 2)) 10 true ::
 H 12 (.load (some 29) (.t 3)) 10 true ::
 H 13 (.call (C 11) [(.t 11), (.t 12)]) 10 true ::
 H 14 (.not (.t 13)) 10 true ::
 J 15 (.pick (.t 10) (.t 14) (B false)) ::
 M 16 15 ::
 H 17 (.load (some 29) (.t 3)) 16 true ::
 H 18 (.load (some 29) (.t 2)) 16 true ::
 H 19 (.call (C 11) [(.t 17), (.t 18)]) 16 true ::
 H 20 (.not (.t 19)) 16 true ::
 J 21 (.pick (.t 16) (.t 20) (B false)) ::
 M 4 21 :: []) 18)
.ret))
def rv : List RV := [.tmp 4]
theorem enter : En Tryd.prog 19 22 s rv := En.mk (c := Tryd.f19.body.getD .ret) Tryd.func19 rfl (by kernel_rfl) (by kernel_rfl) (by kernel_rfl) (by kernel_rfl)
end order_Beside
namespace order_Find
abbrev f : Nat := 20
def s : SCo := (.seq
(F [J 3 (.box 30 (.t 1)),
 J 4 (.alloc 36 z29),
 J 5 (.mv (B false))] 3)
(.seq
(F [M 7 0,
 J 8 (.mkf (.func 43) [] [(.t 3)]),
 J 9 (.call (C 42) [(.t 7), (.t 8)]),
 M 6 9] 4)
(.seq
(.seq
(F [M 10 6,
 J 11 (.bin .lss (.t 10) (Z 0))] 2)
(.cond (.t 11)
(.seq
(F [J 12 (.bld z29 []),
 N (.store 29 (.t 4) (.t 12)),
 J 5 (.mv (B false))] 3)
.ret)
.skip))
(.seq
(F [M 13 0,
 M 14 6,
 J 15 (.idxS 29 (.t 13) (.t 14)),
 J 16 (.load (some 29) (.t 15)),
 N (.store 29 (.t 4) (.t 16)),
 J 5 (.mv (B true))] 6)
.ret))))
def rv : List RV := [.cell 4 (some 29), .tmp 5]
theorem enter : En Tryd.prog 20 17 s rv := En.mk (c := Tryd.f20.body.getD .ret) Tryd.func20 rfl (by kernel_rfl) (by kernel_rfl) (by kernel_rfl) (by kernel_rfl)
end order_Find
namespace ref10_Find
abbrev f : Nat := 21
def s : SCo := (.seq
(F [J 3 (.box 30 (.t 1)),
 J 4 (.alloc 36 z29),
 J 5 (.mv (B false))] 3)
(.seq
(.seq
(F [J 6 (.mv (Z 0))] 1)
(.block 0
(.loop
(.seq
(.seq
(F [M 7 6,
 M 8 0,
 J 9 (.len (.t 8)),
 J 10 (.bin .lss (.t 7) (.t 9))] 4)
(.cond (.t 10)
.skip
(.exit 0)))
(.seq
(.block 1
(.seq
(.reg [M 13 0,
 M 14 6,
 J 15 (.idxS 29 (.t 13) (.t 14)),
 J 16 (.fld 0 (.t 15)),
 J 17 (.load (some 2) (.t 16)),
 J 18 (.load (some 2) (.t 3)),
 J 19 (.eqv false [true, true] (.t 17) (.t 18))] [0,
0,
3,
7,
15,
0,
63] true)
(.cond (.t 19)
(.seq
(F [M 20 0,
 M 21 6,
 J 22 (.idxS 29 (.t 20) (.t 21)),
 J 23 (.load (some 29) (.t 22)),
 N (.store 29 (.t 4) (.t 23)),
 J 5 (.mv (B true))] 6)
.ret)
.skip)))
(F [M 11 6,
 J 12 (.bin .add (.t 11) (Z 1)),
 M 6 12] 3))))))
(.seq
(F [J 24 (.bld z29 []),
 N (.store 29 (.t 4) (.t 24)),
 J 5 (.mv (B false))] 3)
.ret)))
def rv : List RV := [.cell 4 (some 29), .tmp 5]
theorem enter : En Tryd.prog 21 25 s rv := En.mk (c := Tryd.f21.body.getD .ret) Tryd.func21 rfl (by kernel_rfl) (by kernel_rfl) (by kernel_rfl) (by kernel_rfl)
end ref10_Find
namespace ref05_Same
abbrev f : Nat := 22
def s : SCo := (.seq
(F [J 2 (.box 36 (.t 0)),
 J 3 (.box 36 (.t 1)),
 J 4 (.mv (B false))] 3)
(.seq
(.seq
(F [J 6 (.fld 28 (.t 2)),
 J 7 (.load none (.t 6)),
 J 8 (.len (.t 7)),
 J 9 (.fld 28 (.t 3)),
 J 10 (.load none (.t 9)),
 J 11 (.len (.t 10)),
 J 12 (.bin .neq (.t 8) (.t 11))] 7)
(.cond (.t 12)
(.seq
(F [J 4 (.mv (B false))] 1)
.ret)
.skip))
(.seq
(.seq
(F [J 5 (.mv (Z 0))] 1)
(.block 0
(.loop
(.seq
(.seq
(F [M 13 5,
 J 14 (.fld 28 (.t 2)),
 J 15 (.load none (.t 14)),
 J 16 (.len (.t 15)),
 J 17 (.bin .lss (.t 13) (.t 16))] 5)
(.cond (.t 17)
.skip
(.exit 0)))
(.seq
(.block 1
(.seq
(.reg [J 20 (.fld 28 (.t 2)),
 J 21 (.load none (.t 20)),
 M 22 5,
 J 23 (.idxS 4 (.t 21) (.t 22)),
 J 24 (.load (some 4) (.t 23)),
 J 25 (.fld 28 (.t 3)),
 J 26 (.load none (.t 25)),
 M 27 5,
 J 28 (.idxS 4 (.t 26) (.t 27)),
 J 29 (.load (some 4) (.t 28)),
 J 30 (.eqv true [true, true, true, true] (.t 24) (.t 29))] [0,
1,
0,
7,
15,
0,
32,
0,
224,
480,
1023] true)
(.cond (.t 30)
(.seq
(F [J 4 (.mv (B false))] 1)
.ret)
.skip)))
(F [M 18 5,
 J 19 (.bin .add (.t 18) (Z 1)),
 M 5 19] 3))))))
(.seq
(F (J 31 (.fld 0 (.t 2)) ::
 J 32 (.load (some 2) (.t 31)) ::
 J 33 (.fld 0 (.t 3)) ::
 J 34 (.load (some 2) (.t 33)) ::
 J 35 (.eqv false [true, true] (.t 32) (.t 34)) ::
 M 36 35 ::
 H 37 (.fld 2 (.t 2)) 36 true ::
 H 38 (.load (some 8) (.t 37)) 36 true ::
 H 39 (.fld 2 (.t 3)) 36 true ::
 H 40 (.load (some 8) (.t 39)) 36 true ::
 H 41 (.eqv false [true, true, true, true, true, true, true, true] (.t 38) (.t 40)) 36 true ::
 J 42 (.pick (.t 36) (.t 41) (B false)) ::
 M 43 42 ::
 H 44 (.fld 10 (.t 2)) 43 true ::
 H 45 (.load none (.t 44)) 43 true ::
 H 46 (.fld 10 (.t 3)) 43 true ::
 H 47 (.load none (.t 46)) 43 true ::
 H 48 (.bin .eql (.t 45) (.t 47)) 43 true ::
 J 49 (.pick (.t 43) (.t 48) (B false)) ::
 M 50 49 ::
 H 51 (.fld 11 (.t 2)) 50 true ::
 H 52 (.load none (.t 51)) 50 true ::
 H 53 (.fld 11 (.t 3)) 50 true ::
 H 54 (.load none (.t 53)) 50 true ::
 H 55 (.bin .eql (.t 52) (.t 54)) 50 true ::
 J 56 (.pick (.t 50) (.t 55) (B false)) ::
 M 57 56 ::
 H 58 (.fld 12 (.t 2)) 57 true ::
 H 59 (.load (some 2) (.t 58)) 57 true ::
 H 60 (.fld 12 (.t 3)) 57 true ::
 H 61 (.load (some 2) (.t 60)) 57 true ::
 H 62 (.eqv false [true, true] (.t 59) (.t 61)) 57 true ::
 J 63 (.pick (.t 57) (.t 62) (B false)) ::
 M 64 63 ::
 H 65 (.fld 14 (.t 2)) 64 true ::
 H 66 (.load none (.t 65)) 64 true ::
 H 67 (.fld 14 (.t 3)) 64 true ::
 H 68 (.load none (.t 67)) 64 true ::
 H 69 (.bin .eql (.t 66) (.t 68)) 64 true ::
 J 70 (.pick (.t 64) (.t 69) (B false)) ::
 M 71 70 ::
 H 72 (.fld 15 (.t 2)) 71 true ::
 H 73 (.load (some 2) (.t 72)) 71 true ::
 H 74 (.fld 15 (.t 3)) 71 true ::
 H 75 (.load (some 2) (.t 74)) 71 true ::
 H 76 (.eqv false [true, true] (.t 73) (.t 75)) 71 true ::
 J 77 (.pick (.t 71) (.t 76) (B false)) ::
 M 78 77 ::
 H 79 (.fld 17 (.t 2)) 78 true ::
 H 80 (.load none (.t 79)) 78 true ::
 H 81 (.fld 17 (.t 3)) 78 true ::
 H 82 (.load none (.t 81)) 78 true ::
 H 83 (.bin .eql (.t 80) (.t 82)) 78 true ::
 J 84 (.pick (.t 78) (.t 83) (B false)) ::
 M 85 84 ::
 H 86 (.fld 18 (.t 2)) 85 true ::
 H 87 (.load none (.t 86)) 85 true ::
 H 88 (.fld 18 (.t 3)) 85 true ::
 H 89 (.load none (.t 88)) 85 true ::
 H 90 (.bin .eql (.t 87) (.t 89)) 85 true ::
 J 91 (.pick (.t 85) (.t 90) (B false)) ::
 M 92 91 ::
 H 93 (.fld 19 (.t 2)) 92 true ::
 H 94 (.load none (.t 93)) 92 true ::
 H 95 (.fld 19 (.t 3)) 92 true ::
 H 96 (.load none (.t 95)) 92 true ::
 H 97 (.bin .eql (.t 94) (.t 96)) 92 true ::
 J 98 (.pick (.t 92) (.t 97) (B false)) ::
 M 99 98 ::
 H 100 (.fld 20 (.t 2)) 99 true ::
 H 101 (.load none (.t 100)) 99 true ::
 H 102 (.fld 20 (.t 3)) 99 true ::
 H 103 (.load none (.t 102)) 99 true ::
 H 104 (.bin .eql (.t 101) (.t 103)) 99 true ::
 J 105 (.pick (.t 99) (.t 104) (B false)) ::
 M 106 105 ::
 H 107 (.fld 21 (.t 2)) 106 true ::
 H 108 (.load (some 2) (.t 107)) 106 true ::
 H 109 (.fld 21 (.t 3)) 106 true ::
 H 110 (.load (some 2) (.t 109)) 106 true ::
 H 111 (.eqv false [true, true] (.t 108) (.t 110)) 106 true ::
 J 112 (.pick (.t 106) (.t 111) (B false)) ::
 M 113 112 ::
 H 114 (.fld 23 (.t 2)) 113 true ::
 H 115 (.load (some 2) (.t 114)) 113 true ::
 H 116 (.fld 23 (.t 3)) 113 true ::
 H 117 (.load (some 2) (.t 116)) 113 true ::
 H 118 (.eqv false [true, true] (.t 115) (.t 117)) 113 true ::
 J 119 (.pick (.t 113) (.t 118) (B false)) ::
 M 120 119 ::
 H 121 (.fld 25 (.t 2)) 120 true ::
 H 122 (.load none (.t 121)) 120 true ::
 H 123 (.fld 25 (.t 3)) 120 true ::
 H 124 (.load none (.t 123)) 120 true ::
 H 125 (.bin .eql (.t 122) (.t 124)) 120 true ::
 J 126 (.pick (.t 120) (.t 125) (B false)) ::
 M 127 126 ::
 H 128 (.fld 26 (.t 2)) 127 true ::
 H 129 (.load none (.t 128)) 127 true ::
 H 130 (.fld 26 (.t 3)) 127 true ::
 H 131 (.load none (.t 130)) 127 true ::
 H 132 (.bin .eql (.t 129) (.t 131)) 127 true ::
 J 133 (.pick (.t 127) (.t 132) (B false)) ::
 M 134 133 ::
 H 135 (.fld 27 (.t 2)) 134 true ::
 H 136 (.load none (.t 135)) 134 true ::
 H 137 (.fld 27 (.t 3)) 134 true ::
 H 138 (.load none (.t 137)) 134 true ::
 H 139 (.bin .eql (.t 136) (.t 138)) 134 true ::
 J 140 (.pick (.t 134) (.t 139) (B false)) ::
 M 4 140 :: []) 111)
.ret))))
def rv : List RV := [.tmp 4]
theorem enter : En Tryd.prog 22 141 s rv := En.mk (c := Tryd.f22.body.getD .ret) Tryd.func22 rfl (by kernel_rfl) (by kernel_rfl) (by kernel_rfl) (by kernel_rfl)
end ref05_Same
namespace ref10_Sort
abbrev f : Nat := 23
def s : SCo := (.seq
(F [J 2 (.mv (.k (.d .nils)))] 1)
(.seq
(F [J 3 (.mv (.k (.d .nils)))] 1)
(.seq
(.seq
(F [J 4 (.mv (Z 0))] 1)
(.block 0
(.loop
(.seq
(.seq
(F [M 8 4,
 M 9 0,
 J 10 (.len (.t 9)),
 J 11 (.bin .lss (.t 8) (.t 10))] 4)
(.cond (.t 11)
.skip
(.exit 0)))
(.seq
(.block 1
(.seq
(F [M 15 3,
 M 16 0,
 M 17 4,
 J 18 (.idxS 29 (.t 16) (.t 17)),
 J 19 (.fld 0 (.t 18)),
 J 20 (.load (some 2) (.t 19)),
 J 21 (.call (C 21) [(.t 15), (.t 20)]),
 M 14 21,
 J 22 (.ext 0 (.t 14)),
 J 23 (.ext 1 (.t 14)),
 J 5 (.alloc 36 z29),
 N (.store 29 (.t 5) (.t 22)),
 M 6 23] 13)
(.seq
(.seq
(F [M 24 6] 1)
(.cond (.t 24)
(.exit 1)
.skip))
(.seq
(F [M 25 3,
 J 26 (.len (.t 25)),
 M 7 26] 3)
(.seq
(.block 2
(.loop
(.seq
(.seq
(.reg [M 27 7,
 J 28 (.bin .gtr (.t 27) (Z 0)),
 M 29 28,
 G 30 3 29 true,
 G 31 7 29 true,
 H 32 (.bin .sub (.t 31) (Z 1)) 29 true,
 H 33 (.idxS 29 (.t 30) (.t 32)) 29 true,
 H 34 (.load (some 29) (.t 33)) 29 true,
 G 35 0 29 true,
 G 36 4 29 true,
 H 37 (.idxS 29 (.t 35) (.t 36)) 29 true,
 H 38 (.load (some 29) (.t 37)) 29 true,
 H 39 (.call (C 17) [(.t 34), (.t 38)]) 29 true,
 H 40 (.bin .gtr (.t 39) (Z 0)) 29 true,
 J 41 (.pick (.t 29) (.t 40) (B false))] [0,
1,
3,
7,
7,
23,
63,
127,
7,
7,
775,
1799,
4095,
8191,
16383] true)
(.cond (.t 41)
.skip
(.exit 2)))
(.block 3
(F [M 42 7,
 J 43 (.bin .sub (.t 42) (Z 1)),
 M 7 43] 3)))))
(.reg (J 44 (.bsl 36 29 0 [] []) ::
 M 45 3 ::
 M 46 7 ::
 J 47 (.slc 29 (.t 45) none (some (.t 46))) ::
 J 48 (.app 36 29 144 (.t 44) (.t 47)) ::
 M 49 0 ::
 M 50 4 ::
 J 51 (.idxS 29 (.t 49) (.t 50)) ::
 J 52 (.load (some 29) (.t 51)) ::
 J 53 (.bsl 36 29 1 z29 [(0, 29, (.t 52))]) ::
 J 54 (.app 36 29 144 (.t 48) (.t 53)) ::
 M 55 3 ::
 M 56 7 ::
 J 57 (.slc 29 (.t 55) (some (.t 56)) none) ::
 J 58 (.app 36 29 144 (.t 54) (.t 57)) ::
 M 3 58 :: []) (0 ::
0 ::
0 ::
6 ::
15 ::
0 ::
0 ::
96 ::
224 ::
480 ::
1023 ::
0 ::
0 ::
6144 ::
16383 ::
32767 :: []) true))))))
(F [M 12 4,
 J 13 (.bin .add (.t 12) (Z 1)),
 M 4 13] 3))))))
(.seq
(F [M 59 3,
 M 2 59] 2)
.ret))))
def rv : List RV := [.tmp 2]
theorem enter : En Tryd.prog 23 60 s rv := En.mk (c := Tryd.f23.body.getD .ret) Tryd.func23 rfl (by kernel_rfl) (by kernel_rfl) (by kernel_rfl) (by kernel_rfl)
end ref10_Sort
namespace ref10_Cut
abbrev f : Nat := 24
def s : SCo := (.seq
(F [J 3 (.box 32 (.t 1)),
 J 4 (.mv (.k (.d .nils)))] 2)
(.seq
(F [J 5 (.mv (.k (.d .nils)))] 1)
(.seq
(.seq
(F [J 6 (.mv (Z 0))] 1)
(.block 0
(.loop
(.seq
(.seq
(F [M 7 6,
 M 8 0,
 J 9 (.len (.t 8)),
 J 10 (.bin .lss (.t 7) (.t 9))] 4)
(.cond (.t 10)
.skip
(.exit 0)))
(.seq
(.block 1
(.seq
(.reg [J 13 (.load (some 8) (.t 3)),
 M 14 0,
 M 15 6,
 J 16 (.idxS 29 (.t 14) (.t 15)),
 J 17 (.fld 0 (.t 16)),
 J 18 (.load (some 2) (.t 17)),
 J 19 (.call (C 41) [(.t 13), (.t 18)])] [0,
0,
0,
6,
14,
30,
63] true)
(.cond (.t 19)
(F [M 20 5,
 M 21 0,
 M 22 6,
 J 23 (.idxS 29 (.t 21) (.t 22)),
 J 24 (.load (some 29) (.t 23)),
 J 25 (.bsl 36 29 1 z29 [(0, 29, (.t 24))]),
 J 26 (.app 36 29 144 (.t 20) (.t 25)),
 M 5 26] 8)
.skip)))
(F [M 11 6,
 J 12 (.bin .add (.t 11) (Z 1)),
 M 6 12] 3))))))
(.seq
(F [M 27 5,
 M 4 27] 2)
.ret))))
def rv : List RV := [.tmp 4]
theorem enter : En Tryd.prog 24 28 s rv := En.mk (c := Tryd.f24.body.getD .ret) Tryd.func24 rfl (by kernel_rfl) (by kernel_rfl) (by kernel_rfl) (by kernel_rfl)
end ref10_Cut
namespace ref10_Known
abbrev f : Nat := 25
def s : SCo := (.seq
(F [J 2 (.alloc 32 z8)] 1)
(.seq
(F [J 3 (.alloc 32 z8)] 1)
(.seq
(.seq
(F [J 4 (.mv (Z 0))] 1)
(.block 0
(.loop
(.seq
(.seq
(F [M 5 4,
 M 6 0,
 J 7 (.len (.t 6)),
 J 8 (.bin .lss (.t 5) (.t 7))] 4)
(.cond (.t 8)
.skip
(.exit 0)))
(.seq
(.block 1
(.seq
(.reg (M 11 0 ::
 M 12 4 ::
 J 13 (.idxS 29 (.t 11) (.t 12)) ::
 J 14 (.fld 0 (.t 13)) ::
 J 15 (.fld 0 (.t 14)) ::
 J 16 (.load none (.t 15)) ::
 J 17 (.bin .lss (.t 16) (.k (b8 8))) ::
 M 18 17 ::
 G 19 0 18 true ::
 G 20 4 18 true ::
 H 21 (.idxS 29 (.t 19) (.t 20)) 18 true ::
 H 22 (.fld 0 (.t 21)) 18 true ::
 H 23 (.fld 1 (.t 22)) 18 true ::
 H 24 (.load none (.t 23)) 18 true ::
 G 25 0 18 true ::
 G 26 4 18 true ::
 H 27 (.idxS 29 (.t 25) (.t 26)) 18 true ::
 H 28 (.fld 0 (.t 27)) 18 true ::
 H 29 (.fld 0 (.t 28)) 18 true ::
 H 30 (.load none (.t 29)) 18 true ::
 H 31 (.idxA 8 1 (.t 3) (.t 30)) 18 true ::
 H 32 (.load none (.t 31)) 18 true ::
 H 33 (.bin .gtr (.t 24) (.t 32)) 18 true ::
 J 34 (.pick (.t 18) (.t 33) (B false)) :: []) (0 ::
0 ::
3 ::
7 ::
15 ::
31 ::
63 ::
127 ::
255 ::
255 ::
1023 ::
2047 ::
4095 ::
8191 ::
255 ::
255 ::
49407 ::
114943 ::
246015 ::
508159 ::
1032447 ::
2081023 ::
4194303 ::
8388607 :: []) true)
(.cond (.t 34)
(.reg [M 35 0,
 M 36 4,
 J 37 (.idxS 29 (.t 35) (.t 36)),
 J 38 (.fld 0 (.t 37)),
 J 39 (.fld 0 (.t 38)),
 J 40 (.load none (.t 39)),
 M 41 0,
 M 42 4,
 J 43 (.idxS 29 (.t 41) (.t 42)),
 J 44 (.fld 0 (.t 43)),
 J 45 (.fld 1 (.t 44)),
 J 46 (.load none (.t 45)),
 J 47 (.idxA 8 1 (.t 3) (.t 40)),
 N (.store 1 (.t 47) (.t 46))] [0,
0,
3,
7,
15,
31,
0,
0,
192,
448,
960,
1984,
4095,
8191] true)
.skip)))
(F [M 9 4,
 J 10 (.bin .add (.t 9) (Z 1)),
 M 4 10] 3))))))
(.seq
(F [J 48 (.load (some 8) (.t 3)),
 N (.store 8 (.t 2) (.t 48))] 2)
.ret))))
def rv : List RV := [.cell 2 (some 8)]
theorem enter : En Tryd.prog 25 49 s rv := En.mk (c := Tryd.f25.body.getD .ret) Tryd.func25 rfl (by kernel_rfl) (by kernel_rfl) (by kernel_rfl) (by kernel_rfl)
end ref10_Known
namespace ref10_History
abbrev f : Nat := 26
def s : SCo := (.seq
(F [J 4 (.mv (Z 0))] 1)
(.seq
(.seq
(F [M 7 1,
 J 8 (.bin .lss (.t 7) (Z 1)),
 M 9 8,
 G 10 1 9 false,
 H 11 (.bin .gtr (.t 10) (Z 8)) 9 false,
 J 12 (.pick (.t 9) (B true) (.t 11))] 6)
(.cond (.t 12)
(.seq
(F [J 4 (.mv (Z 2))] 1)
.ret)
.skip))
(.seq
(.seq
(F [J 5 (.mv (Z 0))] 1)
(.block 0
(.loop
(.seq
(.seq
(F [M 13 5,
 M 14 0,
 J 15 (.len (.t 14)),
 J 16 (.bin .lss (.t 13) (.t 15))] 4)
(.cond (.t 16)
.skip
(.exit 0)))
(.seq
(.block 1
(.seq
(F [M 19 0,
 M 20 5,
 J 21 (.idxS 29 (.t 19) (.t 20)),
 J 22 (.load (some 29) (.t 21)),
 M 23 1,
 J 24 (.call (C 44) [(.t 22), (.t 23)]),
 J 25 (.bin .neq (.t 24) (Z 0))] 7)
(.cond (.t 25)
(.seq
(F [J 4 (.mv (Z 5))] 1)
.ret)
.skip)))
(F [M 17 5,
 J 18 (.bin .add (.t 17) (Z 1)),
 M 5 18] 3))))))
(.seq
(.seq
(F [J 6 (.mv (Z 0))] 1)
(.block 2
(.loop
(.seq
(.seq
(F [M 26 6,
 M 27 0,
 J 28 (.len (.t 27)),
 J 29 (.bin .lss (.t 26) (.t 28))] 4)
(.cond (.t 29)
.skip
(.exit 2)))
(.seq
(.block 3
(.seq
(F [M 32 0,
 M 33 0,
 M 34 6,
 J 35 (.idxS 29 (.t 33) (.t 34)),
 J 36 (.load (some 29) (.t 35)),
 J 37 (.call (C 45) [(.t 32), (.t 36)]),
 J 38 (.not (.t 37))] 7)
(.cond (.t 38)
(.seq
(F [J 4 (.mv (Z 9))] 1)
.ret)
.skip)))
(F [M 30 6,
 J 31 (.bin .add (.t 30) (Z 1)),
 M 6 31] 3))))))
(.seq
(F [J 4 (.mv (Z 0))] 1)
.ret)))))
def rv : List RV := [.tmp 4]
theorem enter : En Tryd.prog 26 39 s rv := En.mk (c := Tryd.f26.body.getD .ret) Tryd.func26 rfl (by kernel_rfl) (by kernel_rfl) (by kernel_rfl) (by kernel_rfl)
end ref10_History
namespace op_Check
abbrev f : Nat := 27
def s : SCo := (.seq
(F [J 2 (.box 36 (.t 0)),
 J 4 (.mv (Z 0))] 2)
(.seq
(.block 0
(.seq
(F [M 6 1,
 J 7 (.bin .lss (.t 6) (Z 1)),
 M 8 7,
 G 9 1 8 false,
 H 10 (.bin .gtr (.t 9) (Z 8)) 8 false,
 J 11 (.pick (.t 8) (B true) (.t 10)),
 M 5 11] 7)
(.cond (.t 5)
(.seq
(F [J 4 (.mv (Z 2))] 1)
.ret)
(.seq
(.reg (J 13 (.load (some 29) (.t 2)) ::
 M 14 1 ::
 J 15 (.call (C 46) [(.t 13), (.t 14)]) ::
 J 16 (.not (.t 15)) ::
 M 17 16 ::
 H 18 (.load (some 29) (.t 2)) 17 false ::
 H 19 (.call (C 48) [(.t 18)]) 17 false ::
 H 20 (.load (some 29) (.t 2)) 17 false ::
 H 21 (.call (C 47) [(.t 19), (.t 20)]) 17 false ::
 H 22 (.not (.t 21)) 17 false ::
 J 23 (.pick (.t 17) (B true) (.t 22)) ::
 M 24 23 ::
 H 25 (.load (some 29) (.t 2)) 24 false ::
 H 26 (.call (C 49) [(.t 25)]) 24 false ::
 H 27 (.not (.t 26)) 24 false ::
 J 28 (.pick (.t 24) (B true) (.t 27)) ::
 M 12 28 :: []) (0 ::
0 ::
3 ::
7 ::
15 ::
31 ::
63 ::
31 ::
255 ::
511 ::
1023 ::
2047 ::
4095 ::
8191 ::
16383 ::
32767 ::
65535 :: []) true)
(.cond (.t 12)
(.seq
(F [J 4 (.mv (Z 5))] 1)
.ret)
.skip)))))
(.seq
(F [J 4 (.mv (Z 0))] 1)
.ret)))
def rv : List RV := [.tmp 4]
theorem enter : En Tryd.prog 27 29 s rv := En.mk (c := Tryd.f27.body.getD .ret) Tryd.func27 rfl (by kernel_rfl) (by kernel_rfl) (by kernel_rfl) (by kernel_rfl)
end op_Check
namespace vector_Count
abbrev f : Nat := 29
def s : SCo := (.seq
(F [J 1 (.box 32 (.t 0)),
 J 2 (.mv (.k (b64 0)))] 2)
(.seq
(F [J 3 (.mv (.k (b64 0)))] 1)
(.seq
(.seq
(F [J 6 (.load (some 8) (.t 1)),
 J 7 (.mv (Z 0))] 2)
(.block 0
(.loop
(.seq
(F [J 8 (.bin .lss (.t 7) (Z 8))] 1)
(.seq
(.cond (.t 8)
.skip
(.exit 0))
(.seq
(.block 1
(.seq
(F [J 9 (.index 8 1 false (.t 6) (.t 7)),
 M 5 9] 2)
(F [M 10 3,
 M 11 5,
 J 12 (.conv .u64 (.t 11)),
 J 13 (.bin .add (.t 10) (.t 12)),
 M 3 13] 5)))
(F [J 14 (.bin .add (.t 7) (Z 1)),
 M 7 14] 2)))))))
(.seq
(F [M 15 3,
 M 2 15] 2)
.ret))))
def rv : List RV := [.tmp 2]
theorem enter : En Tryd.prog 29 16 s rv := En.mk (c := Tryd.f29.body.getD .ret) Tryd.func29 rfl (by kernel_rfl) (by kernel_rfl) (by kernel_rfl) (by kernel_rfl)
end vector_Count
namespace order_index_fits
abbrev f : Nat := 30
def s : SCo := (.seq
(F [J 3 (.box 54 (.t 0)),
 J 4 (.box 36 (.t 1)),
 J 5 (.box 32 (.t 2)),
 J 6 (.mv (B false))] 4)
(.seq
(F [J 7 (.load (some 8) (.t 5)),
 J 8 (.fld 2 (.t 4)),
 J 9 (.load (some 8) (.t 8)),
 J 10 (.call (C 50) [(.t 7), (.t 9)]),
 M 11 10,
 H 12 (.fld 0 (.t 3)) 11 true,
 H 13 (.load none (.t 12)) 11 true,
 H 14 (.mkf (.func 52) [] [(.t 4)]) 11 true,
 H 15 (.call (C 51) [(.t 13), (.t 14)]) 11 true,
 H 16 (.not (.t 15)) 11 true,
 J 17 (.pick (.t 11) (.t 16) (B false)),
 M 6 17] 12)
.ret))
def rv : List RV := [.tmp 6]
theorem enter : En Tryd.prog 30 18 s rv := En.mk (c := Tryd.f30.body.getD .ret) Tryd.func30 rfl (by kernel_rfl) (by kernel_rfl) (by kernel_rfl) (by kernel_rfl)
end order_index_fits
namespace law10_genesis
abbrev f : Nat := 31
def s : SCo := (.seq
(F [J 6 (.box 32 (.t 2)),
 J 8 (.alloc 36 z29)] 2)
(.seq
(F [M 10 0,
 M 11 1,
 J 12 (.bld [b8 0, b32 0] [(0, 1, (.t 10)), (1, 1, (.t 11))]),
 J 9 (.alloc 30 [b8 0, b32 0]),
 N (.store 2 (.t 9) (.t 12))] 5)
(.seq
(F [J 13 (.load (some 2) (.t 9)),
 J 14 (.load (some 8) (.t 6)),
 M 15 3,
 J 16 (.load (some 2) (.t 9)),
 J 17 (.bld z29 [(0, 2, (.t 13)), (2, 8, (.t 14)), (10, 1, (.t 15)), (11, 1, (.k (b32 1))), (12, 2, (.t 16))]),
 N (.store 29 (.t 8) (.t 17))] 6)
.ret)))
def rv : List RV := [.cell 8 (some 29)]
theorem enter : En Tryd.prog 31 18 s rv := En.mk (c := Tryd.f31.body.getD .ret) Tryd.func31 rfl (by kernel_rfl) (by kernel_rfl) (by kernel_rfl) (by kernel_rfl)
end law10_genesis
namespace vector_Covers
abbrev f : Nat := 32
def s : SCo := (.seq
(F [J 2 (.box 32 (.t 0)),
 J 3 (.box 30 (.t 1)),
 J 4 (.mv (B false))] 3)
(.seq
(.reg [J 5 (.load (some 2) (.t 3)),
 J 6 (.call (C 53) [(.t 5)]),
 M 7 6,
 H 8 (.fld 0 (.t 3)) 7 true,
 H 9 (.load none (.t 8)) 7 true,
 H 10 (.idxA 8 1 (.t 2) (.t 9)) 7 true,
 H 11 (.load none (.t 10)) 7 true,
 H 12 (.fld 1 (.t 3)) 7 true,
 H 13 (.load none (.t 12)) 7 true,
 H 14 (.bin .geq (.t 11) (.t 13)) 7 true,
 J 15 (.pick (.t 7) (.t 14) (B false)),
 M 4 15] [0,
1,
3,
7,
15,
31,
63,
7,
135,
511,
1023,
2047] true)
.ret))
def rv : List RV := [.tmp 4]
theorem enter : En Tryd.prog 32 16 s rv := En.mk (c := Tryd.f32.body.getD .ret) Tryd.func32 rfl (by kernel_rfl) (by kernel_rfl) (by kernel_rfl) (by kernel_rfl)
end vector_Covers
namespace ref03_Compare
abbrev f : Nat := 40
def s : SCo := (.seq
(F [J 2 (.box 30 (.t 0)),
 J 3 (.box 30 (.t 1)),
 J 4 (.mv (Z 0))] 3)
(.seq
(.reg (J 7 (.fld 0 (.t 2)) ::
 J 8 (.load none (.t 7)) ::
 J 9 (.conv .i64 (.t 8)) ::
 J 10 (.bin .mul (.t 9) (Z 8589934592)) ::
 J 11 (.fld 1 (.t 2)) ::
 J 12 (.load none (.t 11)) ::
 J 13 (.conv .i64 (.t 12)) ::
 J 14 (.bin .add (.t 10) (.t 13)) ::
 J 15 (.fld 0 (.t 3)) ::
 J 16 (.load none (.t 15)) ::
 J 17 (.conv .i64 (.t 16)) ::
 J 18 (.bin .mul (.t 17) (Z 8589934592)) ::
 J 19 (.fld 1 (.t 3)) ::
 J 20 (.load none (.t 19)) ::
 J 21 (.conv .i64 (.t 20)) ::
 J 22 (.bin .add (.t 18) (.t 21)) ::
 M 5 14 ::
 M 6 22 :: []) (0 ::
1 ::
3 ::
7 ::
0 ::
16 ::
48 ::
127 ::
0 ::
256 ::
768 ::
1792 ::
0 ::
4096 ::
12288 ::
32512 ::
255 ::
131071 :: []) true)
(.seq
(.seq
(F [M 23 5,
 M 24 6,
 J 25 (.bin .lss (.t 23) (.t 24))] 3)
(.cond (.t 25)
(.seq
(F [J 4 (.mv (.k (.d (.int .i64 (-1)))))] 1)
.ret)
.skip))
(.seq
(.seq
(F [M 26 5,
 M 27 6,
 J 28 (.bin .gtr (.t 26) (.t 27))] 3)
(.cond (.t 28)
(.seq
(F [J 4 (.mv (Z 1))] 1)
.ret)
.skip))
(.seq
(F [J 4 (.mv (Z 0))] 1)
.ret)))))
def rv : List RV := [.tmp 4]
theorem enter : En Tryd.prog 40 29 s rv := En.mk (c := Tryd.f40.body.getD .ret) Tryd.func40 rfl (by kernel_rfl) (by kernel_rfl) (by kernel_rfl) (by kernel_rfl)
end ref03_Compare
namespace ref04_Covers
abbrev f : Nat := 41
def s : SCo := (.seq
(F [J 2 (.box 32 (.t 0)),
 J 3 (.box 30 (.t 1)),
 J 4 (.mv (B false))] 3)
(.seq
(.reg [J 5 (.load (some 2) (.t 3)),
 J 6 (.call (C 60) [(.t 5)]),
 M 7 6,
 H 8 (.fld 1 (.t 3)) 7 true,
 H 9 (.load none (.t 8)) 7 true,
 H 10 (.fld 0 (.t 3)) 7 true,
 H 11 (.load none (.t 10)) 7 true,
 H 12 (.idxA 8 1 (.t 2) (.t 11)) 7 true,
 H 13 (.load none (.t 12)) 7 true,
 H 14 (.bin .leq (.t 9) (.t 13)) 7 true,
 J 15 (.pick (.t 7) (.t 14) (B false)),
 M 4 15] [0,
1,
3,
7,
15,
7,
39,
103,
231,
511,
1023,
2047] true)
.ret))
def rv : List RV := [.tmp 4]
theorem enter : En Tryd.prog 41 16 s rv := En.mk (c := Tryd.f41.body.getD .ret) Tryd.func41 rfl (by kernel_rfl) (by kernel_rfl) (by kernel_rfl) (by kernel_rfl)
end ref04_Covers
namespace slices_IndexFunc_Lapi_Op_api_Op
abbrev f : Nat := 42
def s : SCo := (.seq
(F [J 4 (.mv (Z 0))] 1)
(.seq
(.seq
(F [M 6 0,
 J 7 (.len (.t 6)),
 J 8 (.mv (Z 0))] 3)
(.block 0
(.loop
(.seq
(F [J 9 (.bin .lss (.t 8) (.t 7))] 1)
(.seq
(.cond (.t 9)
.skip
(.exit 0))
(.seq
(.block 1
(.seq
(F [M 10 8,
 M 5 10] 2)
(.seq
(F [M 11 1,
 M 12 0,
 M 13 5,
 J 14 (.idxS 29 (.t 12) (.t 13)),
 J 15 (.load (some 29) (.t 14)),
 J 16 (.call (.t 11) [(.t 15)])] 6)
(.cond (.t 16)
(.seq
(F [M 17 5,
 M 4 17] 2)
.ret)
.skip))))
(F [J 18 (.bin .add (.t 8) (Z 1)),
 M 8 18] 2)))))))
(.seq
(F [J 4 (.mv (.k (.d (.int .i64 (-1)))))] 1)
.ret)))
def rv : List RV := [.tmp 4]
theorem enter : En Tryd.prog 42 19 s rv := En.mk (c := Tryd.f42.body.getD .ret) Tryd.func42 rfl (by kernel_rfl) (by kernel_rfl) (by kernel_rfl) (by kernel_rfl)
end slices_IndexFunc_Lapi_Op_api_Op
namespace order_Find_1
abbrev f : Nat := 43
def s : SCo := (.seq
(F [J 2 (.box 36 (.t 0)),
 J 3 (.mv (B false))] 2)
(.seq
(F [J 4 (.fld 0 (.t 2)),
 J 5 (.load (some 2) (.t 4)),
 J 6 (.load (some 2) (.t 1)),
 J 7 (.eqv false [true, true] (.t 5) (.t 6)),
 M 3 7] 5)
.ret))
def rv : List RV := [.tmp 3]
theorem enter : En Tryd.prog 43 8 s rv := En.mk (c := Tryd.f43.body.getD .ret) Tryd.func43 rfl (by kernel_rfl) (by kernel_rfl) (by kernel_rfl) (by kernel_rfl)
end order_Find_1
namespace ref05_Check
abbrev f : Nat := 44
def s : SCo := (.seq
(F [J 2 (.box 36 (.t 0)),
 J 4 (.mv (Z 0))] 2)
(.seq
(.seq
(F [M 7 1,
 J 8 (.bin .lss (.t 7) (Z 1)),
 M 9 8,
 G 10 1 9 false,
 H 11 (.bin .gtr (.t 10) (Z 8)) 9 false,
 J 12 (.pick (.t 9) (B true) (.t 11))] 6)
(.cond (.t 12)
(.seq
(F [J 4 (.mv (Z 2))] 1)
.ret)
.skip))
(.seq
(.seq
(.reg (J 13 (.fld 0 (.t 2)) ::
 J 14 (.fld 0 (.t 13)) ::
 J 15 (.load none (.t 14)) ::
 J 16 (.conv .i64 (.t 15)) ::
 M 17 1 ::
 J 18 (.bin .geq (.t 16) (.t 17)) ::
 M 19 18 ::
 H 20 (.fld 0 (.t 2)) 19 false ::
 H 21 (.fld 1 (.t 20)) 19 false ::
 H 22 (.load none (.t 21)) 19 false ::
 H 23 (.bin .eql (.t 22) (.k (b32 0))) 19 false ::
 J 24 (.pick (.t 19) (B true) (.t 23)) ::
 M 25 24 ::
 H 26 (.fld 0 (.t 2)) 25 false ::
 H 27 (.fld 0 (.t 26)) 25 false ::
 H 28 (.load none (.t 27)) 25 false ::
 H 29 (.fld 2 (.t 2)) 25 false ::
 H 30 (.idxA 8 1 (.t 29) (.t 28)) 25 false ::
 H 31 (.load none (.t 30)) 25 false ::
 H 32 (.fld 0 (.t 2)) 25 false ::
 H 33 (.fld 1 (.t 32)) 25 false ::
 H 34 (.load none (.t 33)) 25 false ::
 H 35 (.bin .sub (.t 34) (.k (b32 1))) 25 false ::
 H 36 (.bin .neq (.t 31) (.t 35)) 25 false ::
 J 37 (.pick (.t 25) (B true) (.t 36)) ::
 M 38 37 ::
 H 39 (.fld 10 (.t 2)) 38 false ::
 H 40 (.load none (.t 39)) 38 false ::
 H 41 (.bin .lss (.t 40) (.k (b64 1))) 38 false ::
 J 42 (.pick (.t 38) (B true) (.t 41)) ::
 M 43 42 ::
 H 44 (.fld 10 (.t 2)) 43 false ::
 H 45 (.load none (.t 44)) 43 false ::
 H 46 (.bin .gtr (.t 45) (.k (b64 281474976710656))) 43 false ::
 J 47 (.pick (.t 43) (B true) (.t 46)) ::
 M 48 47 ::
 H 49 (.fld 11 (.t 2)) 48 false ::
 H 50 (.load none (.t 49)) 48 false ::
 H 51 (.bin .eql (.t 50) (.k (b32 0))) 48 false ::
 J 52 (.pick (.t 48) (B true) (.t 51)) ::
 M 53 52 ::
 H 54 (.fld 14 (.t 2)) 53 false ::
 H 55 (.load none (.t 54)) 53 false ::
 H 56 (.bin .gtr (.t 55) (.k (b8 8))) 53 false ::
 J 57 (.pick (.t 53) (B true) (.t 56)) ::
 M 58 57 ::
 H 59 (.load (some 29) (.t 2)) 58 false ::
 H 60 (.call (C 61) [(.t 59)]) 58 false ::
 H 61 (.not (.t 60)) 58 false ::
 J 62 (.pick (.t 58) (B true) (.t 61)) :: []) (0 ::
1 ::
3 ::
7 ::
0 ::
31 ::
63 ::
127 ::
255 ::
511 ::
1023 ::
2047 ::
4095 ::
8191 ::
16383 ::
32767 ::
8191 ::
131071 ::
262143 ::
8191 ::
532479 ::
1581055 ::
3678207 ::
8388607 ::
16777215 ::
33554431 ::
67108863 ::
134217727 ::
268435455 ::
536870911 ::
1073741823 ::
2147483647 ::
4294967295 ::
8589934591 ::
17179869183 ::
34359738367 ::
68719476735 ::
137438953471 ::
274877906943 ::
549755813887 ::
1099511627775 ::
2199023255551 ::
4398046511103 ::
8796093022207 ::
17592186044415 ::
35184372088831 ::
70368744177663 ::
140737488355327 ::
281474976710655 ::
562949953421311 :: []) true)
(.cond (.t 62)
(.seq
(F [J 4 (.mv (Z 5))] 1)
.ret)
.skip))
(.seq
(.seq
(F [M 63 1,
 M 5 63] 2)
(.block 0
(.loop
(.seq
(.seq
(F [M 64 5,
 J 65 (.bin .lss (.t 64) (Z 8))] 2)
(.cond (.t 65)
.skip
(.exit 0)))
(.seq
(.block 1
(.seq
(F [M 68 5,
 J 69 (.fld 2 (.t 2)),
 J 70 (.idxA 8 1 (.t 69) (.t 68)),
 J 71 (.load none (.t 70)),
 J 72 (.bin .neq (.t 71) (.k (b32 0)))] 5)
(.cond (.t 72)
(.seq
(F [J 4 (.mv (Z 5))] 1)
.ret)
.skip)))
(F [M 66 5,
 J 67 (.bin .add (.t 66) (Z 1)),
 M 5 67] 3))))))
(.seq
(F [J 73 (.fld 14 (.t 2)),
 J 74 (.load none (.t 73)),
 J 75 (.call (C 62) [(.t 74)]),
 M 6 75] 4)
(.seq
(.seq
(F (J 76 (.fld 14 (.t 2)) ::
 J 77 (.load none (.t 76)) ::
 J 78 (.bin .eql (.t 77) (.k (b8 0))) ::
 M 79 78 ::
 H 80 (.fld 12 (.t 2)) 79 true ::
 H 81 (.load (some 2) (.t 80)) 79 true ::
 H 82 (.fld 0 (.t 2)) 79 true ::
 H 83 (.load (some 2) (.t 82)) 79 true ::
 H 84 (.eqv true [true, true] (.t 81) (.t 83)) 79 true ::
 J 85 (.pick (.t 79) (.t 84) (B false)) ::
 M 86 85 ::
 H 87 (.fld 14 (.t 2)) 86 false ::
 H 88 (.load none (.t 87)) 86 false ::
 H 89 (.bin .neq (.t 88) (.k (b8 0))) 86 false ::
 G 90 89 86 false ::
 H 91 (.load (some 29) (.t 2)) 90 true ::
 H 92 (.fld 12 (.t 2)) 90 true ::
 H 93 (.load (some 2) (.t 92)) 90 true ::
 H 94 (.call (C 63) [(.t 91), (.t 93)]) 90 true ::
 H 95 (.not (.t 94)) 90 true ::
 H 96 (.pick (.t 90) (.t 95) (B false)) 86 false ::
 J 97 (.pick (.t 86) (B true) (.t 96)) ::
 M 98 97 ::
 G 99 6 98 false ::
 H 100 (.call (C 64) [(.t 99), (.k (b8 99))]) 98 false ::
 G 101 100 98 false ::
 H 102 (.load (some 29) (.t 2)) 101 true ::
 H 103 (.fld 15 (.t 2)) 101 true ::
 H 104 (.load (some 2) (.t 103)) 101 true ::
 H 105 (.call (C 63) [(.t 102), (.t 104)]) 101 true ::
 H 106 (.not (.t 105)) 101 true ::
 H 107 (.pick (.t 101) (.t 106) (B false)) 98 false ::
 J 108 (.pick (.t 98) (B true) (.t 107)) ::
 M 109 108 ::
 G 110 6 109 false ::
 H 111 (.call (C 64) [(.t 110), (.k (b8 97))]) 109 false ::
 G 112 111 109 false ::
 H 113 (.load (some 29) (.t 2)) 112 true ::
 H 114 (.fld 21 (.t 2)) 112 true ::
 H 115 (.load (some 2) (.t 114)) 112 true ::
 H 116 (.call (C 63) [(.t 113), (.t 115)]) 112 true ::
 H 117 (.not (.t 116)) 112 true ::
 H 118 (.pick (.t 112) (.t 117) (B false)) 109 false ::
 J 119 (.pick (.t 109) (B true) (.t 118)) ::
 M 120 119 ::
 G 121 6 120 false ::
 H 122 (.call (C 64) [(.t 121), (.k (b8 118))]) 120 false ::
 G 123 122 120 false ::
 H 124 (.load (some 29) (.t 2)) 123 true ::
 H 125 (.fld 23 (.t 2)) 123 true ::
 H 126 (.load (some 2) (.t 125)) 123 true ::
 H 127 (.call (C 63) [(.t 124), (.t 126)]) 123 true ::
 H 128 (.not (.t 127)) 123 true ::
 H 129 (.pick (.t 123) (.t 128) (B false)) 120 false ::
 J 130 (.pick (.t 120) (B true) (.t 129)) :: []) 55)
(.cond (.t 130)
(.seq
(F [J 4 (.mv (Z 5))] 1)
.ret)
.skip))
(.seq
(.seq
(F (M 131 6 ::
 J 132 (.call (C 64) [(.t 131), (.k (b8 116))]) ::
 M 133 132 ::
 H 134 (.fld 17 (.t 2)) 133 true ::
 H 135 (.load none (.t 134)) 133 true ::
 H 136 (.bin .eql (.t 135) (.k (b32 0))) 133 true ::
 G 137 136 133 true ::
 H 138 (.fld 18 (.t 2)) 137 false ::
 H 139 (.load none (.t 138)) 137 false ::
 H 140 (.bin .lss (.t 139) (.k (b8 1))) 137 false ::
 H 141 (.pick (.t 137) (B true) (.t 140)) 133 true ::
 G 142 141 133 true ::
 H 143 (.fld 18 (.t 2)) 142 false ::
 H 144 (.load none (.t 143)) 142 false ::
 H 145 (.bin .gtr (.t 144) (.k (b8 7))) 142 false ::
 H 146 (.pick (.t 142) (B true) (.t 145)) 133 true ::
 G 147 146 133 true ::
 H 148 (.fld 19 (.t 2)) 147 false ::
 H 149 (.load none (.t 148)) 147 false ::
 H 150 (.bin .gtr (.t 149) (.k (b8 7))) 147 false ::
 H 151 (.pick (.t 147) (B true) (.t 150)) 133 true ::
 G 152 151 133 true ::
 H 153 (.fld 20 (.t 2)) 152 false ::
 H 154 (.load none (.t 153)) 152 false ::
 H 155 (.bin .gtr (.t 154) (.k (b64 1099511627776))) 152 false ::
 H 156 (.pick (.t 152) (B true) (.t 155)) 133 true ::
 J 157 (.pick (.t 133) (.t 156) (B false)) ::
 M 158 157 ::
 G 159 6 158 false ::
 H 160 (.call (C 64) [(.t 159), (.k (b8 113))]) 158 false ::
 G 161 160 158 false ::
 H 162 (.fld 26 (.t 2)) 161 true ::
 H 163 (.load none (.t 162)) 161 true ::
 H 164 (.bin .lss (.t 163) (.k (b32 1))) 161 true ::
 G 165 164 161 true ::
 H 166 (.fld 26 (.t 2)) 165 false ::
 H 167 (.load none (.t 166)) 165 false ::
 H 168 (.bin .gtr (.t 167) (.k (b32 65535))) 165 false ::
 H 169 (.pick (.t 165) (B true) (.t 168)) 161 true ::
 H 170 (.pick (.t 161) (.t 169) (B false)) 158 false ::
 J 171 (.pick (.t 158) (B true) (.t 170)) ::
 M 172 171 ::
 H 173 (.fld 27 (.t 2)) 172 false ::
 H 174 (.load none (.t 173)) 172 false ::
 H 175 (.bin .gtr (.t 174) (.k (b32 16777215))) 172 false ::
 J 176 (.pick (.t 172) (B true) (.t 175)) ::
 M 177 176 ::
 G 178 6 177 false ::
 H 179 (.call (C 64) [(.t 178), (.k (b8 108))]) 177 false ::
 G 180 179 177 false ::
 H 181 (.load (some 29) (.t 2)) 180 true ::
 H 182 (.call (C 65) [(.t 181)]) 180 true ::
 H 183 (.not (.t 182)) 180 true ::
 H 184 (.pick (.t 180) (.t 183) (B false)) 177 false ::
 J 185 (.pick (.t 177) (B true) (.t 184)) :: []) 55)
(.cond (.t 185)
(.seq
(F [J 4 (.mv (Z 5))] 1)
.ret)
.skip))
(.seq
(F [J 4 (.mv (Z 0))] 1)
.ret))))))))
def rv : List RV := [.tmp 4]
theorem enter : En Tryd.prog 44 186 s rv := En.mk (c := Tryd.f44.body.getD .ret) Tryd.func44 rfl (by kernel_rfl) (by kernel_rfl) (by kernel_rfl) (by kernel_rfl)
end ref05_Check
namespace ref10_one
abbrev f : Nat := 45
def s : SCo := (.seq
(F [J 3 (.box 36 (.t 1)),
 J 4 (.mv (B false))] 2)
(.seq
(.seq
(F (M 7 0 ::
 J 8 (.fld 0 (.t 3)) ::
 J 9 (.load (some 2) (.t 8)) ::
 J 10 (.call (C 66) [(.t 7), (.t 9)]) ::
 J 11 (.bin .neq (.t 10) (Z 1)) ::
 M 12 11 ::
 H 13 (.fld 0 (.t 3)) 12 false ::
 H 14 (.fld 1 (.t 13)) 12 false ::
 H 15 (.load none (.t 14)) 12 false ::
 H 16 (.bin .gtr (.t 15) (.k (b32 1))) 12 false ::
 G 17 16 12 false ::
 G 18 0 17 true ::
 H 19 (.fld 0 (.t 3)) 17 true ::
 H 20 (.fld 0 (.t 19)) 17 true ::
 H 21 (.load none (.t 20)) 17 true ::
 H 22 (.fld 0 (.t 3)) 17 true ::
 H 23 (.fld 1 (.t 22)) 17 true ::
 H 24 (.load none (.t 23)) 17 true ::
 H 25 (.bin .sub (.t 24) (.k (b32 1))) 17 true ::
 H 26 (.bld [b8 0, b32 0] [(0, 1, (.t 21)), (1, 1, (.t 25))]) 17 true ::
 H 27 (.call (C 66) [(.t 18), (.t 26)]) 17 true ::
 H 28 (.bin .neq (.t 27) (Z 1)) 17 true ::
 H 29 (.pick (.t 17) (.t 28) (B false)) 12 false ::
 J 30 (.pick (.t 12) (B true) (.t 29)) :: []) 24)
(.cond (.t 30)
(.seq
(F [J 4 (.mv (B false))] 1)
.ret)
.skip))
(.seq
(.seq
(F [J 5 (.mv (Z 0))] 1)
(.block 0
(.loop
(.seq
(.seq
(F [M 31 5,
 J 32 (.bin .lss (.t 31) (Z 8))] 2)
(.cond (.t 32)
.skip
(.exit 0)))
(.seq
(.block 1
(.seq
(F (M 35 5 ::
 J 36 (.fld 2 (.t 3)) ::
 J 37 (.idxA 8 1 (.t 36) (.t 35)) ::
 J 38 (.load none (.t 37)) ::
 J 39 (.bin .gtr (.t 38) (.k (b32 0))) ::
 M 40 39 ::
 G 41 0 40 true ::
 G 42 5 40 true ::
 H 43 (.conv .u8 (.t 42)) 40 true ::
 G 44 5 40 true ::
 H 45 (.fld 2 (.t 3)) 40 true ::
 H 46 (.idxA 8 1 (.t 45) (.t 44)) 40 true ::
 H 47 (.load none (.t 46)) 40 true ::
 H 48 (.bld [b8 0, b32 0] [(0, 1, (.t 43)), (1, 1, (.t 47))]) 40 true ::
 H 49 (.call (C 66) [(.t 41), (.t 48)]) 40 true ::
 H 50 (.bin .neq (.t 49) (Z 1)) 40 true ::
 J 51 (.pick (.t 40) (.t 50) (B false)) :: []) 17)
(.cond (.t 51)
(.seq
(F [J 4 (.mv (B false))] 1)
.ret)
.skip)))
(F [M 33 5,
 J 34 (.bin .add (.t 33) (Z 1)),
 M 5 34] 3))))))
(.seq
(.seq
(F [J 6 (.mv (Z 0))] 1)
(.block 2
(.loop
(.seq
(.seq
(F [M 52 6,
 M 53 0,
 J 54 (.len (.t 53)),
 J 55 (.bin .lss (.t 52) (.t 54))] 4)
(.cond (.t 55)
.skip
(.exit 2)))
(.seq
(.block 3
(.seq
(.reg (M 58 0 ::
 M 59 6 ::
 J 60 (.idxS 29 (.t 58) (.t 59)) ::
 J 61 (.load (some 29) (.t 60)) ::
 J 62 (.load (some 29) (.t 3)) ::
 J 63 (.call (C 18) [(.t 61), (.t 62)]) ::
 M 64 63 ::
 G 65 0 64 true ::
 G 66 6 64 true ::
 H 67 (.idxS 29 (.t 65) (.t 66)) 64 true ::
 H 68 (.fld 10 (.t 67)) 64 true ::
 H 69 (.load none (.t 68)) 64 true ::
 H 70 (.fld 10 (.t 3)) 64 true ::
 H 71 (.load none (.t 70)) 64 true ::
 H 72 (.bin .geq (.t 69) (.t 71)) 64 true ::
 G 73 72 64 true ::
 H 74 (.fld 2 (.t 3)) 73 false ::
 H 75 (.load (some 8) (.t 74)) 73 false ::
 G 76 0 73 false ::
 G 77 6 73 false ::
 H 78 (.idxS 29 (.t 76) (.t 77)) 73 false ::
 H 79 (.fld 2 (.t 78)) 73 false ::
 H 80 (.load (some 8) (.t 79)) 73 false ::
 H 81 (.call (C 67) [(.t 75), (.t 80)]) 73 false ::
 H 82 (.not (.t 81)) 73 false ::
 H 83 (.pick (.t 73) (B true) (.t 82)) 64 true ::
 J 84 (.pick (.t 64) (.t 83) (B false)) :: []) (0 ::
0 ::
3 ::
7 ::
0 ::
31 ::
63 ::
127 ::
127 ::
511 ::
1023 ::
2047 ::
127 ::
4223 ::
16383 ::
32767 ::
65535 ::
131071 ::
65535 ::
65535 ::
851967 ::
1900543 ::
3997695 ::
8388607 ::
16777215 ::
33554431 ::
67108863 :: []) true)
(.cond (.t 84)
(.seq
(F [J 4 (.mv (B false))] 1)
.ret)
.skip)))
(F [M 56 6,
 J 57 (.bin .add (.t 56) (Z 1)),
 M 6 57] 3))))))
(.seq
(F [J 4 (.mv (B true))] 1)
.ret)))))
def rv : List RV := [.tmp 4]
theorem enter : En Tryd.prog 45 85 s rv := En.mk (c := Tryd.f45.body.getD .ret) Tryd.func45 rfl (by kernel_rfl) (by kernel_rfl) (by kernel_rfl) (by kernel_rfl)
end ref10_one
namespace op_head
abbrev f : Nat := 46
def s : SCo := (.seq
(F [J 2 (.box 36 (.t 0)),
 J 4 (.mv (B false))] 2)
(.seq
(.seq
(.reg (J 6 (.fld 0 (.t 2)) ::
 J 7 (.fld 0 (.t 6)) ::
 J 8 (.load none (.t 7)) ::
 J 9 (.conv .i64 (.t 8)) ::
 M 10 1 ::
 J 11 (.bin .geq (.t 9) (.t 10)) ::
 M 12 11 ::
 H 13 (.fld 0 (.t 2)) 12 false ::
 H 14 (.fld 1 (.t 13)) 12 false ::
 H 15 (.load none (.t 14)) 12 false ::
 H 16 (.bin .eql (.t 15) (.k (b32 0))) 12 false ::
 J 17 (.pick (.t 12) (B true) (.t 16)) ::
 M 18 17 ::
 H 19 (.fld 0 (.t 2)) 18 false ::
 H 20 (.fld 0 (.t 19)) 18 false ::
 H 21 (.load none (.t 20)) 18 false ::
 H 22 (.fld 2 (.t 2)) 18 false ::
 H 23 (.idxA 8 1 (.t 22) (.t 21)) 18 false ::
 H 24 (.load none (.t 23)) 18 false ::
 H 25 (.fld 0 (.t 2)) 18 false ::
 H 26 (.fld 1 (.t 25)) 18 false ::
 H 27 (.load none (.t 26)) 18 false ::
 H 28 (.bin .sub (.t 27) (.k (b32 1))) 18 false ::
 H 29 (.bin .neq (.t 24) (.t 28)) 18 false ::
 J 30 (.pick (.t 18) (B true) (.t 29)) :: []) (0 ::
1 ::
3 ::
7 ::
0 ::
31 ::
63 ::
127 ::
255 ::
511 ::
1023 ::
2047 ::
4095 ::
8191 ::
16383 ::
32767 ::
8191 ::
131071 ::
262143 ::
8191 ::
532479 ::
1581055 ::
3678207 ::
8388607 ::
16777215 :: []) true)
(.cond (.t 30)
(.seq
(F [J 4 (.mv (B false))] 1)
.ret)
.skip))
(.seq
(F [J 31 (.bld z8 []),
 J 5 (.alloc 32 z8),
 N (.store 8 (.t 5) (.t 31))] 3)
(.seq
(.reg [M 32 1,
 J 33 (.slcA 8 1 (.t 5) none (some (.t 32))),
 J 34 (.fld 2 (.t 2)),
 M 35 1,
 J 36 (.slcA 8 1 (.t 34) none (some (.t 35))),
 J 37 (.copy 28 1 (.t 33) (.t 36))] [0,
1,
0,
0,
12,
31] true)
(.seq
(F (J 38 (.load (some 8) (.t 5)) ::
 J 39 (.fld 2 (.t 2)) ::
 J 40 (.load (some 8) (.t 39)) ::
 J 41 (.eqv false [true, true, true, true, true, true, true, true] (.t 38) (.t 40)) ::
 M 42 41 ::
 H 43 (.fld 10 (.t 2)) 42 true ::
 H 44 (.load none (.t 43)) 42 true ::
 H 45 (.bin .gtr (.t 44) (.k (b64 0))) 42 true ::
 J 46 (.pick (.t 42) (.t 45) (B false)) ::
 M 47 46 ::
 H 48 (.fld 10 (.t 2)) 47 true ::
 H 49 (.load none (.t 48)) 47 true ::
 H 50 (.bin .leq (.t 49) (.k (b64 281474976710656))) 47 true ::
 J 51 (.pick (.t 47) (.t 50) (B false)) ::
 M 52 51 ::
 H 53 (.fld 11 (.t 2)) 52 true ::
 H 54 (.load none (.t 53)) 52 true ::
 H 55 (.bin .gtr (.t 54) (.k (b32 0))) 52 true ::
 J 56 (.pick (.t 52) (.t 55) (B false)) ::
 M 57 56 ::
 H 58 (.fld 14 (.t 2)) 57 true ::
 H 59 (.load none (.t 58)) 57 true ::
 H 60 (.bin .leq (.t 59) (.k (b8 8))) 57 true ::
 J 61 (.pick (.t 57) (.t 60) (B false)) ::
 M 4 61 :: []) 25)
.ret)))))
def rv : List RV := [.tmp 4]
theorem enter : En Tryd.prog 46 62 s rv := En.mk (c := Tryd.f46.body.getD .ret) Tryd.func46 rfl (by kernel_rfl) (by kernel_rfl) (by kernel_rfl) (by kernel_rfl)
end op_head
namespace op_Same
abbrev f : Nat := 47
def s : SCo := (.seq
(F [J 2 (.box 36 (.t 0)),
 J 3 (.box 36 (.t 1)),
 J 4 (.mv (B false))] 3)
(.seq
(.reg [J 5 (.load (some 29) (.t 2)),
 J 6 (.call (C 68) [(.t 5)]),
 J 7 (.load (some 29) (.t 3)),
 J 8 (.call (C 68) [(.t 7)]),
 J 9 (.eqv false [true, true, true, true, true, true, true, true, true, true, true, true, true, true, true, true, true, true, true, true, true, true, true, true, true, true, true, true] (.t 6) (.t 8)),
 M 10 9,
 H 11 (.fld 28 (.t 2)) 10 true,
 H 12 (.load none (.t 11)) 10 true,
 H 13 (.fld 28 (.t 3)) 10 true,
 H 14 (.load none (.t 13)) 10 true,
 H 15 (.call (C 69) [(.t 12), (.t 14)]) 10 true,
 J 16 (.pick (.t 10) (.t 15) (B false)),
 M 4 16] [0,
1,
0,
7,
15,
31,
63,
127,
63,
319,
1023,
2047,
4095] true)
.ret))
def rv : List RV := [.tmp 4]
theorem enter : En Tryd.prog 47 17 s rv := En.mk (c := Tryd.f47.body.getD .ret) Tryd.func47 rfl (by kernel_rfl) (by kernel_rfl) (by kernel_rfl) (by kernel_rfl)
end op_Same
namespace op_bare
abbrev f : Nat := 48
def s : SCo := (.seq
(F [J 1 (.box 36 (.t 0)),
 J 2 (.alloc 36 z29)] 2)
(.seq
(F [J 4 (.fld 14 (.t 1)),
 J 5 (.load none (.t 4)),
 J 6 (.idxA 9 1 (.k (.vp [(.int .u8 0), (.int .u8 3), (.int .u8 5), (.int .u8 49), (.int .u8 37), (.int .u8 5), (.int .u8 13), (.int .u8 13), (.int .u8 65)] 0)) (.t 5)),
 J 7 (.load none (.t 6)),
 M 3 7] 5)
(.seq
(.seq
(F [M 8 3,
 J 9 (.bin .and (.t 8) (.k (b8 1))),
 J 10 (.bin .eql (.t 9) (.k (b8 0)))] 3)
(.cond (.t 10)
(F [J 11 (.bld [b8 0, b32 0] []),
 J 12 (.fld 15 (.t 1)),
 N (.store 2 (.t 12) (.t 11))] 3)
.skip))
(.seq
(.seq
(F [M 13 3,
 J 14 (.bin .and (.t 13) (.k (b8 2))),
 J 15 (.bin .eql (.t 14) (.k (b8 0)))] 3)
(.cond (.t 15)
(F [J 16 (.fld 17 (.t 1)),
 N (.store 1 (.t 16) (.k (b32 0))),
 J 17 (.fld 18 (.t 1)),
 N (.store 1 (.t 17) (.k (b8 0))),
 J 18 (.fld 19 (.t 1)),
 N (.store 1 (.t 18) (.k (b8 0))),
 J 19 (.fld 20 (.t 1)),
 N (.store 1 (.t 19) (.k (b64 0)))] 8)
.skip))
(.seq
(.seq
(F [M 20 3,
 J 21 (.bin .and (.t 20) (.k (b8 4))),
 J 22 (.bin .eql (.t 21) (.k (b8 0)))] 3)
(.cond (.t 22)
(F [J 23 (.bld [b8 0, b32 0] []),
 J 24 (.fld 21 (.t 1)),
 N (.store 2 (.t 24) (.t 23))] 3)
.skip))
(.seq
(.seq
(F [M 25 3,
 J 26 (.bin .and (.t 25) (.k (b8 8))),
 J 27 (.bin .eql (.t 26) (.k (b8 0)))] 3)
(.cond (.t 27)
(F [J 28 (.bld [b8 0, b32 0] []),
 J 29 (.fld 23 (.t 1)),
 N (.store 2 (.t 29) (.t 28))] 3)
.skip))
(.seq
(.seq
(F [M 30 3,
 J 31 (.bin .and (.t 30) (.k (b8 16))),
 J 32 (.bin .eql (.t 31) (.k (b8 0)))] 3)
(.cond (.t 32)
(F [J 33 (.fld 25 (.t 1)),
 N (.store 1 (.t 33) (.k (b32 0))),
 J 34 (.fld 27 (.t 1)),
 N (.store 1 (.t 34) (.k (b32 0)))] 4)
.skip))
(.seq
(.seq
(F [M 35 3,
 J 36 (.bin .and (.t 35) (.k (b8 32))),
 J 37 (.bin .eql (.t 36) (.k (b8 0)))] 3)
(.cond (.t 37)
(F [J 38 (.fld 26 (.t 1)),
 N (.store 1 (.t 38) (.k (b32 0)))] 2)
.skip))
(.seq
(.seq
(F [M 39 3,
 J 40 (.bin .and (.t 39) (.k (b8 64))),
 J 41 (.bin .eql (.t 40) (.k (b8 0)))] 3)
(.cond (.t 41)
(F [J 42 (.fld 28 (.t 1)),
 N (.store 1 (.t 42) (.k (.d .nils)))] 2)
.skip))
(.seq
(F [J 43 (.load (some 29) (.t 1)),
 N (.store 29 (.t 2) (.t 43))] 2)
.ret))))))))))
def rv : List RV := [.cell 2 (some 29)]
theorem enter : En Tryd.prog 48 44 s rv := En.mk (c := Tryd.f48.body.getD .ret) Tryd.func48 rfl (by kernel_rfl) (by kernel_rfl) (by kernel_rfl) (by kernel_rfl)
end op_bare
namespace op_right
abbrev f : Nat := 49
def s : SCo := (.seq
(F [J 1 (.box 36 (.t 0)),
 J 2 (.mv (B false))] 2)
(.seq
(F [J 6 (.fld 14 (.t 1)),
 J 7 (.load none (.t 6)),
 J 8 (.idxA 9 1 (.k (.vp [(.int .u8 0), (.int .u8 3), (.int .u8 5), (.int .u8 49), (.int .u8 37), (.int .u8 5), (.int .u8 13), (.int .u8 13), (.int .u8 65)] 0)) (.t 7)),
 J 9 (.load none (.t 8)),
 J 3 (.alloc 5 [b8 0]),
 N (.store 1 (.t 3) (.t 9))] 6)
(.seq
(F [J 10 (.mkf (.func 70) [] [(.t 3)]),
 M 4 10] 2)
(.seq
(F (J 11 (.fld 14 (.t 1)) ::
 J 12 (.load none (.t 11)) ::
 J 13 (.bin .eql (.t 12) (.k (b8 0))) ::
 M 14 13 ::
 H 15 (.fld 12 (.t 1)) 14 true ::
 H 16 (.load (some 2) (.t 15)) 14 true ::
 H 17 (.fld 0 (.t 1)) 14 true ::
 H 18 (.load (some 2) (.t 17)) 14 true ::
 H 19 (.eqv false [true, true] (.t 16) (.t 18)) 14 true ::
 J 20 (.pick (.t 14) (.t 19) (B false)) ::
 M 21 20 ::
 H 22 (.fld 14 (.t 1)) 21 false ::
 H 23 (.load none (.t 22)) 21 false ::
 H 24 (.bin .neq (.t 23) (.k (b8 0))) 21 false ::
 G 25 24 21 false ::
 H 26 (.load (some 29) (.t 1)) 25 true ::
 H 27 (.fld 12 (.t 1)) 25 true ::
 H 28 (.load (some 2) (.t 27)) 25 true ::
 H 29 (.call (C 71) [(.t 26), (.t 28)]) 25 true ::
 H 30 (.pick (.t 25) (.t 29) (B false)) 21 false ::
 J 31 (.pick (.t 21) (B true) (.t 30)) ::
 M 5 31 :: []) 22)
(.seq
(F (M 32 5 ::
 M 33 32 ::
 G 34 4 33 true ::
 H 35 (.load (some 29) (.t 1)) 33 true ::
 H 36 (.fld 15 (.t 1)) 33 true ::
 H 37 (.load (some 2) (.t 36)) 33 true ::
 H 38 (.call (C 71) [(.t 35), (.t 37)]) 33 true ::
 H 39 (.call (.t 34) [(.k (b8 1)), (.t 38)]) 33 true ::
 J 40 (.pick (.t 33) (.t 39) (B false)) ::
 M 41 40 ::
 G 42 4 41 true ::
 H 43 (.load (some 29) (.t 1)) 41 true ::
 H 44 (.fld 21 (.t 1)) 41 true ::
 H 45 (.load (some 2) (.t 44)) 41 true ::
 H 46 (.call (C 71) [(.t 43), (.t 45)]) 41 true ::
 H 47 (.call (.t 42) [(.k (b8 4)), (.t 46)]) 41 true ::
 J 48 (.pick (.t 41) (.t 47) (B false)) ::
 M 49 48 ::
 G 50 4 49 true ::
 H 51 (.load (some 29) (.t 1)) 49 true ::
 H 52 (.fld 23 (.t 1)) 49 true ::
 H 53 (.load (some 2) (.t 52)) 49 true ::
 H 54 (.call (C 71) [(.t 51), (.t 53)]) 49 true ::
 H 55 (.call (.t 50) [(.k (b8 8)), (.t 54)]) 49 true ::
 J 56 (.pick (.t 49) (.t 55) (B false)) ::
 M 57 56 ::
 G 58 4 57 true ::
 H 59 (.fld 17 (.t 1)) 57 true ::
 H 60 (.load none (.t 59)) 57 true ::
 H 61 (.bin .gtr (.t 60) (.k (b32 0))) 57 true ::
 G 62 61 57 true ::
 H 63 (.fld 18 (.t 1)) 62 true ::
 H 64 (.load none (.t 63)) 62 true ::
 H 65 (.bin .gtr (.t 64) (.k (b8 0))) 62 true ::
 H 66 (.pick (.t 62) (.t 65) (B false)) 57 true ::
 G 67 66 57 true ::
 H 68 (.fld 18 (.t 1)) 67 true ::
 H 69 (.load none (.t 68)) 67 true ::
 H 70 (.bin .leq (.t 69) (.k (b8 7))) 67 true ::
 H 71 (.pick (.t 67) (.t 70) (B false)) 57 true ::
 G 72 71 57 true ::
 H 73 (.fld 19 (.t 1)) 72 true ::
 H 74 (.load none (.t 73)) 72 true ::
 H 75 (.bin .lss (.t 74) (.k (b8 8))) 72 true ::
 H 76 (.pick (.t 72) (.t 75) (B false)) 57 true ::
 G 77 76 57 true ::
 H 78 (.fld 20 (.t 1)) 77 true ::
 H 79 (.load none (.t 78)) 77 true ::
 H 80 (.bin .leq (.t 79) (.k (b64 1099511627776))) 77 true ::
 H 81 (.pick (.t 77) (.t 80) (B false)) 57 true ::
 H 82 (.call (.t 58) [(.k (b8 2)), (.t 81)]) 57 true ::
 J 83 (.pick (.t 57) (.t 82) (B false)) ::
 M 84 83 ::
 G 85 4 84 true ::
 H 86 (.fld 26 (.t 1)) 84 true ::
 H 87 (.load none (.t 86)) 84 true ::
 H 88 (.bin .gtr (.t 87) (.k (b32 0))) 84 true ::
 G 89 88 84 true ::
 H 90 (.fld 26 (.t 1)) 89 true ::
 H 91 (.load none (.t 90)) 89 true ::
 H 92 (.bin .leq (.t 91) (.k (b32 65535))) 89 true ::
 H 93 (.pick (.t 89) (.t 92) (B false)) 84 true ::
 H 94 (.call (.t 85) [(.k (b8 32)), (.t 93)]) 84 true ::
 J 95 (.pick (.t 84) (.t 94) (B false)) ::
 M 96 95 ::
 H 97 (.fld 27 (.t 1)) 96 true ::
 H 98 (.load none (.t 97)) 96 true ::
 H 99 (.bin .leq (.t 98) (.k (b32 16777215))) 96 true ::
 J 100 (.pick (.t 96) (.t 99) (B false)) ::
 M 101 100 ::
 G 102 4 101 true ::
 H 103 (.load (some 29) (.t 1)) 101 true ::
 H 104 (.call (C 72) [(.t 103)]) 101 true ::
 H 105 (.call (.t 102) [(.k (b8 64)), (.t 104)]) 101 true ::
 J 106 (.pick (.t 101) (.t 105) (B false)) ::
 M 2 106 :: []) 76)
.ret)))))
def rv : List RV := [.tmp 2]
theorem enter : En Tryd.prog 49 107 s rv := En.mk (c := Tryd.f49.body.getD .ret) Tryd.func49 rfl (by kernel_rfl) (by kernel_rfl) (by kernel_rfl) (by kernel_rfl)
end op_right
namespace vector_Above
abbrev f : Nat := 50
def s : SCo := (.seq
(F [J 2 (.box 32 (.t 0)),
 J 3 (.box 32 (.t 1)),
 J 4 (.mv (B false))] 3)
(.seq
(.reg [J 5 (.load (some 8) (.t 2)),
 J 6 (.load (some 8) (.t 3)),
 J 7 (.bsl 32 8 2 [b32 0, b32 0, b32 0, b32 0, b32 0, b32 0, b32 0, b32 0, b32 0, b32 0, b32 0, b32 0, b32 0, b32 0, b32 0, b32 0] [(0, 8, (.t 5)), (8, 8, (.t 6))]),
 J 8 (.call (C 73) [(.t 7)]),
 J 9 (.load (some 8) (.t 2)),
 J 10 (.eqv false [true, true, true, true, true, true, true, true] (.t 8) (.t 9)),
 M 4 10] [0,
0,
3,
7,
0,
31,
63] true)
.ret))
def rv : List RV := [.tmp 4]
theorem enter : En Tryd.prog 50 11 s rv := En.mk (c := Tryd.f50.body.getD .ret) Tryd.func50 rfl (by kernel_rfl) (by kernel_rfl) (by kernel_rfl) (by kernel_rfl)
end vector_Above
namespace slices_ContainsFunc_Lapi_Op_api_Op
abbrev f : Nat := 51
def s : SCo := (.seq
(F [J 4 (.mv (B false))] 1)
(.seq
(F [M 5 0,
 M 6 1,
 J 7 (.call (C 42) [(.t 5), (.t 6)]),
 J 8 (.bin .geq (.t 7) (Z 0)),
 M 4 8] 5)
.ret))
def rv : List RV := [.tmp 4]
theorem enter : En Tryd.prog 51 9 s rv := En.mk (c := Tryd.f51.body.getD .ret) Tryd.func51 rfl (by kernel_rfl) (by kernel_rfl) (by kernel_rfl) (by kernel_rfl)
end slices_ContainsFunc_Lapi_Op_api_Op
namespace order_index_fits_1
abbrev f : Nat := 52
def s : SCo := (.seq
(F [J 2 (.box 36 (.t 0)),
 J 3 (.mv (B false))] 2)
(.seq
(F (J 4 (.load (some 29) (.t 2)) ::
 J 5 (.load (some 29) (.t 1)) ::
 J 6 (.call (C 11) [(.t 4), (.t 5)]) ::
 M 7 6 ::
 H 8 (.fld 10 (.t 2)) 7 true ::
 H 9 (.load none (.t 8)) 7 true ::
 H 10 (.fld 10 (.t 1)) 7 true ::
 H 11 (.load none (.t 10)) 7 true ::
 H 12 (.bin .geq (.t 9) (.t 11)) 7 true ::
 G 13 12 7 true ::
 H 14 (.fld 2 (.t 1)) 13 false ::
 H 15 (.load (some 8) (.t 14)) 13 false ::
 H 16 (.fld 2 (.t 2)) 13 false ::
 H 17 (.load (some 8) (.t 16)) 13 false ::
 H 18 (.call (C 50) [(.t 15), (.t 17)]) 13 false ::
 H 19 (.not (.t 18)) 13 false ::
 H 20 (.pick (.t 13) (B true) (.t 19)) 7 true ::
 J 21 (.pick (.t 7) (.t 20) (B false)) ::
 M 3 21 :: []) 19)
.ret))
def rv : List RV := [.tmp 3]
theorem enter : En Tryd.prog 52 22 s rv := En.mk (c := Tryd.f52.body.getD .ret) Tryd.func52 rfl (by kernel_rfl) (by kernel_rfl) (by kernel_rfl) (by kernel_rfl)
end order_index_fits_1
namespace dot_May
abbrev f : Nat := 53
def s : SCo := (.seq
(F [J 1 (.box 30 (.t 0)),
 J 2 (.mv (B false))] 2)
(.seq
(F [J 3 (.fld 0 (.t 1)),
 J 4 (.load none (.t 3)),
 J 5 (.bin .lss (.t 4) (.k (b8 8))),
 M 6 5,
 H 7 (.fld 1 (.t 1)) 6 true,
 H 8 (.load none (.t 7)) 6 true,
 H 9 (.bin .gtr (.t 8) (.k (b32 0))) 6 true,
 J 10 (.pick (.t 6) (.t 9) (B false)),
 M 2 10] 9)
.ret))
def rv : List RV := [.tmp 2]
theorem enter : En Tryd.prog 53 11 s rv := En.mk (c := Tryd.f53.body.getD .ret) Tryd.func53 rfl (by kernel_rfl) (by kernel_rfl) (by kernel_rfl) (by kernel_rfl)
end dot_May
namespace ref03_May
abbrev f : Nat := 60
def s : SCo := (.seq
(F [J 1 (.box 30 (.t 0)),
 J 2 (.mv (B false))] 2)
(.seq
(F [J 3 (.fld 0 (.t 1)),
 J 4 (.load none (.t 3)),
 J 5 (.bin .leq (.t 4) (.k (b8 7))),
 M 6 5,
 H 7 (.fld 1 (.t 1)) 6 true,
 H 8 (.load none (.t 7)) 6 true,
 H 9 (.bin .geq (.t 8) (.k (b32 1))) 6 true,
 J 10 (.pick (.t 6) (.t 9) (B false)),
 M 2 10] 9)
.ret))
def rv : List RV := [.tmp 2]
theorem enter : En Tryd.prog 60 11 s rv := En.mk (c := Tryd.f60.body.getD .ret) Tryd.func60 rfl (by kernel_rfl) (by kernel_rfl) (by kernel_rfl) (by kernel_rfl)
end ref03_May
namespace ref05_zero
abbrev f : Nat := 61
def s : SCo := (.seq
(F [J 1 (.box 36 (.t 0)),
 J 2 (.mv (B false))] 2)
(.seq
(F [J 5 (.fld 14 (.t 1)),
 J 6 (.load none (.t 5)),
 J 7 (.call (C 62) [(.t 6)]),
 M 3 7] 4)
(.seq
(F [J 8 (.bld [b8 0, b32 0] []),
 J 4 (.alloc 30 [b8 0, b32 0]),
 N (.store 2 (.t 4) (.t 8))] 3)
(.seq
(F (M 9 3 ::
 J 10 (.call (C 64) [(.t 9), (.k (b8 99))]) ::
 M 11 10 ::
 H 12 (.fld 15 (.t 1)) 11 false ::
 H 13 (.load (some 2) (.t 12)) 11 false ::
 H 14 (.load (some 2) (.t 4)) 11 false ::
 H 15 (.eqv false [true, true] (.t 13) (.t 14)) 11 false ::
 J 16 (.pick (.t 11) (B true) (.t 15)) ::
 M 17 16 ::
 G 18 3 17 true ::
 H 19 (.call (C 64) [(.t 18), (.k (b8 116))]) 17 true ::
 G 20 19 17 true ::
 H 21 (.fld 17 (.t 1)) 20 false ::
 H 22 (.load none (.t 21)) 20 false ::
 H 23 (.bin .eql (.t 22) (.k (b32 0))) 20 false ::
 H 24 (.pick (.t 20) (B true) (.t 23)) 17 true ::
 J 25 (.pick (.t 17) (.t 24) (B false)) ::
 M 26 25 ::
 G 27 3 26 true ::
 H 28 (.call (C 64) [(.t 27), (.k (b8 114))]) 26 true ::
 G 29 28 26 true ::
 H 30 (.fld 18 (.t 1)) 29 false ::
 H 31 (.load none (.t 30)) 29 false ::
 H 32 (.bin .eql (.t 31) (.k (b8 0))) 29 false ::
 H 33 (.pick (.t 29) (B true) (.t 32)) 26 true ::
 J 34 (.pick (.t 26) (.t 33) (B false)) ::
 M 35 34 ::
 G 36 3 35 true ::
 H 37 (.call (C 64) [(.t 36), (.k (b8 100))]) 35 true ::
 G 38 37 35 true ::
 H 39 (.fld 19 (.t 1)) 38 false ::
 H 40 (.load none (.t 39)) 38 false ::
 H 41 (.bin .eql (.t 40) (.k (b8 0))) 38 false ::
 H 42 (.pick (.t 38) (B true) (.t 41)) 35 true ::
 J 43 (.pick (.t 35) (.t 42) (B false)) ::
 M 44 43 ::
 G 45 3 44 true ::
 H 46 (.call (C 64) [(.t 45), (.k (b8 112))]) 44 true ::
 G 47 46 44 true ::
 H 48 (.fld 20 (.t 1)) 47 false ::
 H 49 (.load none (.t 48)) 47 false ::
 H 50 (.bin .eql (.t 49) (.k (b64 0))) 47 false ::
 H 51 (.pick (.t 47) (B true) (.t 50)) 44 true ::
 J 52 (.pick (.t 44) (.t 51) (B false)) ::
 M 53 52 ::
 G 54 3 53 true ::
 H 55 (.call (C 64) [(.t 54), (.k (b8 97))]) 53 true ::
 G 56 55 53 true ::
 H 57 (.fld 21 (.t 1)) 56 false ::
 H 58 (.load (some 2) (.t 57)) 56 false ::
 H 59 (.load (some 2) (.t 4)) 56 false ::
 H 60 (.eqv false [true, true] (.t 58) (.t 59)) 56 false ::
 H 61 (.pick (.t 56) (B true) (.t 60)) 53 true ::
 J 62 (.pick (.t 53) (.t 61) (B false)) ::
 M 63 62 ::
 G 64 3 63 true ::
 H 65 (.call (C 64) [(.t 64), (.k (b8 118))]) 63 true ::
 G 66 65 63 true ::
 H 67 (.fld 23 (.t 1)) 66 false ::
 H 68 (.load (some 2) (.t 67)) 66 false ::
 H 69 (.load (some 2) (.t 4)) 66 false ::
 H 70 (.eqv false [true, true] (.t 68) (.t 69)) 66 false ::
 H 71 (.pick (.t 66) (B true) (.t 70)) 63 true ::
 J 72 (.pick (.t 63) (.t 71) (B false)) ::
 M 73 72 ::
 G 74 3 73 true ::
 H 75 (.call (C 64) [(.t 74), (.k (b8 105))]) 73 true ::
 G 76 75 73 true ::
 H 77 (.fld 25 (.t 1)) 76 false ::
 H 78 (.load none (.t 77)) 76 false ::
 H 79 (.bin .eql (.t 78) (.k (b32 0))) 76 false ::
 H 80 (.pick (.t 76) (B true) (.t 79)) 73 true ::
 J 81 (.pick (.t 73) (.t 80) (B false)) ::
 M 82 81 ::
 G 83 3 82 true ::
 H 84 (.call (C 64) [(.t 83), (.k (b8 113))]) 82 true ::
 G 85 84 82 true ::
 H 86 (.fld 26 (.t 1)) 85 false ::
 H 87 (.load none (.t 86)) 85 false ::
 H 88 (.bin .eql (.t 87) (.k (b32 0))) 85 false ::
 H 89 (.pick (.t 85) (B true) (.t 88)) 82 true ::
 J 90 (.pick (.t 82) (.t 89) (B false)) ::
 M 91 90 ::
 G 92 3 91 true ::
 H 93 (.call (C 64) [(.t 92), (.k (b8 101))]) 91 true ::
 G 94 93 91 true ::
 H 95 (.fld 27 (.t 1)) 94 false ::
 H 96 (.load none (.t 95)) 94 false ::
 H 97 (.bin .eql (.t 96) (.k (b32 0))) 94 false ::
 H 98 (.pick (.t 94) (B true) (.t 97)) 91 true ::
 J 99 (.pick (.t 91) (.t 98) (B false)) ::
 M 100 99 ::
 G 101 3 100 true ::
 H 102 (.call (C 64) [(.t 101), (.k (b8 108))]) 100 true ::
 G 103 102 100 true ::
 H 104 (.fld 28 (.t 1)) 103 false ::
 H 105 (.load none (.t 104)) 103 false ::
 H 106 (.len (.t 105)) 103 false ::
 H 107 (.bin .eql (.t 106) (Z 0)) 103 false ::
 H 108 (.pick (.t 103) (B true) (.t 107)) 100 true ::
 J 109 (.pick (.t 100) (.t 108) (B false)) ::
 M 2 109 :: []) 102)
.ret))))
def rv : List RV := [.tmp 2]
theorem enter : En Tryd.prog 61 110 s rv := En.mk (c := Tryd.f61.body.getD .ret) Tryd.func61 rfl (by kernel_rfl) (by kernel_rfl) (by kernel_rfl) (by kernel_rfl)
end ref05_zero
namespace ref05_Has
abbrev f : Nat := 62
def s : SCo := (.seq
(F [J 2 (.mv (.k (.d (.str []))))] 1)
(.seq
(F [J 4 (.bsl 9 1 9 [(.d (.str [])), (.d (.str [])), (.d (.str [])), (.d (.str [])), (.d (.str [])), (.d (.str [])), (.d (.str [])), (.d (.str [])), (.d (.str []))] [(0, 1, (.k (.d (.str [])))), (1, 1, (.k (.d (.str [99, 116, 114, 100, 112])))), (2, 1, (.k (.d (.str [99, 97])))), (3, 1, (.k (.d (.str [99, 105, 113, 101])))), (4, 1, (.k (.d (.str [99, 97, 113])))), (5, 1, (.k (.d (.str [99, 97])))), (6, 1, (.k (.d (.str [99, 97, 118])))), (7, 1, (.k (.d (.str [99, 97, 118])))), (8, 1, (.k (.d (.str [99, 108]))))]),
 M 3 4] 2)
(.seq
(.seq
(F [M 5 0,
 J 6 (.conv .i64 (.t 5)),
 M 7 3,
 J 8 (.len (.t 7)),
 J 9 (.bin .geq (.t 6) (.t 8))] 5)
(.cond (.t 9)
(.seq
(F [J 2 (.mv (.k (.d (.str []))))] 1)
.ret)
.skip))
(.seq
(F [M 10 3,
 M 11 0,
 J 12 (.idxS 1 (.t 10) (.t 11)),
 J 13 (.load none (.t 12)),
 M 2 13] 5)
.ret))))
def rv : List RV := [.tmp 2]
theorem enter : En Tryd.prog 62 14 s rv := En.mk (c := Tryd.f62.body.getD .ret) Tryd.func62 rfl (by kernel_rfl) (by kernel_rfl) (by kernel_rfl) (by kernel_rfl)
end ref05_Has
namespace ref05_Covers
abbrev f : Nat := 63
def s : SCo := (.seq
(F [J 2 (.box 36 (.t 0)),
 J 3 (.box 30 (.t 1)),
 J 4 (.mv (B false))] 3)
(.seq
(.reg (J 5 (.fld 0 (.t 3)) ::
 J 6 (.load none (.t 5)) ::
 J 7 (.bin .lss (.t 6) (.k (b8 8))) ::
 M 8 7 ::
 H 9 (.fld 1 (.t 3)) 8 true ::
 H 10 (.load none (.t 9)) 8 true ::
 H 11 (.bin .geq (.t 10) (.k (b32 1))) 8 true ::
 J 12 (.pick (.t 8) (.t 11) (B false)) ::
 M 13 12 ::
 H 14 (.fld 0 (.t 3)) 13 true ::
 H 15 (.load none (.t 14)) 13 true ::
 H 16 (.fld 2 (.t 2)) 13 true ::
 H 17 (.idxA 8 1 (.t 16) (.t 15)) 13 true ::
 H 18 (.load none (.t 17)) 13 true ::
 H 19 (.fld 1 (.t 3)) 13 true ::
 H 20 (.load none (.t 19)) 13 true ::
 H 21 (.bin .geq (.t 18) (.t 20)) 13 true ::
 J 22 (.pick (.t 13) (.t 21) (B false)) ::
 M 4 22 :: []) (0 ::
1 ::
3 ::
7 ::
15 ::
31 ::
63 ::
127 ::
255 ::
511 ::
1023 ::
511 ::
4095 ::
8191 ::
511 ::
16895 ::
65535 ::
131071 ::
262143 :: []) true)
.ret))
def rv : List RV := [.tmp 4]
theorem enter : En Tryd.prog 63 23 s rv := En.mk (c := Tryd.f63.body.getD .ret) Tryd.func63 rfl (by kernel_rfl) (by kernel_rfl) (by kernel_rfl) (by kernel_rfl)
end ref05_Covers
namespace ref05_in
abbrev f : Nat := 64
def s : SCo := (.seq
(F [J 4 (.mv (B false))] 1)
(.seq
(.seq
(F [J 5 (.mv (Z 0))] 1)
(.block 0
(.loop
(.seq
(.seq
(F [M 6 5,
 M 7 0,
 J 8 (.lens (.t 7)),
 J 9 (.bin .lss (.t 6) (.t 8))] 4)
(.cond (.t 9)
.skip
(.exit 0)))
(.seq
(.block 1
(.seq
(F [M 12 0,
 M 13 5,
 J 14 (.idxT (.t 12) (.t 13)),
 M 15 1,
 J 16 (.bin .eql (.t 14) (.t 15))] 5)
(.cond (.t 16)
(.seq
(F [J 4 (.mv (B true))] 1)
.ret)
.skip)))
(F [M 10 5,
 J 11 (.bin .add (.t 10) (Z 1)),
 M 5 11] 3))))))
(.seq
(F [J 4 (.mv (B false))] 1)
.ret)))
def rv : List RV := [.tmp 4]
theorem enter : En Tryd.prog 64 17 s rv := En.mk (c := Tryd.f64.body.getD .ret) Tryd.func64 rfl (by kernel_rfl) (by kernel_rfl) (by kernel_rfl) (by kernel_rfl)
end ref05_in
namespace ref05_lines
abbrev f : Nat := 65
def s : SCo := (.seq
(F [J 1 (.box 36 (.t 0)),
 J 2 (.mv (B false))] 2)
(.seq
(.seq
(F [J 5 (.fld 28 (.t 1)),
 J 6 (.load none (.t 5)),
 J 7 (.len (.t 6)),
 J 8 (.bin .lss (.t 7) (Z 1)),
 M 9 8,
 H 10 (.fld 28 (.t 1)) 9 false,
 H 11 (.load none (.t 10)) 9 false,
 H 12 (.len (.t 11)) 9 false,
 H 13 (.bin .gtr (.t 12) (Z 16)) 9 false,
 J 14 (.pick (.t 9) (B true) (.t 13))] 10)
(.cond (.t 14)
(.seq
(F [J 2 (.mv (B false))] 1)
.ret)
.skip))
(.seq
(.seq
(F [J 3 (.mv (Z 0))] 1)
(.block 0
(.loop
(.seq
(.seq
(F [M 15 3,
 J 16 (.fld 28 (.t 1)),
 J 17 (.load none (.t 16)),
 J 18 (.len (.t 17)),
 J 19 (.bin .lss (.t 15) (.t 18))] 5)
(.cond (.t 19)
.skip
(.exit 0)))
(.seq
(.block 1
(.seq
(.seq
(.reg (J 22 (.load (some 29) (.t 1)) ::
 J 23 (.fld 28 (.t 1)) ::
 J 24 (.load none (.t 23)) ::
 M 25 3 ::
 J 26 (.idxS 4 (.t 24) (.t 25)) ::
 J 27 (.fld 0 (.t 26)) ::
 J 28 (.load (some 2) (.t 27)) ::
 J 29 (.call (C 63) [(.t 22), (.t 28)]) ::
 J 30 (.not (.t 29)) ::
 M 31 30 ::
 H 32 (.load (some 29) (.t 1)) 31 false ::
 H 33 (.fld 28 (.t 1)) 31 false ::
 H 34 (.load none (.t 33)) 31 false ::
 G 35 3 31 false ::
 H 36 (.idxS 4 (.t 34) (.t 35)) 31 false ::
 H 37 (.fld 2 (.t 36)) 31 false ::
 H 38 (.load (some 2) (.t 37)) 31 false ::
 H 39 (.call (C 63) [(.t 32), (.t 38)]) 31 false ::
 H 40 (.not (.t 39)) 31 false ::
 J 41 (.pick (.t 31) (B true) (.t 40)) :: []) (0 ::
0 ::
2 ::
0 ::
14 ::
30 ::
62 ::
127 ::
255 ::
511 ::
1023 ::
1023 ::
3071 ::
1023 ::
15359 ::
31743 ::
64511 ::
131071 ::
262143 ::
524287 :: []) true)
(.cond (.t 41)
(.seq
(F [J 2 (.mv (B false))] 1)
.ret)
.skip))
(.seq
(F [J 4 (.mv (Z 0))] 1)
(.block 2
(.loop
(.seq
(.seq
(F [M 42 4,
 M 43 3,
 J 44 (.bin .lss (.t 42) (.t 43))] 3)
(.cond (.t 44)
.skip
(.exit 2)))
(.seq
(.block 3
(.seq
(.reg [J 47 (.fld 28 (.t 1)),
 J 48 (.load none (.t 47)),
 M 49 4,
 J 50 (.idxS 4 (.t 48) (.t 49)),
 J 51 (.fld 0 (.t 50)),
 J 52 (.load (some 2) (.t 51)),
 J 53 (.fld 28 (.t 1)),
 J 54 (.load none (.t 53)),
 M 55 3,
 J 56 (.idxS 4 (.t 54) (.t 55)),
 J 57 (.fld 0 (.t 56)),
 J 58 (.load (some 2) (.t 57)),
 J 59 (.eqv false [true, true] (.t 52) (.t 58))] [0,
1,
0,
7,
15,
31,
0,
64,
0,
448,
960,
1984,
4095] true)
(.cond (.t 59)
(.seq
(F [J 2 (.mv (B false))] 1)
.ret)
.skip)))
(F [M 45 4,
 J 46 (.bin .add (.t 45) (Z 1)),
 M 4 46] 3))))))))
(F [M 20 3,
 J 21 (.bin .add (.t 20) (Z 1)),
 M 3 21] 3))))))
(.seq
(F [J 2 (.mv (B true))] 1)
.ret))))
def rv : List RV := [.tmp 2]
theorem enter : En Tryd.prog 65 60 s rv := En.mk (c := Tryd.f65.body.getD .ret) Tryd.func65 rfl (by kernel_rfl) (by kernel_rfl) (by kernel_rfl) (by kernel_rfl)
end ref05_lines
namespace ref10_there
abbrev f : Nat := 66
def s : SCo := (.seq
(F [J 3 (.box 30 (.t 1)),
 J 4 (.mv (Z 0))] 2)
(.seq
(F [J 5 (.mv (Z 0))] 1)
(.seq
(.seq
(F [J 6 (.mv (Z 0))] 1)
(.block 0
(.loop
(.seq
(.seq
(F [M 7 6,
 M 8 0,
 J 9 (.len (.t 8)),
 J 10 (.bin .lss (.t 7) (.t 9))] 4)
(.cond (.t 10)
.skip
(.exit 0)))
(.seq
(.block 1
(.seq
(.reg [M 13 0,
 M 14 6,
 J 15 (.idxS 29 (.t 13) (.t 14)),
 J 16 (.fld 0 (.t 15)),
 J 17 (.load (some 2) (.t 16)),
 J 18 (.load (some 2) (.t 3)),
 J 19 (.eqv false [true, true] (.t 17) (.t 18))] [0,
0,
3,
7,
15,
0,
63] true)
(.cond (.t 19)
(F [M 20 5,
 J 21 (.bin .add (.t 20) (Z 1)),
 M 5 21] 3)
.skip)))
(F [M 11 6,
 J 12 (.bin .add (.t 11) (Z 1)),
 M 6 12] 3))))))
(.seq
(F [M 22 5,
 M 4 22] 2)
.ret))))
def rv : List RV := [.tmp 4]
theorem enter : En Tryd.prog 66 23 s rv := En.mk (c := Tryd.f66.body.getD .ret) Tryd.func66 rfl (by kernel_rfl) (by kernel_rfl) (by kernel_rfl) (by kernel_rfl)
end ref10_there
namespace ref04_Above
abbrev f : Nat := 67
def s : SCo := (.seq
(F [J 2 (.box 32 (.t 0)),
 J 3 (.box 32 (.t 1)),
 J 4 (.mv (B false))] 3)
(.seq
(.seq
(F [J 5 (.mv (Z 0))] 1)
(.block 0
(.loop
(.seq
(.seq
(F [M 6 5,
 J 7 (.bin .lss (.t 6) (Z 8))] 2)
(.cond (.t 7)
.skip
(.exit 0)))
(.seq
(.block 1
(.seq
(.reg [M 10 5,
 J 11 (.idxA 8 1 (.t 2) (.t 10)),
 J 12 (.load none (.t 11)),
 M 13 5,
 J 14 (.idxA 8 1 (.t 3) (.t 13)),
 J 15 (.load none (.t 14)),
 J 16 (.bin .lss (.t 12) (.t 15))] [0,
1,
3,
0,
8,
24,
63] true)
(.cond (.t 16)
(.seq
(F [J 4 (.mv (B false))] 1)
.ret)
.skip)))
(F [M 8 5,
 J 9 (.bin .add (.t 8) (Z 1)),
 M 5 9] 3))))))
(.seq
(F [J 4 (.mv (B true))] 1)
.ret)))
def rv : List RV := [.tmp 4]
theorem enter : En Tryd.prog 67 17 s rv := En.mk (c := Tryd.f67.body.getD .ret) Tryd.func67 rfl (by kernel_rfl) (by kernel_rfl) (by kernel_rfl) (by kernel_rfl)
end ref04_Above
namespace op_of
abbrev f : Nat := 68
def s : SCo := (.seq
(F [J 1 (.box 36 (.t 0)),
 J 2 (.alloc 95 [b8 0, b32 0, b32 0, b32 0, b32 0, b32 0, b32 0, b32 0, b32 0, b32 0, b64 0, b32 0, b8 0, b32 0, b8 0, b8 0, b32 0, b32 0, b8 0, b8 0, b64 0, b8 0, b32 0, b8 0, b32 0, b32 0, b32 0, b32 0])] 2)
(.seq
(F (J 3 (.fld 0 (.t 1)) ::
 J 4 (.load (some 2) (.t 3)) ::
 J 5 (.fld 2 (.t 1)) ::
 J 6 (.load (some 8) (.t 5)) ::
 J 7 (.fld 10 (.t 1)) ::
 J 8 (.load none (.t 7)) ::
 J 9 (.fld 11 (.t 1)) ::
 J 10 (.load none (.t 9)) ::
 J 11 (.fld 12 (.t 1)) ::
 J 12 (.load (some 2) (.t 11)) ::
 J 13 (.fld 14 (.t 1)) ::
 J 14 (.load none (.t 13)) ::
 J 15 (.fld 15 (.t 1)) ::
 J 16 (.load (some 2) (.t 15)) ::
 J 17 (.fld 17 (.t 1)) ::
 J 18 (.load none (.t 17)) ::
 J 19 (.fld 18 (.t 1)) ::
 J 20 (.load none (.t 19)) ::
 J 21 (.fld 19 (.t 1)) ::
 J 22 (.load none (.t 21)) ::
 J 23 (.fld 20 (.t 1)) ::
 J 24 (.load none (.t 23)) ::
 J 25 (.fld 21 (.t 1)) ::
 J 26 (.load (some 2) (.t 25)) ::
 J 27 (.fld 23 (.t 1)) ::
 J 28 (.load (some 2) (.t 27)) ::
 J 29 (.fld 25 (.t 1)) ::
 J 30 (.load none (.t 29)) ::
 J 31 (.fld 26 (.t 1)) ::
 J 32 (.load none (.t 31)) ::
 J 33 (.fld 27 (.t 1)) ::
 J 34 (.load none (.t 33)) ::
 J 35 (.bld [b8 0, b32 0, b32 0, b32 0, b32 0, b32 0, b32 0, b32 0, b32 0, b32 0, b64 0, b32 0, b8 0, b32 0, b8 0, b8 0, b32 0, b32 0, b8 0, b8 0, b64 0, b8 0, b32 0, b8 0, b32 0, b32 0, b32 0, b32 0] [(0, 2, (.t 4)), (2, 8, (.t 6)), (10, 1, (.t 8)), (11, 1, (.t 10)), (12, 2, (.t 12)), (14, 1, (.t 14)), (15, 2, (.t 16)), (17, 1, (.t 18)), (18, 1, (.t 20)), (19, 1, (.t 22)), (20, 1, (.t 24)), (21, 2, (.t 26)), (23, 2, (.t 28)), (25, 1, (.t 30)), (26, 1, (.t 32)), (27, 1, (.t 34))]) ::
 N (.store 28 (.t 2) (.t 35)) :: []) 34)
.ret))
def rv : List RV := [.cell 2 (some 28)]
theorem enter : En Tryd.prog 68 36 s rv := En.mk (c := Tryd.f68.body.getD .ret) Tryd.func68 rfl (by kernel_rfl) (by kernel_rfl) (by kernel_rfl) (by kernel_rfl)
end op_of
namespace slices_Equal_Lapi_Claim_api_Claim
abbrev f : Nat := 69
def s : SCo := (.seq
(F [J 4 (.mv (B false))] 1)
(.seq
(.seq
(F [M 6 0,
 J 7 (.len (.t 6)),
 M 8 1,
 J 9 (.len (.t 8)),
 J 10 (.bin .neq (.t 7) (.t 9))] 5)
(.cond (.t 10)
(.seq
(F [J 4 (.mv (B false))] 1)
.ret)
.skip))
(.seq
(.seq
(F [M 11 0,
 J 12 (.len (.t 11)),
 J 13 (.mv (Z 0))] 3)
(.block 0
(.loop
(.seq
(F [J 14 (.bin .lss (.t 13) (.t 12))] 1)
(.seq
(.cond (.t 14)
.skip
(.exit 0))
(.seq
(.block 1
(.seq
(F [M 15 13,
 M 5 15] 2)
(.seq
(.reg [M 16 0,
 M 17 5,
 J 18 (.idxS 4 (.t 16) (.t 17)),
 J 19 (.load (some 4) (.t 18)),
 M 20 1,
 M 21 5,
 J 22 (.idxS 4 (.t 20) (.t 21)),
 J 23 (.load (some 4) (.t 22)),
 J 24 (.eqv true [true, true, true, true] (.t 19) (.t 23))] [0,
0,
3,
7,
0,
0,
48,
112,
255] true)
(.cond (.t 24)
(.seq
(F [J 4 (.mv (B false))] 1)
.ret)
.skip))))
(F [J 25 (.bin .add (.t 13) (Z 1)),
 M 13 25] 2)))))))
(.seq
(F [J 4 (.mv (B true))] 1)
.ret))))
def rv : List RV := [.tmp 4]
theorem enter : En Tryd.prog 69 26 s rv := En.mk (c := Tryd.f69.body.getD .ret) Tryd.func69 rfl (by kernel_rfl) (by kernel_rfl) (by kernel_rfl) (by kernel_rfl)
end slices_Equal_Lapi_Claim_api_Claim
namespace op_right_1
abbrev f : Nat := 70
def s : SCo := (.seq
(F [J 5 (.mv (B false))] 1)
(.seq
(F [J 6 (.load none (.t 2)),
 M 7 0,
 J 8 (.bin .and (.t 6) (.t 7)),
 J 9 (.bin .eql (.t 8) (.k (b8 0))),
 M 10 9,
 G 11 1 10 false,
 J 12 (.pick (.t 10) (B true) (.t 11)),
 M 5 12] 8)
.ret))
def rv : List RV := [.tmp 5]
theorem enter : En Tryd.prog 70 13 s rv := En.mk (c := Tryd.f70.body.getD .ret) Tryd.func70 rfl (by kernel_rfl) (by kernel_rfl) (by kernel_rfl) (by kernel_rfl)
end op_right_1
namespace op_Covers
abbrev f : Nat := 71
def s : SCo := (.seq
(F [J 2 (.box 36 (.t 0)),
 J 3 (.box 30 (.t 1)),
 J 4 (.mv (B false))] 3)
(.seq
(.reg (J 5 (.fld 0 (.t 3)) ::
 J 6 (.load none (.t 5)) ::
 J 7 (.conv .i64 (.t 6)) ::
 J 8 (.bin .lss (.t 7) (Z 8)) ::
 M 9 8 ::
 H 10 (.fld 1 (.t 3)) 9 true ::
 H 11 (.load none (.t 10)) 9 true ::
 H 12 (.bin .gtr (.t 11) (.k (b32 0))) 9 true ::
 J 13 (.pick (.t 9) (.t 12) (B false)) ::
 M 14 13 ::
 H 15 (.fld 0 (.t 3)) 14 true ::
 H 16 (.load none (.t 15)) 14 true ::
 H 17 (.fld 2 (.t 2)) 14 true ::
 H 18 (.idxA 8 1 (.t 17) (.t 16)) 14 true ::
 H 19 (.load none (.t 18)) 14 true ::
 H 20 (.fld 1 (.t 3)) 14 true ::
 H 21 (.load none (.t 20)) 14 true ::
 H 22 (.bin .geq (.t 19) (.t 21)) 14 true ::
 J 23 (.pick (.t 14) (.t 22) (B false)) ::
 M 4 23 :: []) (0 ::
1 ::
3 ::
7 ::
15 ::
31 ::
63 ::
127 ::
255 ::
511 ::
1023 ::
2047 ::
1023 ::
8191 ::
16383 ::
1023 ::
33791 ::
131071 ::
262143 ::
524287 :: []) true)
.ret))
def rv : List RV := [.tmp 4]
theorem enter : En Tryd.prog 71 24 s rv := En.mk (c := Tryd.f71.body.getD .ret) Tryd.func71 rfl (by kernel_rfl) (by kernel_rfl) (by kernel_rfl) (by kernel_rfl)
end op_Covers
namespace op_claims
abbrev f : Nat := 72
def s : SCo := (.seq
(F [J 1 (.box 36 (.t 0)),
 J 2 (.mv (B false))] 2)
(.seq
(F [J 6 (.mkm),
 M 3 6] 2)
(.seq
(.seq
(F [J 7 (.fld 28 (.t 1)),
 J 8 (.load none (.t 7)),
 J 9 (.len (.t 8)),
 J 10 (.mv (Z 0))] 4)
(.block 0
(.loop
(.seq
(F [J 11 (.bin .lss (.t 10) (.t 9))] 1)
(.seq
(.cond (.t 11)
.skip
(.exit 0))
(.seq
(.block 1
(.seq
(F [J 12 (.idxS 4 (.t 8) (.t 10)),
 J 13 (.load (some 4) (.t 12)),
 J 5 (.alloc 74 [b8 0, b32 0, b8 0, b32 0]),
 N (.store 4 (.t 5) (.t 13))] 4)
(.seq
(.seq
(F (M 14 3 ::
 J 15 (.fld 0 (.t 5)) ::
 J 16 (.load (some 2) (.t 15)) ::
 J 17 (.look [true, true] true (i6 0) (.t 14) (.t 16) false) ::
 J 18 (.bin .gtr (.t 17) (Z 0)) ::
 M 19 18 ::
 H 20 (.load (some 29) (.t 1)) 19 false ::
 H 21 (.fld 0 (.t 5)) 19 false ::
 H 22 (.load (some 2) (.t 21)) 19 false ::
 H 23 (.call (C 71) [(.t 20), (.t 22)]) 19 false ::
 H 24 (.not (.t 23)) 19 false ::
 J 25 (.pick (.t 19) (B true) (.t 24)) ::
 M 26 25 ::
 H 27 (.load (some 29) (.t 1)) 26 false ::
 H 28 (.fld 2 (.t 5)) 26 false ::
 H 29 (.load (some 2) (.t 28)) 26 false ::
 H 30 (.call (C 71) [(.t 27), (.t 29)]) 26 false ::
 H 31 (.not (.t 30)) 26 false ::
 J 32 (.pick (.t 26) (B true) (.t 31)) :: []) 19)
(.cond (.t 32)
(.seq
(F [J 2 (.mv (B false))] 1)
.ret)
.skip))
(F [M 33 3,
 J 34 (.fld 0 (.t 5)),
 J 35 (.load (some 2) (.t 34)),
 N (.mset [true, true] true (.t 33) (.t 35) (Z 1))] 4))))
(F [J 36 (.bin .add (.t 10) (Z 1)),
 M 10 36] 2)))))))
(.seq
(F [M 37 3,
 J 38 (.mlen (.t 37)),
 J 39 (.bin .gtr (.t 38) (Z 0)),
 M 40 39,
 G 41 3 40 true,
 H 42 (.mlen (.t 41)) 40 true,
 H 43 (.bin .leq (.t 42) (Z 16)) 40 true,
 J 44 (.pick (.t 40) (.t 43) (B false)),
 M 2 44] 9)
.ret))))
def rv : List RV := [.tmp 2]
theorem enter : En Tryd.prog 72 45 s rv := En.mk (c := Tryd.f72.body.getD .ret) Tryd.func72 rfl (by kernel_rfl) (by kernel_rfl) (by kernel_rfl) (by kernel_rfl)
end op_claims
namespace vector_Merge
abbrev f : Nat := 73
def s : SCo := (.seq
(F [J 2 (.alloc 32 z8)] 1)
(.seq
(F [J 3 (.call (C 78) [(C 79)]),
 M 4 0,
 J 5 (.call (C 77) [(.t 3), (.t 4)]),
 N (.store 8 (.t 2) (.t 5))] 4)
.ret))
def rv : List RV := [.cell 2 (some 8)]
theorem enter : En Tryd.prog 73 6 s rv := En.mk (c := Tryd.f73.body.getD .ret) Tryd.func73 rfl (by kernel_rfl) (by kernel_rfl) (by kernel_rfl) (by kernel_rfl)
end vector_Merge
namespace vector_all_api_Vector
abbrev f : Nat := 77
def s : SCo := (.seq
(F [J 4 (.alloc 32 z8)] 1)
(.seq
(.seq
(F [M 7 1,
 J 8 (.len (.t 7)),
 J 9 (.mv (Z 0))] 3)
(.block 0
(.loop
(.seq
(F [J 10 (.bin .lss (.t 9) (.t 8))] 1)
(.seq
(.cond (.t 10)
.skip
(.exit 0))
(.seq
(.block 1
(.seq
(F [M 11 9,
 J 12 (.idxS 8 (.t 7) (.t 9)),
 J 13 (.load (some 8) (.t 12)),
 J 6 (.alloc 32 z8),
 M 5 11,
 N (.store 8 (.t 6) (.t 13))] 6)
(.seq
(F [M 14 0,
 J 15 (.load (some 8) (.t 4)),
 J 16 (.load (some 8) (.t 6)),
 J 17 (.call (.t 14) [(.t 15), (.t 16)]),
 N (.store 8 (.t 4) (.t 17))] 5)
(.seq
(F [M 18 5,
 J 19 (.bin .eql (.t 18) (Z 0))] 2)
(.cond (.t 19)
(F [J 20 (.load (some 8) (.t 6)),
 N (.store 8 (.t 4) (.t 20))] 2)
.skip)))))
(F [J 21 (.bin .add (.t 9) (Z 1)),
 M 9 21] 2)))))))
(.seq
(F [J 22 (.load (some 8) (.t 4)),
 N (.store 8 (.t 4) (.t 22))] 2)
.ret)))
def rv : List RV := [.cell 4 (some 8)]
theorem enter : En Tryd.prog 77 23 s rv := En.mk (c := Tryd.f77.body.getD .ret) Tryd.func77 rfl (by kernel_rfl) (by kernel_rfl) (by kernel_rfl) (by kernel_rfl)
end vector_all_api_Vector
namespace vector_each
abbrev f : Nat := 78
def s : SCo := (.seq
(F [J 1 (.box 110 (.t 0)),
 J 2 (.mv (.k (.d .nilf)))] 2)
(.seq
(F [J 3 (.mkf (.func 90) [] [(.t 1)]),
 M 2 3] 2)
.ret))
def rv : List RV := [.tmp 2]
theorem enter : En Tryd.prog 78 4 s rv := En.mk (c := Tryd.f78.body.getD .ret) Tryd.func78 rfl (by kernel_rfl) (by kernel_rfl) (by kernel_rfl) (by kernel_rfl)
end vector_each
namespace vector_Merge_1
abbrev f : Nat := 79
def s : SCo := (.seq
(F [J 4 (.mv (.k (b32 0)))] 1)
(.seq
(F [M 5 0,
 M 6 1,
 J 7 (.mx (.t 5) (.t 6)),
 M 4 7] 4)
.ret))
def rv : List RV := [.tmp 4]
theorem enter : En Tryd.prog 79 8 s rv := En.mk (c := Tryd.f79.body.getD .ret) Tryd.func79 rfl (by kernel_rfl) (by kernel_rfl) (by kernel_rfl) (by kernel_rfl)
end vector_Merge_1
namespace slices_partitionEqualCmpFunc_int
end slices_partitionEqualCmpFunc_int
namespace math_bits_Len32
end math_bits_Len32
namespace vector_each_1
abbrev f : Nat := 90
def s : SCo := (.seq
(F [J 3 (.box 32 (.t 0)),
 J 4 (.box 32 (.t 1)),
 J 5 (.alloc 32 z8)] 3)
(.seq
(.seq
(F [J 7 (.mv (Z 0))] 1)
(.block 0
(.loop
(.seq
(F [J 8 (.bin .lss (.t 7) (Z 8))] 1)
(.seq
(.cond (.t 8)
.skip
(.exit 0))
(.seq
(.block 1
(.seq
(F [M 9 7,
 M 6 9] 2)
(.reg [M 10 6,
 J 11 (.load none (.t 2)),
 M 12 6,
 J 13 (.idxA 8 1 (.t 3) (.t 12)),
 J 14 (.load none (.t 13)),
 M 15 6,
 J 16 (.idxA 8 1 (.t 4) (.t 15)),
 J 17 (.load none (.t 16)),
 J 18 (.call (.t 11) [(.t 14), (.t 17)]),
 J 19 (.idxA 8 1 (.t 5) (.t 10)),
 N (.store 1 (.t 19) (.t 18))] [0,
0,
0,
4,
12,
0,
32,
96,
254,
511,
1023] true)))
(F [J 20 (.bin .add (.t 7) (Z 1)),
 M 7 20] 2)))))))
(.seq
(F [J 21 (.load (some 8) (.t 5)),
 N (.store 8 (.t 5) (.t 21))] 2)
.ret)))
def rv : List RV := [.cell 5 (some 8)]
theorem enter : En Tryd.prog 90 22 s rv := En.mk (c := Tryd.f90.body.getD .ret) Tryd.func90 rfl (by kernel_rfl) (by kernel_rfl) (by kernel_rfl) (by kernel_rfl)
end vector_each_1
namespace gosem_cut_vars
end gosem_cut_vars
end Go.Proofs.YtemghnbbmahaaaaDoor
