/-
  The code of the functions in the small form, by program (gen.py); each is checked against the translation by the kernel.
-/
import Derived.Test.YtlgfknfdfnaedaaChecked
import Derived.Test.YtlgfknfdfnaedaaU4
set_option linter.unusedVariables false
set_option linter.unusedSimpArgs false
set_option linter.unusedSectionVars false
namespace Go.Proofs.Ytlgfknfdfnaedaa
open Go.Sl Go.Sl.Co Go.Proofs
theorem mixed : Try.prog.follows .mixedOrders = true := by kernel_rfl
abbrev T_bool : Nat := 4
abbrev T_L_api_Op : Nat := 22
abbrev T_uint32 : Nat := 29
abbrev T_api_Dot : Nat := 31
abbrev T_api_Vector : Nat := 33
abbrev T_L_api_Claim : Nat := 35
abbrev T_api_Op : Nat := 37
abbrev T_api_Claim : Nat := 52
namespace law17_ShapeNames
abbrev f : Nat := 3
def s : SCo := (.seq
(F [J 2 (.mv (B false))] 1)
(.seq
(.seq
(F [M 13 0,
 J 14 (.call (C 6) [(.t 13)])] 2)
(.cond (.t 14)
(.seq
(F [J 15 (.call (C 7) []),
 M 2 15] 2)
.ret)
.skip))
(.seq
(F [M 16 0,
 J 17 (.call (C 8) [(.t 16)]),
 M 3 17] 3)
(.seq
(.seq
(F [M 18 3,
 J 19 (.eqnil false 0 (.t 18)),
 M 20 19,
 G 21 3 20 false,
 H 22 (.call (C 9) [(.t 21)]) 20 false,
 H 23 (.eqnil false 0 (.t 22)) 20 false,
 J 24 (.pick (.t 20) (B true) (.t 23))] 7)
(.cond (.t 24)
(.seq
(F [J 2 (.mv (B false))] 1)
.ret)
.skip))
(.seq
(.seq
(F [J 4 (.mv (Z 0))] 1)
(.block 0
(.loop
(.seq
(.seq
(F [M 25 4,
 M 26 0,
 J 27 (.len (.t 26)),
 J 28 (.bin .lss (.t 25) (.t 27))] 4)
(.cond (.t 28)
.skip
(.exit 0)))
(.seq
(.block 1
(.seq
(F [M 32 3,
 M 33 0,
 M 34 4,
 J 35 (.idxS 29 (.t 33) (.t 34)),
 J 36 (.fld 0 (.t 35)),
 J 37 (.load (some 2) (.t 36)),
 J 38 (.call (C 10) [(.t 32), (.t 37)]),
 M 31 38,
 J 39 (.ext 0 (.t 31)),
 J 40 (.ext 1 (.t 31)),
 J 5 (.alloc 37 z29),
 N (.store 29 (.t 5) (.t 39)),
 M 6 40] 13)
(.seq
(.seq
(F [M 41 3,
 J 42 (.fld 0 (.t 5)),
 J 43 (.load (some 2) (.t 42)),
 J 44 (.call (C 11) [(.t 41), (.t 43)]),
 J 45 (.not (.t 44)),
 M 46 45,
 H 47 (.fld 14 (.t 5)) 46 false,
 H 48 (.load none (.t 47)) 46 false,
 H 49 (.bin .eql (.t 48) (.k (b8 0))) 46 false,
 J 50 (.pick (.t 46) (B true) (.t 49))] 10)
(.cond (.t 50)
(.exit 1)
.skip))
(.seq
(.reg [M 52 3,
 J 53 (.call (C 9) [(.t 52)]),
 J 54 (.fld 15 (.t 5)),
 J 55 (.load (some 2) (.t 54)),
 J 56 (.call (C 12) [(.t 53), (.t 55)]),
 M 51 56,
 J 57 (.ext 0 (.t 51)),
 J 58 (.ext 1 (.t 51)),
 J 7 (.alloc 42 [b8 0, b32 0, b8 0, b32 0, b8 0, b32 0, b32 0, b8 0, b8 0, b64 0, i6 0]),
 N (.store 11 (.t 7) (.t 57)),
 M 8 58] [0,
1,
0,
4,
15,
31,
63,
63,
0,
383,
1023] true)
(.seq
(F [J 59 (.fld 14 (.t 5)),
 J 60 (.load none (.t 59)),
 J 61 (.call (C 13) [(.t 60)]),
 M 9 61] 4)
(.seq
(.seq
(F (M 62 8 ::
 J 63 (.bin .neq (.t 62) (Z 0)) ::
 M 64 63 ::
 H 65 (.fld 2 (.t 7)) 64 false ::
 H 66 (.load (some 2) (.t 65)) 64 false ::
 H 67 (.fld 12 (.t 5)) 64 false ::
 H 68 (.load (some 2) (.t 67)) 64 false ::
 H 69 (.eqv true [true, true] (.t 66) (.t 68)) 64 false ::
 J 70 (.pick (.t 64) (B true) (.t 69)) ::
 M 71 70 ::
 H 72 (.fld 6 (.t 7)) 71 false ::
 H 73 (.load none (.t 72)) 71 false ::
 H 74 (.fld 11 (.t 5)) 71 false ::
 H 75 (.load none (.t 74)) 71 false ::
 H 76 (.bin .neq (.t 73) (.t 75)) 71 false ::
 J 77 (.pick (.t 71) (B true) (.t 76)) ::
 M 78 77 ::
 H 79 (.fld 7 (.t 7)) 78 false ::
 H 80 (.load none (.t 79)) 78 false ::
 G 81 9 78 false ::
 H 82 (.bin .quo (.t 80) (.t 81)) 78 false ::
 H 83 (.bin .rem (.t 82) (.k (b8 2))) 78 false ::
 H 84 (.bin .neq (.t 83) (.k (b8 1))) 78 false ::
 J 85 (.pick (.t 78) (B true) (.t 84)) :: []) 24)
(.cond (.t 85)
(.seq
(F [J 2 (.mv (B false))] 1)
.ret)
.skip))
(.seq
(.seq
(.reg [J 86 (.fld 14 (.t 5)),
 J 87 (.load none (.t 86)),
 J 88 (.bin .eql (.t 87) (.k (b8 2))),
 M 89 88,
 G 90 3 89 true,
 H 91 (.call (C 9) [(.t 90)]) 89 true,
 H 92 (.fld 15 (.t 5)) 89 true,
 H 93 (.load (some 2) (.t 92)) 89 true,
 H 94 (.fld 21 (.t 5)) 89 true,
 H 95 (.load (some 2) (.t 94)) 89 true,
 H 96 (.call (C 14) [(.t 91), (.t 93), (.t 95)]) 89 true,
 H 97 (.not (.t 96)) 89 true,
 J 98 (.pick (.t 89) (.t 97) (B false))] [0,
1,
3,
7,
15,
31,
15,
79,
15,
271,
1023,
2047,
4095] true)
(.cond (.t 98)
(.seq
(F [J 2 (.mv (B false))] 1)
.ret)
.skip))
(.seq
(.seq
(F [J 99 (.fld 14 (.t 5)),
 J 100 (.load none (.t 99)),
 J 101 (.bin .geq (.t 100) (.k (b8 4))),
 M 102 101,
 H 103 (.fld 14 (.t 5)) 102 true,
 H 104 (.load none (.t 103)) 102 true,
 H 105 (.bin .leq (.t 104) (.k (b8 7))) 102 true,
 J 106 (.pick (.t 102) (.t 105) (B false))] 8)
(.cond (.t 106)
(.seq
(F [M 108 3,
 J 109 (.fld 21 (.t 5)),
 J 110 (.load (some 2) (.t 109)),
 J 111 (.call (C 10) [(.t 108), (.t 110)]),
 M 107 111,
 J 112 (.ext 0 (.t 107)),
 J 113 (.ext 1 (.t 107)),
 J 10 (.alloc 37 z29),
 N (.store 29 (.t 10) (.t 112)),
 M 11 113] 10)
(.seq
(.reg (M 114 11 ::
 J 115 (.not (.t 114)) ::
 M 116 115 ::
 H 117 (.fld 14 (.t 10)) 116 false ::
 H 118 (.load none (.t 117)) 116 false ::
 H 119 (.bin .neq (.t 118) (.k (b8 3))) 116 false ::
 J 120 (.pick (.t 116) (B true) (.t 119)) ::
 M 121 120 ::
 H 122 (.fld 12 (.t 10)) 121 false ::
 H 123 (.load (some 2) (.t 122)) 121 false ::
 H 124 (.fld 12 (.t 5)) 121 false ::
 H 125 (.load (some 2) (.t 124)) 121 false ::
 H 126 (.eqv true [true, true] (.t 123) (.t 125)) 121 false ::
 J 127 (.pick (.t 121) (B true) (.t 126)) ::
 M 128 127 ::
 G 129 3 128 false ::
 H 130 (.fld 21 (.t 5)) 128 false ::
 H 131 (.load (some 2) (.t 130)) 128 false ::
 H 132 (.call (C 11) [(.t 129), (.t 131)]) 128 false ::
 H 133 (.not (.t 132)) 128 false ::
 J 134 (.pick (.t 128) (B true) (.t 133)) ::
 M 135 134 ::
 H 136 (.fld 14 (.t 5)) 135 false ::
 H 137 (.load none (.t 136)) 135 false ::
 H 138 (.bin .geq (.t 137) (.k (b8 6))) 135 false ::
 G 139 138 135 false ::
 G 140 3 139 true ::
 H 141 (.fld 21 (.t 5)) 139 true ::
 H 142 (.load (some 2) (.t 141)) 139 true ::
 H 143 (.call (C 16) [(.t 140), (.t 142)]) 139 true ::
 H 144 (.fld 23 (.t 5)) 139 true ::
 H 145 (.load (some 2) (.t 144)) 139 true ::
 H 146 (.call (C 15) [(.t 143), (.t 145)]) 139 true ::
 H 147 (.not (.t 146)) 139 true ::
 H 148 (.pick (.t 139) (.t 147) (B false)) 135 false ::
 J 149 (.pick (.t 135) (B true) (.t 148)) :: []) (0 ::
1 ::
3 ::
7 ::
15 ::
31 ::
63 ::
127 ::
255 ::
511 ::
255 ::
1279 ::
4095 ::
8191 ::
16383 ::
32767 ::
32767 ::
98303 ::
262143 ::
524287 ::
1048575 ::
2097151 ::
4194303 ::
8388607 ::
16777215 ::
33554431 ::
67108863 ::
67108863 ::
201326591 ::
536870911 ::
67108863 ::
1140850687 ::
4294967295 ::
8589934591 ::
17179869183 ::
34359738367 :: []) true)
(.cond (.t 149)
(.seq
(F [J 2 (.mv (B false))] 1)
.ret)
.skip)))
.skip))
(.seq
(F [J 12 (.mv (Z 0))] 1)
(.block 2
(.loop
(.seq
(.seq
(F [M 150 12,
 J 151 (.fld 28 (.t 5)),
 J 152 (.load none (.t 151)),
 J 153 (.len (.t 152)),
 J 154 (.bin .lss (.t 150) (.t 153)),
 M 155 154,
 H 156 (.fld 14 (.t 5)) 155 true,
 H 157 (.load none (.t 156)) 155 true,
 H 158 (.bin .eql (.t 157) (.k (b8 8))) 155 true,
 J 159 (.pick (.t 155) (.t 158) (B false))] 10)
(.cond (.t 159)
.skip
(.exit 2)))
(.seq
(.block 3
(.seq
(.reg (M 162 3 ::
 J 163 (.fld 28 (.t 5)) ::
 J 164 (.load none (.t 163)) ::
 M 165 12 ::
 J 166 (.idxS 4 (.t 164) (.t 165)) ::
 J 167 (.fld 0 (.t 166)) ::
 J 168 (.load (some 2) (.t 167)) ::
 J 169 (.call (C 16) [(.t 162), (.t 168)]) ::
 J 170 (.fld 28 (.t 5)) ::
 J 171 (.load none (.t 170)) ::
 M 172 12 ::
 J 173 (.idxS 4 (.t 171) (.t 172)) ::
 J 174 (.fld 2 (.t 173)) ::
 J 175 (.load (some 2) (.t 174)) ::
 J 176 (.call (C 15) [(.t 169), (.t 175)]) ::
 J 177 (.not (.t 176)) :: []) (0 ::
0 ::
2 ::
0 ::
14 ::
30 ::
62 ::
127 ::
0 ::
256 ::
0 ::
1792 ::
3840 ::
7936 ::
16383 ::
32767 :: []) true)
(.cond (.t 177)
(.seq
(F [J 2 (.mv (B false))] 1)
.ret)
.skip)))
(F [M 160 12,
 J 161 (.bin .add (.t 160) (Z 1)),
 M 12 161] 3))))))))))))))
(F [M 29 4,
 J 30 (.bin .add (.t 29) (Z 1)),
 M 4 30] 3))))))
(.seq
(F [J 178 (.call (C 7) []),
 M 2 178] 2)
.ret))))))
def rv : List RV := [.tmp 2]
theorem enter : En Try.prog 3 179 s rv := En.mk (c := Try.f3.body.getD .ret) Try.func3 rfl (by kernel_rfl) (by kernel_rfl) (by kernel_rfl) (by kernel_rfl)
end law17_ShapeNames
namespace law17_ShapeNone
abbrev f : Nat := 4
def s : SCo := (.seq
(F [J 1 (.box 37 (.t 0)),
 J 2 (.mv (B false))] 2)
(.seq
(F [J 3 (.mv (.k (.d .nilp)))] 1)
(.seq
(F [M 9 3,
 J 10 (.bld [(.d .nilp), (.d .nilm), (.d .nilm), (.d .nilm)] []),
 J 11 (.box 57 (.t 10)),
 J 12 (.bsl 25 1 2 [(.d .nilp), (.d .nilp)] [(0, 1, (.t 9)), (1, 1, (.t 11))]),
 M 4 12] 5)
(.seq
(.seq
(F [J 5 (.mv (Z 0))] 1)
(.block 0
(.loop
(.seq
(.seq
(F [M 13 5,
 J 14 (.bin .lss (.t 13) (Z 2))] 2)
(.cond (.t 14)
.skip
(.exit 0)))
(.seq
(.block 1
(.seq
(F [M 17 4,
 M 18 5,
 J 19 (.idxS 1 (.t 17) (.t 18)),
 J 20 (.load none (.t 19)),
 M 6 20] 5)
(.seq
(F [M 22 6,
 J 23 (.fld 0 (.t 1)),
 J 24 (.load (some 2) (.t 23)),
 J 25 (.call (C 10) [(.t 22), (.t 24)]),
 M 21 25,
 J 26 (.ext 0 (.t 21)),
 J 27 (.ext 1 (.t 21)),
 J 7 (.alloc 37 z29),
 N (.store 29 (.t 7) (.t 26)),
 M 8 27] 10)
(.seq
(F (M 28 6 ::
 J 29 (.load (some 29) (.t 1)) ::
 J 30 (.call (C 17) [(.t 28), (.t 29)]) ::
 J 31 (.bin .neq (.t 30) (Z 1)) ::
 M 32 31 ::
 G 33 6 32 false ::
 H 34 (.fld 0 (.t 1)) 32 false ::
 H 35 (.load (some 2) (.t 34)) 32 false ::
 H 36 (.call (C 11) [(.t 33), (.t 35)]) 32 false ::
 J 37 (.pick (.t 32) (B true) (.t 36)) ::
 M 38 37 ::
 G 39 8 38 false ::
 J 40 (.pick (.t 38) (B true) (.t 39)) ::
 M 41 40 ::
 G 42 6 41 false ::
 H 43 (.fld 0 (.t 1)) 41 false ::
 H 44 (.load (some 2) (.t 43)) 41 false ::
 H 45 (.call (C 16) [(.t 42), (.t 44)]) 41 false ::
 H 46 (.len (.t 45)) 41 false ::
 H 47 (.bin .neq (.t 46) (Z 0)) 41 false ::
 J 48 (.pick (.t 41) (B true) (.t 47)) ::
 M 49 48 ::
 G 50 6 49 false ::
 H 51 (.call (C 18) [(.t 50)]) 49 false ::
 H 52 (.len (.t 51)) 49 false ::
 H 53 (.bin .neq (.t 52) (Z 0)) 49 false ::
 J 54 (.pick (.t 49) (B true) (.t 53)) ::
 M 55 54 ::
 G 56 6 55 false ::
 H 57 (.call (C 9) [(.t 56)]) 55 false ::
 H 58 (.eqnil true 0 (.t 57)) 55 false ::
 J 59 (.pick (.t 55) (B true) (.t 58)) :: []) 32)
(.cond (.t 59)
(.seq
(F [J 2 (.mv (B false))] 1)
.ret)
.skip)))))
(F [M 15 5,
 J 16 (.bin .add (.t 15) (Z 1)),
 M 5 16] 3))))))
(.seq
(F [J 60 (.call (C 7) []),
 M 2 60] 2)
.ret)))))
def rv : List RV := [.tmp 2]
theorem enter : En Try.prog 4 61 s rv := En.mk (c := Try.f4.body.getD .ret) Try.func4 rfl (by kernel_rfl) (by kernel_rfl) (by kernel_rfl) (by kernel_rfl)
end law17_ShapeNone
namespace law18_RevokeNone
end law18_RevokeNone
namespace ref10_Great
abbrev f : Nat := 6
def s : SCo := (.seq
(F [J 2 (.mv (B false))] 1)
(.seq
(F [J 3 (.mv (Z 0))] 1)
(.seq
(.seq
(F [J 4 (.mv (Z 0))] 1)
(.block 0
(.loop
(.seq
(.seq
(F [M 5 4,
 M 6 0,
 J 7 (.len (.t 6)),
 J 8 (.bin .lss (.t 5) (.t 7)),
 M 9 8,
 G 10 4 9 true,
 H 11 (.bin .lss (.t 10) (Z 100)) 9 true,
 J 12 (.pick (.t 9) (.t 11) (B false))] 8)
(.cond (.t 12)
.skip
(.exit 0)))
(.seq
(.block 1
(F [M 15 3,
 M 16 0,
 M 17 4,
 J 18 (.idxS 29 (.t 16) (.t 17)),
 J 19 (.fld 28 (.t 18)),
 J 20 (.load none (.t 19)),
 J 21 (.len (.t 20)),
 J 22 (.bin .add (.t 15) (.t 21)),
 M 3 22] 9))
(F [M 13 4,
 J 14 (.bin .add (.t 13) (Z 1)),
 M 4 14] 3))))))
(.seq
(F [M 23 0,
 J 24 (.len (.t 23)),
 J 25 (.bin .gtr (.t 24) (Z 80)),
 M 26 25,
 G 27 3 26 false,
 H 28 (.bin .gtr (.t 27) (Z 300)) 26 false,
 J 29 (.pick (.t 26) (B true) (.t 28)),
 M 2 29] 8)
.ret))))
def rv : List RV := [.tmp 2]
theorem enter : En Try.prog 6 30 s rv := En.mk (c := Try.f6.body.getD .ret) Try.func6 rfl (by kernel_rfl) (by kernel_rfl) (by kernel_rfl) (by kernel_rfl)
end ref10_Great
namespace law17_head
abbrev f : Nat := 7
def s : SCo := (.seq
(F [J 0 (.mv (B false))] 1)
(.seq
(F [J 4 (.call (C 25) []),
 J 5 (.call (C 8) [(.t 4)]),
 M 1 5] 3)
(.seq
(.seq
(F [M 6 1,
 J 7 (.eqnil false 0 (.t 6))] 2)
(.cond (.t 7)
(.seq
(F [J 0 (.mv (B false))] 1)
.ret)
.skip))
(.seq
(F [J 8 (.call (C 26) [(.k (b32 5)), (.k (b8 8)), (.k (b32 2)), (.k (b32 2))]),
 J 9 (.call (C 26) [(.k (b32 5)), (.k (b8 4)), (.k (b32 2)), (.k (b32 2))]),
 J 10 (.call (C 27) [(.t 9), (.k (b32 3)), (.k (b32 0))]),
 J 2 (.alloc 37 z29),
 J 3 (.alloc 37 z29),
 N (.store 29 (.t 2) (.t 8)),
 N (.store 29 (.t 3) (.t 10))] 7)
(.seq
(F [J 11 (.bld [b8 0, b32 0] [(1, 1, (.k (b32 3)))]),
 J 12 (.bld [b8 0, b32 0] [(1, 1, (.k (b32 4)))]),
 J 13 (.bld [b8 0, b32 0, b8 0, b32 0] [(0, 2, (.t 11)), (2, 2, (.t 12))]),
 J 14 (.bsl 52 4 1 [b8 0, b32 0, b8 0, b32 0] [(0, 4, (.t 13))]),
 J 15 (.fld 28 (.t 2)),
 N (.store 1 (.t 15) (.t 14))] 6)
(.seq
(F [J 16 (.bld [b8 0, b32 0] [(1, 1, (.k (b32 3)))]),
 J 17 (.fld 12 (.t 3)),
 N (.store 2 (.t 17) (.t 16))] 3)
(.seq
(F (M 18 1 ::
 J 19 (.call (C 26) [(.k (b32 5)), (.k (b8 6)), (.k (b32 1)), (.k (b32 1))]) ::
 J 20 (.call (C 27) [(.t 19), (.k (b32 3)), (.k (b32 4))]) ::
 J 21 (.call (C 17) [(.t 18), (.t 20)]) ::
 J 22 (.bin .eql (.t 21) (Z 0)) ::
 M 23 22 ::
 G 24 1 23 true ::
 H 25 (.call (C 26) [(.k (b32 5)), (.k (b8 6)), (.k (b32 1)), (.k (b32 1))]) 23 true ::
 H 26 (.call (C 27) [(.t 25), (.k (b32 3)), (.k (b32 2))]) 23 true ::
 H 27 (.call (C 17) [(.t 24), (.t 26)]) 23 true ::
 H 28 (.bin .eql (.t 27) (Z 276)) 23 true ::
 J 29 (.pick (.t 23) (.t 28) (B false)) ::
 M 30 29 ::
 G 31 1 30 true ::
 H 32 (.call (C 26) [(.k (b32 5)), (.k (b8 6)), (.k (b32 2)), (.k (b32 2))]) 30 true ::
 H 33 (.call (C 27) [(.t 32), (.k (b32 3)), (.k (b32 4))]) 30 true ::
 H 34 (.call (C 17) [(.t 31), (.t 33)]) 30 true ::
 H 35 (.bin .eql (.t 34) (Z 274)) 30 true ::
 J 36 (.pick (.t 30) (.t 35) (B false)) ::
 M 37 36 ::
 G 38 1 37 true ::
 H 39 (.call (C 26) [(.k (b32 5)), (.k (b8 2)), (.k (b32 1)), (.k (b32 1))]) 37 true ::
 H 40 (.call (C 27) [(.t 39), (.k (b32 2)), (.k (b32 0))]) 37 true ::
 H 41 (.call (C 17) [(.t 38), (.t 40)]) 37 true ::
 H 42 (.bin .eql (.t 41) (Z 0)) 37 true ::
 J 43 (.pick (.t 37) (.t 42) (B false)) ::
 M 44 43 ::
 G 45 1 44 true ::
 H 46 (.call (C 26) [(.k (b32 5)), (.k (b8 2)), (.k (b32 1)), (.k (b32 1))]) 44 true ::
 H 47 (.call (C 27) [(.t 46), (.k (b32 1)), (.k (b32 0))]) 44 true ::
 H 48 (.call (C 17) [(.t 45), (.t 47)]) 44 true ::
 H 49 (.bin .eql (.t 48) (Z 276)) 44 true ::
 J 50 (.pick (.t 44) (.t 49) (B false)) ::
 M 51 50 ::
 G 52 1 51 true ::
 H 53 (.load (some 29) (.t 2)) 51 true ::
 H 54 (.call (C 17) [(.t 52), (.t 53)]) 51 true ::
 H 55 (.bin .eql (.t 54) (Z 0)) 51 true ::
 J 56 (.pick (.t 51) (.t 55) (B false)) ::
 M 57 56 ::
 G 58 1 57 true ::
 H 59 (.call (C 26) [(.k (b32 5)), (.k (b8 4)), (.k (b32 1)), (.k (b32 2))]) 57 true ::
 H 60 (.call (C 27) [(.t 59), (.k (b32 3)), (.k (b32 0))]) 57 true ::
 H 61 (.call (C 17) [(.t 58), (.t 60)]) 57 true ::
 H 62 (.bin .eql (.t 61) (Z 273)) 57 true ::
 J 63 (.pick (.t 57) (.t 62) (B false)) ::
 M 64 63 ::
 G 65 1 64 true ::
 H 66 (.load (some 29) (.t 3)) 64 true ::
 H 67 (.call (C 17) [(.t 65), (.t 66)]) 64 true ::
 H 68 (.bin .eql (.t 67) (Z 271)) 64 true ::
 J 69 (.pick (.t 64) (.t 68) (B false)) ::
 M 70 69 ::
 G 71 1 70 true ::
 H 72 (.bld [b8 0, b32 0] [(1, 1, (.k (b32 4)))]) 70 true ::
 H 73 (.call (C 11) [(.t 71), (.t 72)]) 70 true ::
 J 74 (.pick (.t 70) (.t 73) (B false)) ::
 M 75 74 ::
 G 76 1 75 true ::
 H 77 (.bld [b8 0, b32 0] [(1, 1, (.k (b32 5)))]) 75 true ::
 H 78 (.call (C 11) [(.t 76), (.t 77)]) 75 true ::
 H 79 (.not (.t 78)) 75 true ::
 J 80 (.pick (.t 75) (.t 79) (B false)) ::
 M 81 80 ::
 H 82 (.call (C 28) [(.k (b8 6))]) 81 true ::
 H 83 (.bin .eql (.t 82) (.k (b8 4))) 81 true ::
 J 84 (.pick (.t 81) (.t 83) (B false)) ::
 M 0 84 :: []) 68)
.ret)))))))
def rv : List RV := [.tmp 0]
theorem enter : En Try.prog 7 85 s rv := En.mk (c := Try.f7.body.getD .ret) Try.func7 rfl (by kernel_rfl) (by kernel_rfl) (by kernel_rfl) (by kernel_rfl)
end law17_head
namespace shape_New
abbrev f : Nat := 8
def s : SCo := (.seq
(F [J 2 (.mv (.k (.d .nilp)))] 1)
(.seq
(F [M 12 0,
 J 13 (.call (C 29) [(.t 12)]),
 J 14 (.mkm),
 J 15 (.mkm),
 J 16 (.mkm),
 J 17 (.bld [(.d .nilp), (.d .nilm), (.d .nilm), (.d .nilm)] [(0, 1, (.t 13)), (1, 1, (.t 14)), (2, 1, (.t 15)), (3, 1, (.t 16))]),
 J 18 (.box 57 (.t 17)),
 M 3 18] 8)
(.seq
(.seq
(F [M 19 0,
 J 20 (.len (.t 19)),
 J 21 (.mv (Z 0))] 3)
(.block 0
(.loop
(.seq
(F [J 22 (.bin .lss (.t 21) (.t 20))] 1)
(.seq
(.cond (.t 22)
.skip
(.exit 0))
(.seq
(.block 1
(.seq
(F [J 23 (.idxS 29 (.t 19) (.t 21)),
 J 24 (.load (some 29) (.t 23)),
 J 5 (.alloc 37 z29),
 N (.store 29 (.t 5) (.t 24))] 4)
(.seq
(.reg [M 26 3,
 J 27 (.nilc (.t 26)),
 J 28 (.fld 1 (.t 27)),
 J 29 (.load none (.t 28)),
 J 30 (.fld 0 (.t 5)),
 J 31 (.load (some 2) (.t 30)),
 J 32 (.look [true, true] true (.agg z29) (.t 29) (.t 31) true),
 M 25 32,
 J 33 (.ext 0 (.t 25)),
 J 34 (.ext 1 (.t 25)),
 J 6 (.alloc 37 z29),
 N (.store 29 (.t 6) (.t 33)),
 M 7 34] [0,
1,
3,
7,
0,
16,
63,
127,
255,
255,
0,
1535,
4095] true)
(.seq
(F [M 35 7,
 J 36 (.not (.t 35))] 2)
(.cond (.t 36)
(.reg [M 37 3,
 J 38 (.nilc (.t 37)),
 J 39 (.fld 1 (.t 38)),
 J 40 (.load none (.t 39)),
 J 41 (.fld 0 (.t 5)),
 J 42 (.load (some 2) (.t 41)),
 J 43 (.load (some 29) (.t 5)),
 N (.mset [true, true] true (.t 40) (.t 42) (.t 43))] [0,
1,
3,
7,
0,
16,
0,
127] true)
.skip)))))
(F [J 44 (.bin .add (.t 21) (Z 1)),
 M 21 44] 2)))))))
(.seq
(.seq
(F [M 45 3,
 J 46 (.nilc (.t 45)),
 J 47 (.fld 1 (.t 46)),
 J 48 (.load none (.t 47)),
 J 49 (.mrange (.t 48))] 5)
(.block 2
(.loop
(.seq
(F [J 50 (.mnext (.t 49)),
 J 51 (.ext 0 (.t 50))] 2)
(.seq
(.cond (.t 51)
.skip
(.exit 2))
(.block 3
(.seq
(F [J 52 (.mentry (.t 49)),
 J 53 (.ext 0 (.t 52)),
 J 54 (.ext 1 (.t 52)),
 J 8 (.alloc 31 [b8 0, b32 0]),
 J 9 (.alloc 37 z29),
 N (.store 2 (.t 8) (.t 53)),
 N (.store 29 (.t 9) (.t 54))] 7)
(.seq
(F [J 55 (.fld 14 (.t 9)),
 J 56 (.load none (.t 55)),
 J 57 (.bin .eql (.t 56) (.k (b8 3))),
 M 58 57,
 G 59 3 58 true,
 H 60 (.load (some 29) (.t 9)) 58 true,
 H 61 (.call (C 17) [(.t 59), (.t 60)]) 58 true,
 H 62 (.bin .eql (.t 61) (Z 0)) 58 true,
 J 63 (.pick (.t 58) (.t 62) (B false))] 9)
(.cond (.t 63)
(.reg [M 64 3,
 J 65 (.nilc (.t 64)),
 J 66 (.fld 2 (.t 65)),
 J 67 (.load none (.t 66)),
 J 68 (.load (some 2) (.t 8)),
 N (.mset [true, true] true (.t 67) (.t 68) (Z 1))] [0,
1,
3,
7,
0,
31] true)
.skip)))))))))
(.seq
(.seq
(F [M 69 3,
 J 70 (.nilc (.t 69)),
 J 71 (.fld 1 (.t 70)),
 J 72 (.load none (.t 71)),
 J 73 (.mrange (.t 72))] 5)
(.block 4
(.loop
(.seq
(F [J 74 (.mnext (.t 73)),
 J 75 (.ext 0 (.t 74))] 2)
(.seq
(.cond (.t 75)
.skip
(.exit 4))
(.block 5
(.seq
(F [J 76 (.mentry (.t 73)),
 J 77 (.ext 0 (.t 76)),
 J 78 (.ext 1 (.t 76)),
 J 10 (.alloc 31 [b8 0, b32 0]),
 J 11 (.alloc 37 z29),
 N (.store 2 (.t 10) (.t 77)),
 N (.store 29 (.t 11) (.t 78))] 7)
(.seq
(F [J 79 (.fld 14 (.t 11)),
 J 80 (.load none (.t 79)),
 J 81 (.bin .eql (.t 80) (.k (b8 4))),
 M 82 81,
 G 83 3 82 true,
 H 84 (.load (some 29) (.t 11)) 82 true,
 H 85 (.call (C 17) [(.t 83), (.t 84)]) 82 true,
 H 86 (.bin .eql (.t 85) (Z 0)) 82 true,
 J 87 (.pick (.t 82) (.t 86) (B false))] 9)
(.cond (.t 87)
(.reg [M 88 3,
 J 89 (.nilc (.t 88)),
 J 90 (.fld 3 (.t 89)),
 J 91 (.load none (.t 90)),
 J 92 (.load (some 2) (.t 10)),
 J 93 (.fld 21 (.t 11)),
 J 94 (.load (some 2) (.t 93)),
 N (.mset [true, true] true (.t 91) (.t 92) (.t 94))] [0,
1,
3,
7,
0,
0,
32,
127] true)
.skip)))))))))
(.seq
(F [M 95 3,
 M 2 95] 2)
.ret))))))
def rv : List RV := [.tmp 2]
theorem enter : En Try.prog 8 96 s rv := En.mk (c := Try.f8.body.getD .ret) Try.func8 rfl (by kernel_rfl) (by kernel_rfl) (by kernel_rfl) (by kernel_rfl)
end shape_New
namespace shape_Shape_Tree
abbrev f : Nat := 9
def s : SCo := (.seq
(F [J 2 (.mv (.k (.d .nilp)))] 1)
(.seq
(.seq
(F [M 3 0,
 J 4 (.call (C 30) [(.t 3)])] 2)
(.cond (.t 4)
(.seq
(F [J 2 (.mv (.k (.d .nilp)))] 1)
.ret)
.skip))
(.seq
(F [M 5 0,
 J 6 (.nilc (.t 5)),
 J 7 (.fld 0 (.t 6)),
 J 8 (.load none (.t 7)),
 M 2 8] 5)
.ret)))
def rv : List RV := [.tmp 2]
theorem enter : En Try.prog 9 9 s rv := En.mk (c := Try.f9.body.getD .ret) Try.func9 rfl (by kernel_rfl) (by kernel_rfl) (by kernel_rfl) (by kernel_rfl)
end shape_Shape_Tree
namespace shape_Shape_Op
abbrev f : Nat := 10
def s : SCo := (.seq
(F [J 3 (.box 31 (.t 1)),
 J 4 (.alloc 37 z29),
 J 5 (.mv (B false))] 3)
(.seq
(.seq
(F [M 8 0,
 J 9 (.call (C 30) [(.t 8)])] 2)
(.cond (.t 9)
(.seq
(F [J 10 (.bld z29 []),
 N (.store 29 (.t 4) (.t 10)),
 J 5 (.mv (B false))] 3)
.ret)
.skip))
(.seq
(.reg [M 12 0,
 J 13 (.nilc (.t 12)),
 J 14 (.fld 1 (.t 13)),
 J 15 (.load none (.t 14)),
 J 16 (.load (some 2) (.t 3)),
 J 17 (.look [true, true] true (.agg z29) (.t 15) (.t 16) true),
 M 11 17,
 J 18 (.ext 0 (.t 11)),
 J 19 (.ext 1 (.t 11)),
 J 6 (.alloc 37 z29),
 N (.store 29 (.t 6) (.t 18)),
 M 7 19] [0,
1,
3,
7,
0,
31,
63,
127,
127,
0,
767,
2047] true)
(.seq
(F [J 20 (.fld 28 (.t 6)),
 J 21 (.load none (.t 20)),
 J 22 (.call (C 31) [(.t 21)]),
 J 23 (.fld 28 (.t 6)),
 N (.store 1 (.t 23) (.t 22))] 5)
(.seq
(F [J 24 (.load (some 29) (.t 6)),
 M 25 7,
 N (.store 29 (.t 4) (.t 24)),
 M 5 25] 4)
.ret)))))
def rv : List RV := [.cell 4 (some 29), .tmp 5]
theorem enter : En Try.prog 10 26 s rv := En.mk (c := Try.f10.body.getD .ret) Try.func10 rfl (by kernel_rfl) (by kernel_rfl) (by kernel_rfl) (by kernel_rfl)
end shape_Shape_Op
namespace shape_Shape_Good
abbrev f : Nat := 11
def s : SCo := (.seq
(F [J 3 (.box 31 (.t 1)),
 J 4 (.mv (B false))] 2)
(.seq
(F [M 8 0,
 J 9 (.load (some 2) (.t 3)),
 J 10 (.call (C 10) [(.t 8), (.t 9)]),
 M 7 10,
 J 11 (.ext 0 (.t 7)),
 J 12 (.ext 1 (.t 7)),
 J 5 (.alloc 37 z29),
 N (.store 29 (.t 5) (.t 11)),
 M 6 12] 9)
(.seq
(F [M 13 6,
 M 14 13,
 G 15 0 14 true,
 H 16 (.load (some 29) (.t 5)) 14 true,
 H 17 (.call (C 17) [(.t 15), (.t 16)]) 14 true,
 H 18 (.bin .eql (.t 17) (Z 0)) 14 true,
 J 19 (.pick (.t 14) (.t 18) (B false)),
 M 4 19] 8)
.ret)))
def rv : List RV := [.tmp 4]
theorem enter : En Try.prog 11 20 s rv := En.mk (c := Try.f11.body.getD .ret) Try.func11 rfl (by kernel_rfl) (by kernel_rfl) (by kernel_rfl) (by kernel_rfl)
end shape_Shape_Good
namespace tree_Tree_Get
abbrev f : Nat := 12
def s : SCo := (.seq
(F [J 3 (.box 31 (.t 1)),
 J 4 (.alloc 42 [b8 0, b32 0, b8 0, b32 0, b8 0, b32 0, b32 0, b8 0, b8 0, b64 0, i6 0]),
 J 5 (.mv (Z 0))] 3)
(.seq
(.seq
(F [M 8 0,
 J 9 (.call (C 32) [(.t 8)])] 2)
(.cond (.t 9)
(.seq
(F [J 10 (.bld [b8 0, b32 0, b8 0, b32 0, b8 0, b32 0, b32 0, b8 0, b8 0, b64 0, i6 0] []),
 N (.store 11 (.t 4) (.t 10)),
 J 5 (.mv (Z 1))] 3)
.ret)
.skip))
(.seq
(.reg [M 12 0,
 J 13 (.nilc (.t 12)),
 J 14 (.fld 0 (.t 13)),
 J 15 (.load none (.t 14)),
 J 16 (.load (some 2) (.t 3)),
 J 17 (.look [true, true] true (.agg [b8 0, b32 0, b8 0, b32 0, b8 0, b32 0, b32 0, b8 0, b8 0, b64 0, i6 0]) (.t 15) (.t 16) true),
 M 11 17,
 J 18 (.ext 0 (.t 11)),
 J 19 (.ext 1 (.t 11)),
 J 6 (.alloc 42 [b8 0, b32 0, b8 0, b32 0, b8 0, b32 0, b32 0, b8 0, b8 0, b64 0, i6 0]),
 N (.store 11 (.t 6) (.t 18)),
 M 7 19] [0,
1,
3,
7,
0,
31,
63,
127,
127,
0,
767,
2047] true)
(.seq
(.seq
(F [M 20 7,
 J 21 (.not (.t 20))] 2)
(.cond (.t 21)
(.seq
(F [J 22 (.bld [b8 0, b32 0, b8 0, b32 0, b8 0, b32 0, b32 0, b8 0, b8 0, b64 0, i6 0] []),
 N (.store 11 (.t 4) (.t 22)),
 J 5 (.mv (Z 7))] 3)
.ret)
.skip))
(.seq
(F [J 23 (.load (some 11) (.t 6)),
 N (.store 11 (.t 4) (.t 23)),
 J 5 (.mv (Z 0))] 3)
.ret)))))
def rv : List RV := [.cell 4 (some 11), .tmp 5]
theorem enter : En Try.prog 12 24 s rv := En.mk (c := Try.f12.body.getD .ret) Try.func12 rfl (by kernel_rfl) (by kernel_rfl) (by kernel_rfl) (by kernel_rfl)
end tree_Tree_Get
namespace ref17_Needs
abbrev f : Nat := 13
def s : SCo := (.seq
(F [J 2 (.mv (.k (b8 0)))] 1)
(.seq
(.seq
(F [M 3 0] 1)
(.block 0
(.seq
(.seq
(F [J 5 (.bin .eql (.t 3) (.k (b8 1))),
 M 4 5] 2)
(.cond (.t 4)
.skip
(F [J 6 (.bin .eql (.t 3) (.k (b8 2))),
 M 4 6] 2)))
(.cond (.t 4)
(.seq
(F [J 2 (.mv (.k (b8 1)))] 1)
.ret)
(.seq
(.seq
(F [J 8 (.bin .eql (.t 3) (.k (b8 3))),
 M 7 8] 2)
(.cond (.t 7)
.skip
(.seq
(F [J 9 (.bin .eql (.t 3) (.k (b8 4))),
 M 7 9] 2)
(.cond (.t 7)
.skip
(.seq
(F [J 10 (.bin .eql (.t 3) (.k (b8 5))),
 M 7 10] 2)
(.cond (.t 7)
.skip
(F [J 11 (.bin .eql (.t 3) (.k (b8 8))),
 M 7 11] 2)))))))
(.cond (.t 7)
(.seq
(F [J 2 (.mv (.k (b8 2)))] 1)
.ret)
(.seq
(.seq
(F [J 13 (.bin .eql (.t 3) (.k (b8 6))),
 M 12 13] 2)
(.cond (.t 12)
.skip
(F [J 14 (.bin .eql (.t 3) (.k (b8 7))),
 M 12 14] 2)))
(.cond (.t 12)
(.seq
(F [J 2 (.mv (.k (b8 4)))] 1)
.ret)
.skip))))))))
(.seq
(F [J 2 (.mv (.k (b8 0)))] 1)
.ret)))
def rv : List RV := [.tmp 2]
theorem enter : En Try.prog 13 15 s rv := En.mk (c := Try.f13.body.getD .ret) Try.func13 rfl (by kernel_rfl) (by kernel_rfl) (by kernel_rfl) (by kernel_rfl)
end ref17_Needs
namespace tree_Tree_Above
abbrev f : Nat := 14
def s : SCo := (.seq
(F [J 4 (.box 31 (.t 1)),
 J 5 (.box 31 (.t 2)),
 J 6 (.alloc 4 [(.d (.bool false))])] 3)
(.seq
(.seq
(F [M 8 0,
 J 9 (.call (C 32) [(.t 8)]),
 M 10 9,
 H 11 (.load (some 2) (.t 4)) 10 false,
 H 12 (.load (some 2) (.t 5)) 10 false,
 H 13 (.eqv false [true, true] (.t 11) (.t 12)) 10 false,
 J 14 (.pick (.t 10) (B true) (.t 13))] 7)
(.cond (.t 14)
(.seq
(F [N (.store 1 (.t 6) (B false))] 1)
.ret)
.skip))
(.seq
(.seq
(F [M 15 0,
 J 16 (.load (some 2) (.t 5)),
 J 17 (.call (C 33) [(.t 15), (.t 16)])] 3)
(.block 0
(.rfun (.t 17) [18]
(F [J 7 (.alloc 42 [b8 0, b32 0, b8 0, b32 0, b8 0, b32 0, b32 0, b8 0, b8 0, b64 0, i6 0]),
 N (.store 11 (.t 7) (.t 18))] 2)
(.block 1
(.seq
(F [J 19 (.fld 0 (.t 7)),
 J 20 (.load (some 2) (.t 19)),
 J 21 (.load (some 2) (.t 4)),
 J 22 (.eqv false [true, true] (.t 20) (.t 21))] 4)
(.cond (.t 22)
(.seq
(F [N (.store 1 (.t 6) (B true))] 1)
.ret)
.skip))))))
(.seq
(F [N (.store 1 (.t 6) (B false))] 1)
.ret))))
def rv : List RV := [.cell 6 none]
theorem enter : En Try.prog 14 23 s rv := En.mk (c := Try.f14.body.getD .ret) Try.func14 rfl (by kernel_rfl) (by kernel_rfl) (by kernel_rfl) (by kernel_rfl)
end tree_Tree_Above
namespace ref03_In
abbrev f : Nat := 15
def s : SCo := (.seq
(F [J 3 (.box 31 (.t 1)),
 J 4 (.mv (B false))] 2)
(.seq
(.seq
(F [J 5 (.mv (Z 0))] 1)
(.block 0
(.loop
(.seq
(.seq
(F [M 6 5,
 M 7 0,
 J 8 (.len (.t 7)),
 J 9 (.bin .lss (.t 6) (.t 8))] 4)
(.cond (.t 9)
.skip
(.exit 0)))
(.seq
(.block 1
(.seq
(.reg [M 12 0,
 M 13 5,
 J 14 (.idxS 2 (.t 12) (.t 13)),
 J 15 (.load (some 2) (.t 14)),
 J 16 (.load (some 2) (.t 3)),
 J 17 (.eqv false [true, true] (.t 15) (.t 16))] [0,
0,
3,
7,
0,
31] true)
(.cond (.t 17)
(.seq
(F [J 4 (.mv (B true))] 1)
.ret)
.skip)))
(F [M 10 5,
 J 11 (.bin .add (.t 10) (Z 1)),
 M 5 11] 3))))))
(.seq
(F [J 4 (.mv (B false))] 1)
.ret)))
def rv : List RV := [.tmp 4]
theorem enter : En Try.prog 15 18 s rv := En.mk (c := Try.f15.body.getD .ret) Try.func15 rfl (by kernel_rfl) (by kernel_rfl) (by kernel_rfl) (by kernel_rfl)
end ref03_In
namespace shape_Shape_Versions
abbrev f : Nat := 16
def s : SCo := (.seq
(F [J 3 (.box 31 (.t 1)),
 J 4 (.mv (.k (.d .nils)))] 2)
(.seq
(.seq
(.reg [M 8 0,
 J 9 (.call (C 30) [(.t 8)]),
 M 10 9,
 G 11 0 10 false,
 H 12 (.nilc (.t 11)) 10 false,
 H 13 (.fld 2 (.t 12)) 10 false,
 H 14 (.load none (.t 13)) 10 false,
 H 15 (.load (some 2) (.t 3)) 10 false,
 H 16 (.look [true, true] true (i6 0) (.t 14) (.t 15) false) 10 false,
 H 17 (.bin .eql (.t 16) (Z 0)) 10 false,
 J 18 (.pick (.t 10) (B true) (.t 17))] [0,
1,
3,
7,
15,
31,
63,
7,
255,
511,
1023] true)
(.cond (.t 18)
(.seq
(F [J 4 (.mv (.k (.d .nils)))] 1)
.ret)
.skip))
(.seq
(F [J 19 (.load (some 2) (.t 3)),
 J 20 (.bsl 31 2 1 [b8 0, b32 0] [(0, 2, (.t 19))]),
 M 5 20] 3)
(.seq
(.seq
(F [M 21 0,
 J 22 (.nilc (.t 21)),
 J 23 (.fld 3 (.t 22)),
 J 24 (.load none (.t 23)),
 J 25 (.mrange (.t 24))] 5)
(.block 0
(.loop
(.seq
(F [J 26 (.mnext (.t 25)),
 J 27 (.ext 0 (.t 26))] 2)
(.seq
(.cond (.t 27)
.skip
(.exit 0))
(.block 1
(.seq
(F [J 28 (.mentry (.t 25)),
 J 29 (.ext 0 (.t 28)),
 J 30 (.ext 1 (.t 28)),
 J 6 (.alloc 31 [b8 0, b32 0]),
 J 7 (.alloc 31 [b8 0, b32 0]),
 N (.store 2 (.t 6) (.t 29)),
 N (.store 2 (.t 7) (.t 30))] 7)
(.seq
(F [J 31 (.load (some 2) (.t 7)),
 J 32 (.load (some 2) (.t 3)),
 J 33 (.eqv false [true, true] (.t 31) (.t 32))] 3)
(.cond (.t 33)
(F [M 34 5,
 J 35 (.load (some 2) (.t 6)),
 J 36 (.bsl 31 2 1 [b8 0, b32 0] [(0, 2, (.t 35))]),
 J 37 (.app 31 2 8 (.t 34) (.t 36)),
 M 5 37] 5)
.skip)))))))))
(.seq
(F [M 38 5,
 J 39 (.call (C 34) [(.t 38)]),
 M 4 39] 3)
.ret)))))
def rv : List RV := [.tmp 4]
theorem enter : En Try.prog 16 40 s rv := En.mk (c := Try.f16.body.getD .ret) Try.func16 rfl (by kernel_rfl) (by kernel_rfl) (by kernel_rfl) (by kernel_rfl)
end shape_Shape_Versions
namespace shape_Shape_Why
abbrev f : Nat := 17
def s : SCo := (.seq
(F [J 2 (.box 25 (.t 0)),
 J 3 (.box 37 (.t 1)),
 J 4 (.mv (Z 0))] 3)
(.seq
(.seq
(F [J 10 (.load none (.t 2)),
 J 11 (.call (C 30) [(.t 10)])] 2)
(.cond (.t 11)
(.seq
(F [J 4 (.mv (Z 1))] 1)
.ret)
.skip))
(.seq
(F [J 13 (.load none (.t 2)),
 J 14 (.fld 15 (.t 3)),
 J 15 (.load (some 2) (.t 14)),
 J 16 (.load (some 29) (.t 3)),
 J 17 (.call (C 35) [(.t 13), (.t 15), (.t 16)]),
 M 12 17,
 J 18 (.ext 0 (.t 12)),
 J 19 (.ext 1 (.t 12)),
 J 5 (.alloc 42 [b8 0, b32 0, b8 0, b32 0, b8 0, b32 0, b32 0, b8 0, b8 0, b64 0, i6 0]),
 J 6 (.alloc 4 [(.d (.bool false))]),
 N (.store 11 (.t 5) (.t 18)),
 N (.store 1 (.t 6) (.t 19))] 12)
(.seq
(F [J 20 (.fld 14 (.t 3)),
 J 21 (.load none (.t 20)),
 J 22 (.bin .eql (.t 21) (.k (b8 0))),
 J 7 (.alloc 4 [(.d (.bool false))]),
 N (.store 1 (.t 7) (.t 22))] 5)
(.seq
(.seq
(F (J 23 (.mkf (.func 36) [] [(.t 3)]) ::
 J 24 (.bld [i6 0, (.d .nilf)] [(0, 1, (Z 2)), (1, 1, (.t 23))]) ::
 J 25 (.mkf (.func 37) [] [(.t 2), (.t 3)]) ::
 J 26 (.bld [i6 0, (.d .nilf)] [(0, 1, (Z 271)), (1, 1, (.t 25))]) ::
 J 27 (.mkf (.func 39) [] [(.t 7), (.t 6)]) ::
 J 28 (.bld [i6 0, (.d .nilf)] [(0, 1, (Z 272)), (1, 1, (.t 27))]) ::
 J 29 (.mkf (.func 40) [] [(.t 7), (.t 5), (.t 3)]) ::
 J 30 (.bld [i6 0, (.d .nilf)] [(0, 1, (Z 273)), (1, 1, (.t 29))]) ::
 J 31 (.mkf (.func 41) [] [(.t 5), (.t 3)]) ::
 J 32 (.bld [i6 0, (.d .nilf)] [(0, 1, (Z 274)), (1, 1, (.t 31))]) ::
 J 33 (.mkf (.func 42) [] [(.t 3), (.t 2)]) ::
 J 34 (.bld [i6 0, (.d .nilf)] [(0, 1, (Z 275)), (1, 1, (.t 33))]) ::
 J 35 (.mkf (.func 44) [] [(.t 2), (.t 3)]) ::
 J 36 (.bld [i6 0, (.d .nilf)] [(0, 1, (Z 276)), (1, 1, (.t 35))]) ::
 J 37 (.bld [i6 0, (.d .nilf), i6 0, (.d .nilf), i6 0, (.d .nilf), i6 0, (.d .nilf), i6 0, (.d .nilf), i6 0, (.d .nilf), i6 0, (.d .nilf)] [(0, 2, (.t 24)), (2, 2, (.t 26)), (4, 2, (.t 28)), (6, 2, (.t 30)), (8, 2, (.t 32)), (10, 2, (.t 34)), (12, 2, (.t 36))]) ::
 J 38 (.mv (Z 0)) :: []) 16)
(.block 0
(.loop
(.seq
(F [J 39 (.bin .lss (.t 38) (Z 7))] 1)
(.seq
(.cond (.t 39)
.skip
(.exit 0))
(.seq
(.block 1
(.seq
(F [J 40 (.index 7 2 true (.t 37) (.t 38)),
 J 9 (.alloc 88 [i6 0, (.d .nilf)]),
 N (.store 2 (.t 9) (.t 40))] 3)
(.seq
(F [J 41 (.fld 1 (.t 9)),
 J 42 (.load none (.t 41)),
 J 43 (.call (.t 42) [])] 3)
(.cond (.t 43)
(.seq
(F [J 44 (.fld 0 (.t 9)),
 J 45 (.load none (.t 44)),
 M 4 45] 3)
.ret)
.skip))))
(F [J 46 (.bin .add (.t 38) (Z 1)),
 M 38 46] 2)))))))
(.seq
(F [J 4 (.mv (Z 0))] 1)
.ret))))))
def rv : List RV := [.tmp 4]
theorem enter : En Try.prog 17 47 s rv := En.mk (c := Try.f17.body.getD .ret) Try.func17 rfl (by kernel_rfl) (by kernel_rfl) (by kernel_rfl) (by kernel_rfl)
end shape_Shape_Why
namespace shape_Shape_Dots
abbrev f : Nat := 18
def s : SCo := (.seq
(F [J 2 (.mv (.k (.d .nils)))] 1)
(.seq
(.seq
(F [M 3 0,
 J 4 (.call (C 30) [(.t 3)])] 2)
(.cond (.t 4)
(.seq
(F [J 2 (.mv (.k (.d .nils)))] 1)
.ret)
.skip))
(.seq
(F [M 5 0,
 J 6 (.nilc (.t 5)),
 J 7 (.fld 1 (.t 6)),
 J 8 (.load none (.t 7)),
 J 9 (.call (C 47) [(.t 8)]),
 J 10 (.call (C 46) [(.t 9), (C 48)]),
 M 2 10] 7)
.ret)))
def rv : List RV := [.tmp 2]
theorem enter : En Try.prog 18 11 s rv := En.mk (c := Try.f18.body.getD .ret) Try.func18 rfl (by kernel_rfl) (by kernel_rfl) (by kernel_rfl) (by kernel_rfl)
end shape_Shape_Dots
namespace revoke_Index_Level
end revoke_Index_Level
namespace revoke_Index_Threats
end revoke_Index_Threats
namespace revoke_Index_Revokes
end revoke_Index_Revokes
namespace revoke_Index_Threatened
end revoke_Index_Threatened
namespace revoke_Index_Levels
end revoke_Index_Levels
namespace law18_head
end law18_head
namespace law17_row
abbrev f : Nat := 25
def s : SCo := (.seq
(F [J 0 (.mv (.k (.d .nils)))] 1)
(.seq
(F [J 5 (.call (C 26) [(.k (b32 1)), (.k (b8 0)), (.k (b32 1)), (.k (b32 0))]),
 J 6 (.call (C 26) [(.k (b32 2)), (.k (b8 1)), (.k (b32 1)), (.k (b32 1))]),
 J 7 (.call (C 26) [(.k (b32 3)), (.k (b8 3)), (.k (b32 2)), (.k (b32 2))]),
 J 8 (.call (C 26) [(.k (b32 4)), (.k (b8 4)), (.k (b32 2)), (.k (b32 2))]),
 J 1 (.alloc 37 z29),
 J 2 (.alloc 37 z29),
 J 3 (.alloc 37 z29),
 J 4 (.alloc 37 z29),
 N (.store 29 (.t 1) (.t 5)),
 N (.store 29 (.t 2) (.t 6)),
 N (.store 29 (.t 3) (.t 7)),
 N (.store 29 (.t 4) (.t 8))] 12)
(.seq
(F [J 9 (.fld 17 (.t 2)),
 N (.store 1 (.t 9) (.k (b32 2)))] 2)
(.seq
(F [J 10 (.fld 18 (.t 2)),
 N (.store 1 (.t 10) (.k (b8 2)))] 2)
(.seq
(F [J 11 (.fld 20 (.t 2)),
 N (.store 1 (.t 11) (.k (b64 9)))] 2)
(.seq
(F [J 12 (.fld 26 (.t 3)),
 N (.store 1 (.t 12) (.k (b32 1)))] 2)
(.seq
(F [J 13 (.bld [b8 0, b32 0] [(1, 1, (.k (b32 3)))]),
 J 14 (.fld 21 (.t 4)),
 N (.store 2 (.t 14) (.t 13))] 3)
(.seq
(F [J 15 (.fld 26 (.t 4)),
 N (.store 1 (.t 15) (.k (b32 2)))] 2)
(.seq
(F [J 16 (.load (some 29) (.t 1)),
 J 17 (.load (some 29) (.t 2)),
 J 18 (.load (some 29) (.t 3)),
 J 19 (.load (some 29) (.t 4)),
 J 20 (.bsl 37 29 4 [b8 0, b32 0, b32 0, b32 0, b32 0, b32 0, b32 0, b32 0, b32 0, b32 0, b64 0, b32 0, b8 0, b32 0, b8 0, b8 0, b32 0, b32 0, b8 0, b8 0, b64 0, b8 0, b32 0, b8 0, b32 0, b32 0, b32 0, b32 0, (.d .nils), b8 0, b32 0, b32 0, b32 0, b32 0, b32 0, b32 0, b32 0, b32 0, b32 0, b64 0, b32 0, b8 0, b32 0, b8 0, b8 0, b32 0, b32 0, b8 0, b8 0, b64 0, b8 0, b32 0, b8 0, b32 0, b32 0, b32 0, b32 0, (.d .nils), b8 0, b32 0, b32 0, b32 0, b32 0, b32 0, b32 0, b32 0, b32 0, b32 0, b64 0, b32 0, b8 0, b32 0, b8 0, b8 0, b32 0, b32 0, b8 0, b8 0, b64 0, b8 0, b32 0, b8 0, b32 0, b32 0, b32 0, b32 0, (.d .nils), b8 0, b32 0, b32 0, b32 0, b32 0, b32 0, b32 0, b32 0, b32 0, b32 0, b64 0, b32 0, b8 0, b32 0, b8 0, b8 0, b32 0, b32 0, b8 0, b8 0, b64 0, b8 0, b32 0, b8 0, b32 0, b32 0, b32 0, b32 0, (.d .nils)] [(0, 29, (.t 16)), (29, 29, (.t 17)), (58, 29, (.t 18)), (87, 29, (.t 19))]),
 M 0 20] 6)
.ret)))))))))
def rv : List RV := [.tmp 0]
theorem enter : En Try.prog 25 21 s rv := En.mk (c := Try.f25.body.getD .ret) Try.func25 rfl (by kernel_rfl) (by kernel_rfl) (by kernel_rfl) (by kernel_rfl)
end law17_row
namespace law17_act
abbrev f : Nat := 26
def s : SCo := (.seq
(F [J 8 (.alloc 37 z29)] 1)
(.seq
(F [M 9 0,
 J 10 (.bld [b8 0, b32 0] [(1, 1, (.t 9))]),
 M 11 0,
 J 12 (.bin .sub (.t 11) (.k (b32 1))),
 J 13 (.bld z8 [(0, 1, (.t 12))]),
 M 14 0,
 J 15 (.conv .u64 (.t 14)),
 M 16 2,
 J 17 (.bld [b8 0, b32 0] [(1, 1, (.k (b32 1)))]),
 M 18 1,
 M 19 3,
 J 20 (.bld [b8 0, b32 0] [(1, 1, (.t 19))]),
 J 21 (.bld z29 [(0, 2, (.t 10)), (2, 8, (.t 13)), (10, 1, (.t 15)), (11, 1, (.t 16)), (12, 2, (.t 17)), (14, 1, (.t 18)), (15, 2, (.t 20))]),
 N (.store 29 (.t 8) (.t 21))] 14)
.ret))
def rv : List RV := [.cell 8 (some 29)]
theorem enter : En Try.prog 26 22 s rv := En.mk (c := Try.f26.body.getD .ret) Try.func26 rfl (by kernel_rfl) (by kernel_rfl) (by kernel_rfl) (by kernel_rfl)
end law17_act
namespace law17_at
abbrev f : Nat := 27
def s : SCo := (.seq
(F [J 3 (.box 37 (.t 0)),
 J 6 (.alloc 37 z29)] 2)
(.seq
(F [M 7 1,
 J 8 (.bld [b8 0, b32 0] [(1, 1, (.t 7))]),
 J 9 (.fld 21 (.t 3)),
 N (.store 2 (.t 9) (.t 8))] 4)
(.seq
(.seq
(F [M 10 2,
 J 11 (.bin .gtr (.t 10) (.k (b32 0)))] 2)
(.cond (.t 11)
(F [M 12 2,
 J 13 (.bld [b8 0, b32 0] [(1, 1, (.t 12))]),
 J 14 (.fld 23 (.t 3)),
 N (.store 2 (.t 14) (.t 13))] 4)
.skip))
(.seq
(F [J 15 (.load (some 29) (.t 3)),
 N (.store 29 (.t 6) (.t 15))] 2)
.ret))))
def rv : List RV := [.cell 6 (some 29)]
theorem enter : En Try.prog 27 16 s rv := En.mk (c := Try.f27.body.getD .ret) Try.func27 rfl (by kernel_rfl) (by kernel_rfl) (by kernel_rfl) (by kernel_rfl)
end law17_at
namespace shape_Needs
abbrev f : Nat := 28
def s : SCo := (.seq
(F [J 2 (.mv (.k (b8 0)))] 1)
(.seq
(F [J 4 (.bld [b8 0, b8 0, b8 0, b8 0, b8 0, b8 0, b8 0, b8 0, b8 0] [(1, 1, (.k (b8 1))), (2, 1, (.k (b8 1))), (3, 1, (.k (b8 2))), (4, 1, (.k (b8 2))), (5, 1, (.k (b8 2))), (6, 1, (.k (b8 4))), (7, 1, (.k (b8 4))), (8, 1, (.k (b8 2)))]),
 J 3 (.alloc 104 [b8 0, b8 0, b8 0, b8 0, b8 0, b8 0, b8 0, b8 0, b8 0]),
 N (.store 9 (.t 3) (.t 4))] 3)
(.seq
(.seq
(F [M 5 0,
 J 6 (.conv .i64 (.t 5)),
 J 7 (.bin .geq (.t 6) (Z 9))] 3)
(.cond (.t 7)
(.seq
(F [J 2 (.mv (.k (b8 0)))] 1)
.ret)
.skip))
(.seq
(F [M 8 0,
 J 9 (.idxA 9 1 (.t 3) (.t 8)),
 J 10 (.load none (.t 9)),
 M 2 10] 4)
.ret))))
def rv : List RV := [.tmp 2]
theorem enter : En Try.prog 28 11 s rv := En.mk (c := Try.f28.body.getD .ret) Try.func28 rfl (by kernel_rfl) (by kernel_rfl) (by kernel_rfl) (by kernel_rfl)
end shape_Needs
namespace tree_New
abbrev f : Nat := 29
def s : SCo := (.seq
(F [J 2 (.mv (.k (.d .nilp)))] 1)
(.seq
(F [J 8 (.mkm),
 J 9 (.mkm),
 J 10 (.bld [(.d .nilm), (.d .nilm)] [(0, 1, (.t 8)), (1, 1, (.t 9))]),
 J 11 (.box 81 (.t 10)),
 M 3 11] 5)
(.seq
(F [J 12 (.mkm),
 J 4 (.alloc 54 [(.d .nilm)]),
 N (.store 1 (.t 4) (.t 12))] 3)
(.seq
(F [M 13 0,
 J 14 (.call (C 61) [(.t 13)]),
 J 15 (.mkf (.func 62) [] [(.t 4)]),
 J 16 (.call (C 60) [(.t 14), (.t 15)]),
 M 5 16] 5)
(.seq
(.seq
(F [J 6 (.mv (B true))] 1)
(.block 0
(.loop
(.seq
(.seq
(F [M 17 6] 1)
(.cond (.t 17)
.skip
(.exit 0)))
(.block 1
(.seq
(F [M 18 5,
 J 19 (.len (.t 18)),
 M 7 19] 3)
(.seq
(F [M 20 5,
 M 21 3,
 J 22 (.mkf (.func 63) [(.t 21)] []),
 J 23 (.call (C 60) [(.t 20), (.t 22)]),
 M 5 23] 5)
(F [M 24 5,
 J 25 (.len (.t 24)),
 M 26 7,
 J 27 (.bin .lss (.t 25) (.t 26)),
 M 6 27] 5))))))))
(.seq
(F [M 28 3,
 M 2 28] 2)
.ret))))))
def rv : List RV := [.tmp 2]
theorem enter : En Try.prog 29 29 s rv := En.mk (c := Try.f29.body.getD .ret) Try.func29 rfl (by kernel_rfl) (by kernel_rfl) (by kernel_rfl) (by kernel_rfl)
end tree_New
namespace shape_Shape_none
abbrev f : Nat := 30
def s : SCo := (.seq
(F [J 2 (.mv (B false))] 1)
(.seq
(F [M 3 0,
 J 4 (.eqnil false 0 (.t 3)),
 M 5 4,
 G 6 0 5 false,
 H 7 (.nilc (.t 6)) 5 false,
 H 8 (.fld 1 (.t 7)) 5 false,
 H 9 (.load none (.t 8)) 5 false,
 H 10 (.eqnil false 1 (.t 9)) 5 false,
 J 11 (.pick (.t 5) (B true) (.t 10)),
 M 2 11] 10)
.ret))
def rv : List RV := [.tmp 2]
theorem enter : En Try.prog 30 12 s rv := En.mk (c := Try.f30.body.getD .ret) Try.func30 rfl (by kernel_rfl) (by kernel_rfl) (by kernel_rfl) (by kernel_rfl)
end shape_Shape_none
namespace slices_Clone_Lapi_Claim_api_Claim
abbrev f : Nat := 31
def s : SCo := (.seq
(F [J 2 (.mv (.k (.d .nils)))] 1)
(.seq
(.seq
(F [M 3 0,
 J 4 (.eqnil false 3 (.t 3))] 2)
(.cond (.t 4)
(.seq
(F [J 2 (.mv (.k (.d .nils)))] 1)
.ret)
.skip))
(.seq
(F [J 5 (.bsl 52 4 0 [] []),
 M 6 0,
 J 7 (.app 52 4 16 (.t 5) (.t 6)),
 M 2 7] 4)
.ret)))
def rv : List RV := [.tmp 2]
theorem enter : En Try.prog 31 8 s rv := En.mk (c := Try.f31.body.getD .ret) Try.func31 rfl (by kernel_rfl) (by kernel_rfl) (by kernel_rfl) (by kernel_rfl)
end slices_Clone_Lapi_Claim_api_Claim
namespace tree_Tree_none
abbrev f : Nat := 32
def s : SCo := (.seq
(F [J 2 (.mv (B false))] 1)
(.seq
(F [M 3 0,
 J 4 (.eqnil false 0 (.t 3)),
 M 5 4,
 G 6 0 5 false,
 H 7 (.nilc (.t 6)) 5 false,
 H 8 (.fld 0 (.t 7)) 5 false,
 H 9 (.load none (.t 8)) 5 false,
 H 10 (.eqnil false 1 (.t 9)) 5 false,
 J 11 (.pick (.t 5) (B true) (.t 10)),
 M 2 11] 10)
.ret))
def rv : List RV := [.tmp 2]
theorem enter : En Try.prog 32 12 s rv := En.mk (c := Try.f32.body.getD .ret) Try.func32 rfl (by kernel_rfl) (by kernel_rfl) (by kernel_rfl) (by kernel_rfl)
end tree_Tree_none
namespace tree_Tree_up
abbrev f : Nat := 33
def s : SCo := (.seq
(F [J 2 (.box 27 (.t 0)),
 J 3 (.box 31 (.t 1)),
 J 4 (.mv (.k (.d .nilf)))] 3)
(.seq
(F [J 5 (.mkf (.func 64) [] [(.t 2), (.t 3)]),
 M 4 5] 2)
.ret))
def rv : List RV := [.tmp 4]
theorem enter : En Try.prog 33 6 s rv := En.mk (c := Try.f33.body.getD .ret) Try.func33 rfl (by kernel_rfl) (by kernel_rfl) (by kernel_rfl) (by kernel_rfl)
end tree_Tree_up
namespace dot_Sort
abbrev f : Nat := 34
def s : SCo := (.seq
(F [J 2 (.mv (.k (.d .nils)))] 1)
(.seq
(F [M 3 0,
 J 4 (.call (C 65) [(.t 3)]),
 J 5 (.call (C 66) [(.t 4)]),
 M 2 5] 4)
.ret))
def rv : List RV := [.tmp 2]
theorem enter : En Try.prog 34 6 s rv := En.mk (c := Try.f34.body.getD .ret) Try.func34 rfl (by kernel_rfl) (by kernel_rfl) (by kernel_rfl) (by kernel_rfl)
end dot_Sort
namespace shape_Shape_cred
abbrev f : Nat := 35
def s : SCo := (.seq
(F [J 4 (.box 31 (.t 1)),
 J 5 (.box 37 (.t 2)),
 J 6 (.alloc 42 [b8 0, b32 0, b8 0, b32 0, b8 0, b32 0, b32 0, b8 0, b8 0, b64 0, i6 0]),
 J 7 (.mv (B false))] 4)
(.seq
(.reg [M 11 0,
 J 12 (.nilc (.t 11)),
 J 13 (.fld 0 (.t 12)),
 J 14 (.load none (.t 13)),
 J 15 (.load (some 2) (.t 4)),
 J 16 (.call (C 12) [(.t 14), (.t 15)]),
 M 10 16,
 J 17 (.ext 0 (.t 10)),
 J 18 (.ext 1 (.t 10)),
 J 8 (.alloc 42 [b8 0, b32 0, b8 0, b32 0, b8 0, b32 0, b32 0, b8 0, b8 0, b64 0, i6 0]),
 N (.store 11 (.t 8) (.t 17)),
 M 9 18] [0,
1,
3,
7,
0,
31,
63,
127,
127,
0,
767,
2047] true)
(.seq
(.reg (J 19 (.load (some 11) (.t 8)) ::
 M 20 9 ::
 J 21 (.bin .eql (.t 20) (Z 0)) ::
 M 22 21 ::
 H 23 (.fld 2 (.t 8)) 22 true ::
 H 24 (.load (some 2) (.t 23)) 22 true ::
 H 25 (.fld 12 (.t 5)) 22 true ::
 H 26 (.load (some 2) (.t 25)) 22 true ::
 H 27 (.eqv false [true, true] (.t 24) (.t 26)) 22 true ::
 J 28 (.pick (.t 22) (.t 27) (B false)) ::
 M 29 28 ::
 G 30 0 29 true ::
 H 31 (.load (some 2) (.t 4)) 29 true ::
 H 32 (.load (some 29) (.t 5)) 29 true ::
 H 33 (.call (C 67) [(.t 30), (.t 31), (.t 32)]) 29 true ::
 J 34 (.pick (.t 29) (.t 33) (B false)) ::
 N (.store 11 (.t 6) (.t 19)) ::
 M 7 34 :: []) (0 ::
0 ::
2 ::
6 ::
14 ::
30 ::
14 ::
78 ::
254 ::
510 ::
1022 ::
2046 ::
2046 ::
2046 ::
16382 ::
32766 ::
32767 ::
131071 :: []) true)
.ret)))
def rv : List RV := [.cell 6 (some 11), .tmp 7]
theorem enter : En Try.prog 35 35 s rv := En.mk (c := Try.f35.body.getD .ret) Try.func35 rfl (by kernel_rfl) (by kernel_rfl) (by kernel_rfl) (by kernel_rfl)
end shape_Shape_cred
namespace shape_Shape_Why_1
abbrev f : Nat := 36
def s : SCo := (.seq
(F [J 1 (.mv (B false))] 1)
(.seq
(F [J 2 (.fld 14 (.t 0)),
 J 3 (.load none (.t 2)),
 J 4 (.bin .gtr (.t 3) (.k (b8 8))),
 M 1 4] 4)
.ret))
def rv : List RV := [.tmp 1]
theorem enter : En Try.prog 36 5 s rv := En.mk (c := Try.f36.body.getD .ret) Try.func36 rfl (by kernel_rfl) (by kernel_rfl) (by kernel_rfl) (by kernel_rfl)
end shape_Shape_Why_1
namespace shape_Shape_Why_2
abbrev f : Nat := 37
def s : SCo := (.seq
(F [J 2 (.mv (B false))] 1)
(.seq
(F [J 3 (.load none (.t 0)),
 J 4 (.load (some 29) (.t 1)),
 J 5 (.call (C 38) [(.t 3), (.t 4)]),
 J 6 (.not (.t 5)),
 M 2 6] 5)
.ret))
def rv : List RV := [.tmp 2]
theorem enter : En Try.prog 37 7 s rv := En.mk (c := Try.f37.body.getD .ret) Try.func37 rfl (by kernel_rfl) (by kernel_rfl) (by kernel_rfl) (by kernel_rfl)
end shape_Shape_Why_2
namespace shape_Shape_cart
abbrev f : Nat := 38
def s : SCo := (.seq
(F [J 3 (.box 37 (.t 1)),
 J 4 (.mv (B false))] 2)
(.seq
(.reg [M 8 0,
 J 9 (.nilc (.t 8)),
 J 10 (.fld 1 (.t 9)),
 J 11 (.load none (.t 10)),
 J 12 (.fld 12 (.t 3)),
 J 13 (.load (some 2) (.t 12)),
 J 14 (.look [true, true] true (.agg z29) (.t 11) (.t 13) true),
 M 7 14,
 J 15 (.ext 0 (.t 7)),
 J 16 (.ext 1 (.t 7)),
 J 5 (.alloc 37 z29),
 N (.store 29 (.t 5) (.t 15)),
 M 6 16] [0,
1,
3,
7,
0,
16,
63,
127,
255,
255,
0,
1535,
4095] true)
(.seq
(.seq
(F [J 17 (.fld 14 (.t 3)),
 J 18 (.load none (.t 17)),
 J 19 (.bin .eql (.t 18) (.k (b8 0)))] 3)
(.cond (.t 19)
(.seq
(F [J 20 (.fld 12 (.t 3)),
 J 21 (.load (some 2) (.t 20)),
 J 22 (.fld 0 (.t 3)),
 J 23 (.load (some 2) (.t 22)),
 J 24 (.eqv false [true, true] (.t 21) (.t 23)),
 M 4 24] 6)
.ret)
.skip))
(.seq
(F (M 25 6 ::
 M 26 25 ::
 H 27 (.fld 14 (.t 5)) 26 true ::
 H 28 (.load none (.t 27)) 26 true ::
 H 29 (.bin .eql (.t 28) (.k (b8 0))) 26 true ::
 J 30 (.pick (.t 26) (.t 29) (B false)) ::
 M 31 30 ::
 H 32 (.fld 12 (.t 5)) 31 true ::
 H 33 (.load (some 2) (.t 32)) 31 true ::
 H 34 (.fld 0 (.t 5)) 31 true ::
 H 35 (.load (some 2) (.t 34)) 31 true ::
 H 36 (.eqv false [true, true] (.t 33) (.t 35)) 31 true ::
 J 37 (.pick (.t 31) (.t 36) (B false)) ::
 M 38 37 ::
 H 39 (.load (some 29) (.t 5)) 38 true ::
 H 40 (.load (some 29) (.t 3)) 38 true ::
 H 41 (.call (C 68) [(.t 39), (.t 40)]) 38 true ::
 J 42 (.pick (.t 38) (.t 41) (B false)) ::
 M 4 42 :: []) 19)
.ret))))
def rv : List RV := [.tmp 4]
theorem enter : En Try.prog 38 43 s rv := En.mk (c := Try.f38.body.getD .ret) Try.func38 rfl (by kernel_rfl) (by kernel_rfl) (by kernel_rfl) (by kernel_rfl)
end shape_Shape_cart
namespace shape_Shape_Why_3
abbrev f : Nat := 39
def s : SCo := (.seq
(F [J 2 (.mv (B false))] 1)
(.seq
(F [J 3 (.load none (.t 0)),
 J 4 (.not (.t 3)),
 M 5 4,
 H 6 (.load none (.t 1)) 5 true,
 H 7 (.not (.t 6)) 5 true,
 J 8 (.pick (.t 5) (.t 7) (B false)),
 M 2 8] 7)
.ret))
def rv : List RV := [.tmp 2]
theorem enter : En Try.prog 39 9 s rv := En.mk (c := Try.f39.body.getD .ret) Try.func39 rfl (by kernel_rfl) (by kernel_rfl) (by kernel_rfl) (by kernel_rfl)
end shape_Shape_Why_3
namespace shape_Shape_Why_4
abbrev f : Nat := 40
def s : SCo := (.seq
(F [J 3 (.mv (B false))] 1)
(.seq
(F [J 4 (.load none (.t 0)),
 J 5 (.not (.t 4)),
 M 6 5,
 H 7 (.fld 6 (.t 1)) 6 true,
 H 8 (.load none (.t 7)) 6 true,
 H 9 (.fld 11 (.t 2)) 6 true,
 H 10 (.load none (.t 9)) 6 true,
 H 11 (.bin .neq (.t 8) (.t 10)) 6 true,
 J 12 (.pick (.t 6) (.t 11) (B false)),
 M 3 12] 10)
.ret))
def rv : List RV := [.tmp 3]
theorem enter : En Try.prog 40 13 s rv := En.mk (c := Try.f40.body.getD .ret) Try.func40 rfl (by kernel_rfl) (by kernel_rfl) (by kernel_rfl) (by kernel_rfl)
end shape_Shape_Why_4
namespace shape_Shape_Why_5
abbrev f : Nat := 41
def s : SCo := (.seq
(F [J 2 (.mv (B false))] 1)
(.seq
(.reg [J 3 (.fld 7 (.t 0)),
 J 4 (.load none (.t 3)),
 J 5 (.fld 14 (.t 1)),
 J 6 (.load none (.t 5)),
 J 7 (.call (C 28) [(.t 6)]),
 J 8 (.bin .and (.t 4) (.t 7)),
 J 9 (.fld 14 (.t 1)),
 J 10 (.load none (.t 9)),
 J 11 (.call (C 28) [(.t 10)]),
 J 12 (.bin .neq (.t 8) (.t 11)),
 M 2 12] [0,
1,
0,
4,
12,
31,
0,
64,
220,
511,
1023] true)
.ret))
def rv : List RV := [.tmp 2]
theorem enter : En Try.prog 41 13 s rv := En.mk (c := Try.f41.body.getD .ret) Try.func41 rfl (by kernel_rfl) (by kernel_rfl) (by kernel_rfl) (by kernel_rfl)
end shape_Shape_Why_5
namespace shape_Shape_Why_6
abbrev f : Nat := 42
def s : SCo := (.seq
(F [J 2 (.mv (B false))] 1)
(.seq
(.reg [J 3 (.fld 14 (.t 0)),
 J 4 (.load none (.t 3)),
 J 5 (.bin .eql (.t 4) (.k (b8 1))),
 M 6 5,
 H 7 (.load none (.t 1)) 6 true,
 H 8 (.nilc (.t 7)) 6 true,
 H 9 (.fld 0 (.t 8)) 6 true,
 H 10 (.load none (.t 9)) 6 true,
 H 11 (.load (some 29) (.t 0)) 6 true,
 H 12 (.call (C 43) [(.t 10), (.t 11)]) 6 true,
 H 13 (.bin .neq (.t 12) (Z 0)) 6 true,
 J 14 (.pick (.t 6) (.t 13) (B false)),
 M 2 14] [0,
1,
3,
7,
15,
31,
63,
127,
15,
511,
1023,
2047,
4095] true)
.ret))
def rv : List RV := [.tmp 2]
theorem enter : En Try.prog 42 15 s rv := En.mk (c := Try.f42.body.getD .ret) Try.func42 rfl (by kernel_rfl) (by kernel_rfl) (by kernel_rfl) (by kernel_rfl)
end shape_Shape_Why_6
namespace tree_Tree_Why
abbrev f : Nat := 43
def s : SCo := (.seq
(F [J 2 (.box 27 (.t 0)),
 J 3 (.box 37 (.t 1)),
 J 4 (.mv (Z 0))] 3)
(.seq
(.seq
(F [J 9 (.load none (.t 2)),
 J 10 (.call (C 32) [(.t 9)])] 2)
(.cond (.t 10)
(.seq
(F [J 4 (.mv (Z 1))] 1)
.ret)
.skip))
(.seq
(.reg [J 12 (.load none (.t 2)),
 J 13 (.nilc (.t 12)),
 J 14 (.fld 0 (.t 13)),
 J 15 (.load none (.t 14)),
 J 16 (.fld 15 (.t 3)),
 J 17 (.load (some 2) (.t 16)),
 J 18 (.look [true, true] true (.agg [b8 0, b32 0, b8 0, b32 0, b8 0, b32 0, b32 0, b8 0, b8 0, b64 0, i6 0]) (.t 15) (.t 17) true),
 M 11 18,
 J 19 (.ext 0 (.t 11)),
 J 20 (.ext 1 (.t 11)),
 J 5 (.alloc 42 [b8 0, b32 0, b8 0, b32 0, b8 0, b32 0, b32 0, b8 0, b8 0, b64 0, i6 0]),
 J 6 (.alloc 4 [(.d (.bool false))]),
 N (.store 11 (.t 5) (.t 19)),
 N (.store 1 (.t 6) (.t 20))] [0,
1,
3,
7,
0,
16,
63,
127,
255,
255,
0,
0,
3583,
8191] true)
(.seq
(.seq
(F [J 21 (.mkf (.func 69) [] [(.t 3)]),
 J 22 (.bld [i6 0, (.d .nilf)] [(0, 1, (Z 2)), (1, 1, (.t 21))]),
 J 23 (.mkf (.func 70) [] [(.t 6), (.t 5), (.t 3), (.t 2)]),
 J 24 (.bld [i6 0, (.d .nilf)] [(0, 1, (Z 272)), (1, 1, (.t 23))]),
 J 25 (.mkf (.func 71) [] [(.t 5), (.t 3)]),
 J 26 (.bld [i6 0, (.d .nilf)] [(0, 1, (Z 273)), (1, 1, (.t 25))]),
 J 27 (.mkf (.func 72) [] [(.t 5)]),
 J 28 (.bld [i6 0, (.d .nilf)] [(0, 1, (Z 274)), (1, 1, (.t 27))]),
 J 29 (.mkf (.func 73) [] [(.t 3), (.t 5)]),
 J 30 (.bld [i6 0, (.d .nilf)] [(0, 1, (Z 275)), (1, 1, (.t 29))]),
 J 31 (.bld [i6 0, (.d .nilf), i6 0, (.d .nilf), i6 0, (.d .nilf), i6 0, (.d .nilf), i6 0, (.d .nilf)] [(0, 2, (.t 22)), (2, 2, (.t 24)), (4, 2, (.t 26)), (6, 2, (.t 28)), (8, 2, (.t 30))]),
 J 32 (.mv (Z 0))] 12)
(.block 0
(.loop
(.seq
(F [J 33 (.bin .lss (.t 32) (Z 5))] 1)
(.seq
(.cond (.t 33)
.skip
(.exit 0))
(.seq
(.block 1
(.seq
(F [J 34 (.index 5 2 true (.t 31) (.t 32)),
 J 8 (.alloc 113 [i6 0, (.d .nilf)]),
 N (.store 2 (.t 8) (.t 34))] 3)
(.seq
(F [J 35 (.fld 1 (.t 8)),
 J 36 (.load none (.t 35)),
 J 37 (.call (.t 36) [])] 3)
(.cond (.t 37)
(.seq
(F [J 38 (.fld 0 (.t 8)),
 J 39 (.load none (.t 38)),
 M 4 39] 3)
.ret)
.skip))))
(F [J 40 (.bin .add (.t 32) (Z 1)),
 M 32 40] 2)))))))
(.seq
(F [J 4 (.mv (Z 0))] 1)
.ret)))))
def rv : List RV := [.tmp 4]
theorem enter : En Try.prog 43 41 s rv := En.mk (c := Try.f43.body.getD .ret) Try.func43 rfl (by kernel_rfl) (by kernel_rfl) (by kernel_rfl) (by kernel_rfl)
end tree_Tree_Why
namespace shape_Shape_Why_7
abbrev f : Nat := 44
def s : SCo := (.seq
(F [J 2 (.mv (B false))] 1)
(.seq
(F [J 3 (.load none (.t 0)),
 J 4 (.load (some 29) (.t 1)),
 J 5 (.call (C 45) [(.t 3), (.t 4)]),
 J 6 (.not (.t 5)),
 M 2 6] 5)
.ret))
def rv : List RV := [.tmp 2]
theorem enter : En Try.prog 44 7 s rv := En.mk (c := Try.f44.body.getD .ret) Try.func44 rfl (by kernel_rfl) (by kernel_rfl) (by kernel_rfl) (by kernel_rfl)
end shape_Shape_Why_7
namespace shape_Shape_target
abbrev f : Nat := 45
def s : SCo := (.seq
(F [J 2 (.box 25 (.t 0)),
 J 3 (.box 37 (.t 1)),
 J 4 (.mv (B false))] 3)
(.seq
(.seq
(F [J 7 (.fld 14 (.t 3)),
 J 8 (.load none (.t 7))] 2)
(.block 0
(.seq
(F [J 10 (.bin .eql (.t 8) (.k (b8 2))),
 M 9 10] 2)
(.cond (.t 9)
(.seq
(F [J 12 (.load none (.t 2)),
 J 13 (.fld 21 (.t 3)),
 J 14 (.load (some 2) (.t 13)),
 J 15 (.load (some 29) (.t 3)),
 J 16 (.call (C 35) [(.t 12), (.t 14), (.t 15)]),
 M 11 16,
 J 17 (.ext 0 (.t 11)),
 J 18 (.ext 1 (.t 11)),
 J 5 (.alloc 42 [b8 0, b32 0, b8 0, b32 0, b8 0, b32 0, b32 0, b8 0, b8 0, b64 0, i6 0]),
 N (.store 11 (.t 5) (.t 17)),
 M 6 18] 11)
(.seq
(.reg [M 19 6,
 M 20 19,
 H 21 (.load none (.t 2)) 20 true,
 H 22 (.nilc (.t 21)) 20 true,
 H 23 (.fld 0 (.t 22)) 20 true,
 H 24 (.load none (.t 23)) 20 true,
 H 25 (.fld 15 (.t 3)) 20 true,
 H 26 (.load (some 2) (.t 25)) 20 true,
 H 27 (.fld 21 (.t 3)) 20 true,
 H 28 (.load (some 2) (.t 27)) 20 true,
 H 29 (.call (C 14) [(.t 24), (.t 26), (.t 28)]) 20 true,
 J 30 (.pick (.t 20) (.t 29) (B false)),
 M 4 30] [0,
1,
3,
7,
15,
31,
3,
67,
3,
259,
1023,
2047,
4095] true)
.ret))
(.seq
(.seq
(F [J 32 (.bin .eql (.t 8) (.k (b8 4))),
 M 31 32] 2)
(.cond (.t 31)
.skip
(F [J 33 (.bin .eql (.t 8) (.k (b8 5))),
 M 31 33] 2)))
(.cond (.t 31)
(.seq
(F [J 34 (.load none (.t 2)),
 J 35 (.fld 21 (.t 3)),
 J 36 (.load (some 2) (.t 35)),
 J 37 (.load (some 29) (.t 3)),
 J 38 (.call (C 74) [(.t 34), (.t 36), (.t 37)]),
 M 4 38] 6)
.ret)
(.seq
(.seq
(F [J 40 (.bin .eql (.t 8) (.k (b8 6))),
 M 39 40] 2)
(.cond (.t 39)
.skip
(F [J 41 (.bin .eql (.t 8) (.k (b8 7))),
 M 39 41] 2)))
(.cond (.t 39)
(.seq
(F [J 42 (.load none (.t 2)),
 J 43 (.fld 21 (.t 3)),
 J 44 (.load (some 2) (.t 43)),
 J 45 (.fld 23 (.t 3)),
 J 46 (.load (some 2) (.t 45)),
 J 47 (.bld [b8 0, b32 0, b8 0, b32 0] [(0, 2, (.t 44)), (2, 2, (.t 46))]),
 J 48 (.load (some 29) (.t 3)),
 J 49 (.call (C 75) [(.t 42), (.t 47), (.t 48)]),
 M 4 49] 9)
.ret)
(.seq
(F [J 51 (.bin .eql (.t 8) (.k (b8 8))),
 M 50 51] 2)
(.cond (.t 50)
(.seq
(F [J 52 (.fld 28 (.t 3)),
 J 53 (.load none (.t 52)),
 J 54 (.mkf (.func 77) [] [(.t 2), (.t 3)]),
 J 55 (.call (C 76) [(.t 53), (.t 54)]),
 J 56 (.not (.t 55)),
 M 4 56] 6)
.ret)
.skip))))))))))
(.seq
(F [J 4 (.mv (B true))] 1)
.ret)))
def rv : List RV := [.tmp 4]
theorem enter : En Try.prog 45 57 s rv := En.mk (c := Try.f45.body.getD .ret) Try.func45 rfl (by kernel_rfl) (by kernel_rfl) (by kernel_rfl) (by kernel_rfl)
end shape_Shape_target
namespace slices_SortedFunc_api_Dot
abbrev f : Nat := 46
def s : SCo := (.seq
(F [J 4 (.mv (.k (.d .nils)))] 1)
(.seq
(F [M 6 0,
 J 7 (.call (C 78) [(.t 6)]),
 M 5 7] 3)
(.seq
(F [M 8 5,
 M 9 1,
 J 10 (.call (C 79) [(.t 8), (.t 9)])] 3)
(.seq
(F [M 11 5,
 M 4 11] 2)
.ret))))
def rv : List RV := [.tmp 4]
theorem enter : En Try.prog 46 12 s rv := En.mk (c := Try.f46.body.getD .ret) Try.func46 rfl (by kernel_rfl) (by kernel_rfl) (by kernel_rfl) (by kernel_rfl)
end slices_SortedFunc_api_Dot
namespace maps_Keys_map_api_Dot_api_Op_api_Dot_api_Op
end maps_Keys_map_api_Dot_api_Op_api_Dot_api_Op
namespace dot_Compare
abbrev f : Nat := 48
def s : SCo := (.seq
(F [J 2 (.box 31 (.t 0)),
 J 3 (.box 31 (.t 1)),
 J 4 (.mv (Z 0))] 3)
(.seq
(.reg [J 5 (.fld 0 (.t 2)),
 J 6 (.load none (.t 5)),
 J 7 (.fld 0 (.t 3)),
 J 8 (.load none (.t 7)),
 J 9 (.call (C 82) [(.t 6), (.t 8)]),
 J 10 (.fld 1 (.t 2)),
 J 11 (.load none (.t 10)),
 J 12 (.fld 1 (.t 3)),
 J 13 (.load none (.t 12)),
 J 14 (.call (C 83) [(.t 11), (.t 13)]),
 J 15 (.bsl 3 1 2 [i6 0, i6 0] [(0, 1, (.t 9)), (1, 1, (.t 14))]),
 J 16 (.call (C 81) [(.t 15)]),
 M 4 16] [0,
1,
0,
4,
15,
0,
32,
0,
128,
511,
1023,
2047,
4095] true)
.ret))
def rv : List RV := [.tmp 4]
theorem enter : En Try.prog 48 17 s rv := En.mk (c := Try.f48.body.getD .ret) Try.func48 rfl (by kernel_rfl) (by kernel_rfl) (by kernel_rfl) (by kernel_rfl)
end dot_Compare
namespace revoke_Index_none
end revoke_Index_none
namespace revoke_sorted_api_Dot
end revoke_sorted_api_Dot
namespace revoke_Index_threats
end revoke_Index_threats
namespace revoke_Index_Threats_1
end revoke_Index_Threats_1
namespace revoke_Index_Threatened_1
end revoke_Index_Threatened_1
namespace revoke_sorted_api_Op
end revoke_sorted_api_Op
namespace revoke_Index_Threatened_2
end revoke_Index_Threatened_2
namespace revoke_New
end revoke_New
namespace law18_row
end law18_row
namespace ref03_Same
end ref03_Same
namespace slices_DeleteFunc_Lapi_Op_api_Op
abbrev f : Nat := 60
def s : SCo := (.seq
(F [J 4 (.mv (.k (.d .nils)))] 1)
(.seq
(F [M 8 0,
 M 9 1,
 J 10 (.call (C 86) [(.t 8), (.t 9)]),
 M 5 10] 4)
(.seq
(.seq
(F [M 11 5,
 J 12 (.bin .eql (.t 11) (.k (.d (.int .i64 (-1)))))] 2)
(.cond (.t 12)
(.seq
(F [M 13 0,
 M 4 13] 2)
.ret)
.skip))
(.seq
(.seq
(F [M 14 5,
 J 15 (.bin .add (.t 14) (Z 1)),
 M 6 15] 3)
(.block 0
(.loop
(.seq
(.seq
(F [M 16 6,
 M 17 0,
 J 18 (.len (.t 17)),
 J 19 (.bin .lss (.t 16) (.t 18))] 4)
(.cond (.t 19)
.skip
(.exit 0)))
(.seq
(.block 1
(.seq
(F [M 22 0,
 M 23 6,
 J 24 (.idxS 29 (.t 22) (.t 23)),
 J 25 (.load (some 29) (.t 24)),
 J 7 (.alloc 37 z29),
 N (.store 29 (.t 7) (.t 25))] 6)
(.seq
(F [M 26 1,
 J 27 (.load (some 29) (.t 7)),
 J 28 (.call (.t 26) [(.t 27)]),
 J 29 (.not (.t 28))] 4)
(.cond (.t 29)
(.seq
(F [M 30 0,
 M 31 5,
 J 32 (.load (some 29) (.t 7)),
 J 33 (.idxS 29 (.t 30) (.t 31)),
 N (.store 29 (.t 33) (.t 32))] 5)
(F [M 34 5,
 J 35 (.bin .add (.t 34) (Z 1)),
 M 5 35] 3))
.skip))))
(F [M 20 6,
 J 21 (.bin .add (.t 20) (Z 1)),
 M 6 21] 3))))))
(.seq
(F [M 36 0,
 M 37 5,
 J 38 (.slc 29 (.t 36) (some (.t 37)) none),
 N (.clr 29 z29 (.t 38))] 4)
(.seq
(F [M 39 0,
 M 40 5,
 J 41 (.slc 29 (.t 39) none (some (.t 40))),
 M 4 41] 4)
.ret))))))
def rv : List RV := [.tmp 4]
theorem enter : En Try.prog 60 42 s rv := En.mk (c := Try.f60.body.getD .ret) Try.func60 rfl (by kernel_rfl) (by kernel_rfl) (by kernel_rfl) (by kernel_rfl)
end slices_DeleteFunc_Lapi_Op_api_Op
namespace slices_Clone_Lapi_Op_api_Op
abbrev f : Nat := 61
def s : SCo := (.seq
(F [J 2 (.mv (.k (.d .nils)))] 1)
(.seq
(.seq
(F [M 3 0,
 J 4 (.eqnil false 3 (.t 3))] 2)
(.cond (.t 4)
(.seq
(F [J 2 (.mv (.k (.d .nils)))] 1)
.ret)
.skip))
(.seq
(F [J 5 (.bsl 37 29 0 [] []),
 M 6 0,
 J 7 (.app 37 29 144 (.t 5) (.t 6)),
 M 2 7] 4)
.ret)))
def rv : List RV := [.tmp 2]
theorem enter : En Try.prog 61 8 s rv := En.mk (c := Try.f61.body.getD .ret) Try.func61 rfl (by kernel_rfl) (by kernel_rfl) (by kernel_rfl) (by kernel_rfl)
end slices_Clone_Lapi_Op_api_Op
namespace tree_New_1
abbrev f : Nat := 62
def s : SCo := (.seq
(F [J 2 (.box 37 (.t 0)),
 J 3 (.mv (B false))] 2)
(.seq
(.reg [J 4 (.load none (.t 1)),
 J 5 (.fld 0 (.t 2)),
 J 6 (.load (some 2) (.t 5)),
 J 7 (.look [true, true] true (i6 0) (.t 4) (.t 6) false),
 J 8 (.bin .add (.t 7) (Z 1)),
 J 9 (.mentr [true, true] true (i6 0) (.t 4) (.t 6)),
 J 10 (.ext 1 (.t 9)),
 N (.mstor (.t 4) (.t 10) (.t 8))] [0,
0,
2,
7,
15,
7,
39,
127] true)
(.seq
(F [J 11 (.load none (.t 1)),
 J 12 (.fld 0 (.t 2)),
 J 13 (.load (some 2) (.t 12)),
 J 14 (.look [true, true] true (i6 0) (.t 11) (.t 13) false),
 J 15 (.bin .gtr (.t 14) (Z 1)),
 M 16 15,
 H 17 (.fld 14 (.t 2)) 16 false,
 H 18 (.load none (.t 17)) 16 false,
 H 19 (.bin .gtr (.t 18) (.k (b8 1))) 16 false,
 J 20 (.pick (.t 16) (B true) (.t 19)),
 M 3 20] 11)
.ret)))
def rv : List RV := [.tmp 3]
theorem enter : En Try.prog 62 21 s rv := En.mk (c := Try.f62.body.getD .ret) Try.func62 rfl (by kernel_rfl) (by kernel_rfl) (by kernel_rfl) (by kernel_rfl)
end tree_New_1
namespace tree_Tree_put
abbrev f : Nat := 63
def s : SCo := (.seq
(F [J 3 (.box 37 (.t 1)),
 J 4 (.mv (B false))] 2)
(.seq
(F [J 6 (.fld 0 (.t 3)),
 J 7 (.load (some 2) (.t 6)),
 J 8 (.fld 0 (.t 3)),
 J 9 (.load (some 2) (.t 8)),
 J 10 (.fld 11 (.t 3)),
 J 11 (.load none (.t 10)),
 J 12 (.bld [b8 0, b32 0, b8 0, b32 0, b8 0, b32 0, b32 0, b8 0, b8 0, b64 0, i6 0] [(0, 2, (.t 7)), (2, 2, (.t 9)), (6, 1, (.t 11)), (7, 1, (.k (b8 7))), (8, 1, (.k (b8 8))), (9, 1, (.k (b64 1099511627776)))]),
 J 5 (.alloc 42 [b8 0, b32 0, b8 0, b32 0, b8 0, b32 0, b32 0, b8 0, b8 0, b64 0, i6 0]),
 N (.store 11 (.t 5) (.t 12))] 9)
(.seq
(.block 0
(.seq
(F (J 14 (.fld 14 (.t 3)) ::
 J 15 (.load none (.t 14)) ::
 J 16 (.bin .eql (.t 15) (.k (b8 0))) ::
 M 17 16 ::
 H 18 (.fld 12 (.t 3)) 17 true ::
 H 19 (.load (some 2) (.t 18)) 17 true ::
 H 20 (.fld 0 (.t 3)) 17 true ::
 H 21 (.load (some 2) (.t 20)) 17 true ::
 H 22 (.eqv true [true, true] (.t 19) (.t 21)) 17 true ::
 J 23 (.pick (.t 17) (.t 22) (B false)) ::
 M 24 23 ::
 H 25 (.fld 14 (.t 3)) 24 false ::
 H 26 (.load none (.t 25)) 24 false ::
 H 27 (.bin .eql (.t 26) (.k (b8 1))) 24 false ::
 G 28 27 24 false ::
 G 29 0 28 true ::
 H 30 (.load (some 29) (.t 3)) 28 true ::
 H 31 (.call (C 43) [(.t 29), (.t 30)]) 28 true ::
 H 32 (.bin .neq (.t 31) (Z 0)) 28 true ::
 H 33 (.pick (.t 28) (.t 32) (B false)) 24 false ::
 J 34 (.pick (.t 24) (B true) (.t 33)) ::
 M 13 34 :: []) 22)
(.cond (.t 13)
(.seq
(F [J 4 (.mv (B false))] 1)
.ret)
(.seq
(F [J 36 (.fld 14 (.t 3)),
 J 37 (.load none (.t 36)),
 J 38 (.bin .eql (.t 37) (.k (b8 1))),
 M 35 38] 4)
(.cond (.t 35)
(.reg (J 39 (.fld 0 (.t 3)) ::
 J 40 (.load (some 2) (.t 39)) ::
 J 41 (.fld 12 (.t 3)) ::
 J 42 (.load (some 2) (.t 41)) ::
 J 43 (.fld 15 (.t 3)) ::
 J 44 (.load (some 2) (.t 43)) ::
 J 45 (.fld 17 (.t 3)) ::
 J 46 (.load none (.t 45)) ::
 J 47 (.fld 18 (.t 3)) ::
 J 48 (.load none (.t 47)) ::
 J 49 (.fld 19 (.t 3)) ::
 J 50 (.load none (.t 49)) ::
 J 51 (.fld 20 (.t 3)) ::
 J 52 (.load none (.t 51)) ::
 M 53 0 ::
 J 54 (.nilc (.t 53)) ::
 J 55 (.fld 0 (.t 54)) ::
 J 56 (.load none (.t 55)) ::
 J 57 (.fld 15 (.t 3)) ::
 J 58 (.load (some 2) (.t 57)) ::
 J 59 (.look [true, true] true (.agg [b8 0, b32 0, b8 0, b32 0, b8 0, b32 0, b32 0, b8 0, b8 0, b64 0, i6 0]) (.t 56) (.t 58) false) ::
 J 60 (.field 10 none (.t 59)) ::
 J 61 (.bin .add (.t 60) (Z 1)) ::
 J 62 (.bld [b8 0, b32 0, b8 0, b32 0, b8 0, b32 0, b32 0, b8 0, b8 0, b64 0, i6 0] [(0, 2, (.t 40)), (2, 2, (.t 42)), (4, 2, (.t 44)), (6, 1, (.t 46)), (7, 1, (.t 48)), (8, 1, (.t 50)), (9, 1, (.t 52)), (10, 1, (.t 61))]) ::
 N (.store 11 (.t 5) (.t 62)) :: []) (0 ::
1 ::
0 ::
4 ::
0 ::
16 ::
0 ::
64 ::
0 ::
256 ::
0 ::
1024 ::
0 ::
4096 ::
0 ::
16384 ::
49152 ::
114688 ::
0 ::
262144 ::
1032192 ::
2080768 ::
4177920 ::
8388607 ::
16777215 :: []) true)
.skip)))))
(.seq
(.reg (M 63 0 ::
 J 64 (.nilc (.t 63)) ::
 J 65 (.fld 0 (.t 64)) ::
 J 66 (.load none (.t 65)) ::
 J 67 (.fld 0 (.t 3)) ::
 J 68 (.load (some 2) (.t 67)) ::
 M 69 0 ::
 J 70 (.nilc (.t 69)) ::
 J 71 (.fld 1 (.t 70)) ::
 J 72 (.load none (.t 71)) ::
 J 73 (.fld 0 (.t 3)) ::
 J 74 (.load (some 2) (.t 73)) ::
 J 75 (.load (some 11) (.t 5)) ::
 J 76 (.load (some 29) (.t 3)) ::
 J 77 (.mentr [true, true] true (.agg [b8 0, b32 0, b8 0, b32 0, b8 0, b32 0, b32 0, b8 0, b8 0, b64 0, i6 0]) (.t 66) (.t 68)) ::
 J 78 (.ext 1 (.t 77)) ::
 N (.mstor (.t 66) (.t 78) (.t 75)) ::
 J 79 (.mentr [true, true] true (.agg z29) (.t 72) (.t 74)) ::
 J 80 (.ext 1 (.t 79)) ::
 N (.mstor (.t 72) (.t 80) (.t 76)) :: []) (0 ::
1 ::
3 ::
7 ::
0 ::
16 ::
0 ::
64 ::
192 ::
448 ::
0 ::
1024 ::
0 ::
0 ::
1023 ::
17407 ::
54271 ::
122879 ::
253951 ::
524287 :: []) true)
(.seq
(F [J 4 (.mv (B true))] 1)
.ret)))))
def rv : List RV := [.tmp 4]
theorem enter : En Try.prog 63 81 s rv := En.mk (c := Try.f63.body.getD .ret) Try.func63 rfl (by kernel_rfl) (by kernel_rfl) (by kernel_rfl) (by kernel_rfl)
end tree_Tree_put
namespace tree_Tree_up_1
abbrev f : Nat := 64
def s : SCo := (.seq
(.reg [J 7 (.load none (.t 1)),
 J 8 (.nilc (.t 7)),
 J 9 (.fld 0 (.t 8)),
 J 10 (.load none (.t 9)),
 J 11 (.load (some 2) (.t 2)),
 J 12 (.look [true, true] true (.agg [b8 0, b32 0, b8 0, b32 0, b8 0, b32 0, b32 0, b8 0, b8 0, b64 0, i6 0]) (.t 10) (.t 11) true),
 M 6 12,
 J 13 (.ext 0 (.t 6)),
 J 14 (.ext 1 (.t 6)),
 J 4 (.alloc 42 [b8 0, b32 0, b8 0, b32 0, b8 0, b32 0, b32 0, b8 0, b8 0, b64 0, i6 0]),
 N (.store 11 (.t 4) (.t 13)),
 M 5 14] [0,
1,
3,
7,
0,
31,
63,
127,
127,
0,
767,
2047] true)
(.block 0
(.loop
(.seq
(.seq
(F [M 15 5,
 M 16 15,
 G 17 0 16 true,
 H 18 (.load (some 11) (.t 4)) 16 true,
 H 19 (.call (.t 17) [(.t 18)]) 16 true,
 J 20 (.pick (.t 16) (.t 19) (B false)),
 M 21 20,
 H 22 (.fld 10 (.t 4)) 21 true,
 H 23 (.load none (.t 22)) 21 true,
 H 24 (.bin .gtr (.t 23) (Z 0)) 21 true,
 J 25 (.pick (.t 21) (.t 24) (B false))] 11)
(.cond (.t 25)
.skip
(.exit 0)))
(.seq
(.block 1
(.reg [J 27 (.load none (.t 1)),
 J 28 (.nilc (.t 27)),
 J 29 (.fld 0 (.t 28)),
 J 30 (.load none (.t 29)),
 J 31 (.fld 4 (.t 4)),
 J 32 (.load (some 2) (.t 31)),
 J 33 (.look [true, true] true (.agg [b8 0, b32 0, b8 0, b32 0, b8 0, b32 0, b32 0, b8 0, b8 0, b64 0, i6 0]) (.t 30) (.t 32) true),
 M 26 33,
 J 34 (.ext 0 (.t 26)),
 J 35 (.ext 1 (.t 26)),
 N (.store 11 (.t 4) (.t 34)),
 M 5 35] [0,
1,
3,
7,
0,
16,
63,
127,
255,
255,
511,
2047] true))
(.seq
(F [J 36 (.load (some 11) (.t 4))] 1)
(F [J 4 (.alloc 42 [b8 0, b32 0, b8 0, b32 0, b8 0, b32 0, b32 0, b8 0, b8 0, b64 0, i6 0]),
 N (.store 11 (.t 4) (.t 36))] 2)))))))
def rv : List RV := []
theorem enter : En Try.prog 64 37 s rv := En.mk (c := Try.f64.body.getD .ret) Try.func64 rfl (by kernel_rfl) (by kernel_rfl) (by kernel_rfl) (by kernel_rfl)
end tree_Tree_up_1
namespace dot_setOf
abbrev f : Nat := 65
def s : SCo := (.seq
(F [J 2 (.mv (.k (.d .nilm)))] 1)
(.seq
(F [J 6 (.mkm),
 M 3 6] 2)
(.seq
(.seq
(F [M 7 0,
 J 8 (.len (.t 7)),
 J 9 (.mv (Z 0))] 3)
(.block 0
(.loop
(.seq
(F [J 10 (.bin .lss (.t 9) (.t 8))] 1)
(.seq
(.cond (.t 10)
.skip
(.exit 0))
(.seq
(.block 1
(.seq
(F [J 11 (.idxS 2 (.t 7) (.t 9)),
 J 12 (.load (some 2) (.t 11)),
 J 5 (.alloc 31 [b8 0, b32 0]),
 N (.store 2 (.t 5) (.t 12))] 4)
(F [M 13 3,
 J 14 (.load (some 2) (.t 5)),
 N (.mset [true, true] true (.t 13) (.t 14) (Z 1))] 3)))
(F [J 15 (.bin .add (.t 9) (Z 1)),
 M 9 15] 2)))))))
(.seq
(F [M 16 3,
 M 2 16] 2)
.ret))))
def rv : List RV := [.tmp 2]
theorem enter : En Try.prog 65 17 s rv := En.mk (c := Try.f65.body.getD .ret) Try.func65 rfl (by kernel_rfl) (by kernel_rfl) (by kernel_rfl) (by kernel_rfl)
end dot_setOf
namespace dot_set_list
abbrev f : Nat := 66
def s : SCo := (.seq
(F [J 2 (.mv (.k (.d .nils)))] 1)
(.seq
(F [M 3 0,
 J 4 (.call (C 87) [(.t 3)]),
 J 5 (.call (C 46) [(.t 4), (C 48)]),
 M 2 5] 4)
.ret))
def rv : List RV := [.tmp 2]
theorem enter : En Try.prog 66 6 s rv := En.mk (c := Try.f66.body.getD .ret) Try.func66 rfl (by kernel_rfl) (by kernel_rfl) (by kernel_rfl) (by kernel_rfl)
end dot_set_list
namespace shape_Shape_before
abbrev f : Nat := 67
def s : SCo := (.seq
(F [J 4 (.box 31 (.t 1)),
 J 5 (.box 37 (.t 2)),
 J 6 (.mv (B false))] 3)
(.seq
(.reg [M 10 0,
 J 11 (.nilc (.t 10)),
 J 12 (.fld 1 (.t 11)),
 J 13 (.load none (.t 12)),
 J 14 (.load (some 2) (.t 4)),
 J 15 (.look [true, true] true (.agg z29) (.t 13) (.t 14) true),
 M 9 15,
 J 16 (.ext 0 (.t 9)),
 J 17 (.ext 1 (.t 9)),
 J 7 (.alloc 37 z29),
 N (.store 29 (.t 7) (.t 16)),
 M 8 17] [0,
1,
3,
7,
0,
31,
63,
127,
127,
0,
767,
2047] true)
(.seq
(F [M 18 8,
 M 19 18,
 H 20 (.load (some 29) (.t 7)) 19 true,
 H 21 (.load (some 29) (.t 5)) 19 true,
 H 22 (.call (C 68) [(.t 20), (.t 21)]) 19 true,
 J 23 (.pick (.t 19) (.t 22) (B false)),
 M 6 23] 7)
.ret)))
def rv : List RV := [.tmp 6]
theorem enter : En Try.prog 67 24 s rv := En.mk (c := Try.f67.body.getD .ret) Try.func67 rfl (by kernel_rfl) (by kernel_rfl) (by kernel_rfl) (by kernel_rfl)
end shape_Shape_before
namespace order_Before
abbrev f : Nat := 68
def s : SCo := (.seq
(F [J 2 (.box 37 (.t 0)),
 J 3 (.box 37 (.t 1)),
 J 4 (.mv (B false))] 3)
(.seq
(F [J 5 (.fld 2 (.t 3)),
 J 6 (.load (some 8) (.t 5)),
 J 7 (.fld 0 (.t 2)),
 J 8 (.load (some 2) (.t 7)),
 J 9 (.call (C 88) [(.t 6), (.t 8)]),
 M 4 9] 6)
.ret))
def rv : List RV := [.tmp 4]
theorem enter : En Try.prog 68 10 s rv := En.mk (c := Try.f68.body.getD .ret) Try.func68 rfl (by kernel_rfl) (by kernel_rfl) (by kernel_rfl) (by kernel_rfl)
end order_Before
namespace tree_Tree_Why_1
abbrev f : Nat := 69
def s : SCo := (.seq
(F [J 1 (.mv (B false))] 1)
(.seq
(F [J 2 (.fld 14 (.t 0)),
 J 3 (.load none (.t 2)),
 J 4 (.bin .neq (.t 3) (.k (b8 1))),
 M 1 4] 4)
.ret))
def rv : List RV := [.tmp 1]
theorem enter : En Try.prog 69 5 s rv := En.mk (c := Try.f69.body.getD .ret) Try.func69 rfl (by kernel_rfl) (by kernel_rfl) (by kernel_rfl) (by kernel_rfl)
end tree_Tree_Why_1
namespace tree_Tree_Why_2
abbrev f : Nat := 70
def s : SCo := (.seq
(F [J 4 (.mv (B false))] 1)
(.seq
(.reg (J 5 (.load none (.t 0)) ::
 J 6 (.not (.t 5)) ::
 M 7 6 ::
 H 8 (.fld 2 (.t 1)) 7 false ::
 H 9 (.load (some 2) (.t 8)) 7 false ::
 H 10 (.fld 12 (.t 2)) 7 false ::
 H 11 (.load (some 2) (.t 10)) 7 false ::
 H 12 (.eqv true [true, true] (.t 9) (.t 11)) 7 false ::
 J 13 (.pick (.t 7) (B true) (.t 12)) ::
 M 14 13 ::
 H 15 (.load none (.t 3)) 14 false ::
 H 16 (.nilc (.t 15)) 14 false ::
 H 17 (.fld 1 (.t 16)) 14 false ::
 H 18 (.load none (.t 17)) 14 false ::
 H 19 (.fld 15 (.t 2)) 14 false ::
 H 20 (.load (some 2) (.t 19)) 14 false ::
 H 21 (.look [true, true] true (.agg z29) (.t 18) (.t 20) false) 14 false ::
 H 22 (.load (some 29) (.t 2)) 14 false ::
 H 23 (.call (C 68) [(.t 21), (.t 22)]) 14 false ::
 H 24 (.not (.t 23)) 14 false ::
 J 25 (.pick (.t 14) (B true) (.t 24)) ::
 M 4 25 :: []) (0 ::
1 ::
3 ::
7 ::
15 ::
7 ::
39 ::
127 ::
255 ::
511 ::
1023 ::
2047 ::
4095 ::
8191 ::
1023 ::
17407 ::
65535 ::
1023 ::
262143 ::
524287 ::
1048575 ::
2097151 :: []) true)
.ret))
def rv : List RV := [.tmp 4]
theorem enter : En Try.prog 70 26 s rv := En.mk (c := Try.f70.body.getD .ret) Try.func70 rfl (by kernel_rfl) (by kernel_rfl) (by kernel_rfl) (by kernel_rfl)
end tree_Tree_Why_2
namespace tree_Tree_Why_3
abbrev f : Nat := 71
def s : SCo := (.seq
(F [J 2 (.mv (B false))] 1)
(.seq
(F [J 3 (.fld 6 (.t 0)),
 J 4 (.load none (.t 3)),
 J 5 (.fld 11 (.t 1)),
 J 6 (.load none (.t 5)),
 J 7 (.bin .neq (.t 4) (.t 6)),
 M 2 7] 6)
.ret))
def rv : List RV := [.tmp 2]
theorem enter : En Try.prog 71 8 s rv := En.mk (c := Try.f71.body.getD .ret) Try.func71 rfl (by kernel_rfl) (by kernel_rfl) (by kernel_rfl) (by kernel_rfl)
end tree_Tree_Why_3
namespace tree_Tree_Why_4
abbrev f : Nat := 72
def s : SCo := (.seq
(F [J 1 (.mv (B false))] 1)
(.seq
(F [J 2 (.fld 7 (.t 0)),
 J 3 (.load none (.t 2)),
 J 4 (.bin .and (.t 3) (.k (b8 1))),
 J 5 (.bin .eql (.t 4) (.k (b8 0))),
 M 1 5] 5)
.ret))
def rv : List RV := [.tmp 1]
theorem enter : En Try.prog 72 6 s rv := En.mk (c := Try.f72.body.getD .ret) Try.func72 rfl (by kernel_rfl) (by kernel_rfl) (by kernel_rfl) (by kernel_rfl)
end tree_Tree_Why_4
namespace tree_Tree_Why_5
abbrev f : Nat := 73
def s : SCo := (.seq
(F [J 2 (.mv (B false))] 1)
(.seq
(F (J 3 (.fld 18 (.t 0)) ::
 J 4 (.load none (.t 3)) ::
 J 5 (.bin .eql (.t 4) (.k (b8 0))) ::
 M 6 5 ::
 H 7 (.fld 18 (.t 0)) 6 false ::
 H 8 (.load none (.t 7)) 6 false ::
 H 9 (.fld 7 (.t 1)) 6 false ::
 H 10 (.load none (.t 9)) 6 false ::
 H 11 (.bin .andNot (.t 8) (.t 10)) 6 false ::
 H 12 (.bin .neq (.t 11) (.k (b8 0))) 6 false ::
 J 13 (.pick (.t 6) (B true) (.t 12)) ::
 M 14 13 ::
 H 15 (.fld 17 (.t 0)) 14 false ::
 H 16 (.load none (.t 15)) 14 false ::
 H 17 (.bin .eql (.t 16) (.k (b32 0))) 14 false ::
 J 18 (.pick (.t 14) (B true) (.t 17)) ::
 M 19 18 ::
 H 20 (.fld 19 (.t 0)) 19 false ::
 H 21 (.load none (.t 20)) 19 false ::
 H 22 (.fld 8 (.t 1)) 19 false ::
 H 23 (.load none (.t 22)) 19 false ::
 H 24 (.bin .geq (.t 21) (.t 23)) 19 false ::
 J 25 (.pick (.t 19) (B true) (.t 24)) ::
 M 26 25 ::
 H 27 (.fld 20 (.t 0)) 26 false ::
 H 28 (.load none (.t 27)) 26 false ::
 H 29 (.fld 9 (.t 1)) 26 false ::
 H 30 (.load none (.t 29)) 26 false ::
 H 31 (.bin .gtr (.t 28) (.t 30)) 26 false ::
 J 32 (.pick (.t 26) (B true) (.t 31)) ::
 M 2 32 :: []) 31)
.ret))
def rv : List RV := [.tmp 2]
theorem enter : En Try.prog 73 33 s rv := En.mk (c := Try.f73.body.getD .ret) Try.func73 rfl (by kernel_rfl) (by kernel_rfl) (by kernel_rfl) (by kernel_rfl)
end tree_Tree_Why_5
namespace shape_Shape_line
abbrev f : Nat := 74
def s : SCo := (.seq
(F [J 4 (.box 31 (.t 1)),
 J 5 (.box 37 (.t 2)),
 J 6 (.mv (B false))] 3)
(.seq
(.reg (M 7 0 ::
 J 8 (.nilc (.t 7)) ::
 J 9 (.fld 2 (.t 8)) ::
 J 10 (.load none (.t 9)) ::
 J 11 (.load (some 2) (.t 4)) ::
 J 12 (.look [true, true] true (i6 0) (.t 10) (.t 11) false) ::
 J 13 (.bin .gtr (.t 12) (Z 0)) ::
 M 14 13 ::
 G 15 0 14 true ::
 H 16 (.nilc (.t 15)) 14 true ::
 H 17 (.fld 1 (.t 16)) 14 true ::
 H 18 (.load none (.t 17)) 14 true ::
 H 19 (.load (some 2) (.t 4)) 14 true ::
 H 20 (.look [true, true] true (.agg z29) (.t 18) (.t 19) false) 14 true ::
 H 21 (.field 12 (some 2) (.t 20)) 14 true ::
 H 22 (.fld 12 (.t 5)) 14 true ::
 H 23 (.load (some 2) (.t 22)) 14 true ::
 H 24 (.eqv false [true, true] (.t 21) (.t 23)) 14 true ::
 J 25 (.pick (.t 14) (.t 24) (B false)) ::
 M 26 25 ::
 G 27 0 26 true ::
 H 28 (.load (some 2) (.t 4)) 26 true ::
 H 29 (.load (some 29) (.t 5)) 26 true ::
 H 30 (.call (C 67) [(.t 27), (.t 28), (.t 29)]) 26 true ::
 J 31 (.pick (.t 26) (.t 30) (B false)) ::
 M 6 31 :: []) (0 ::
1 ::
3 ::
7 ::
0 ::
31 ::
63 ::
127 ::
255 ::
511 ::
1023 ::
2047 ::
255 ::
8191 ::
16383 ::
255 ::
33023 ::
131071 ::
262143 ::
524287 ::
1048575 ::
1048575 ::
1048575 ::
8388607 ::
16777215 ::
33554431 :: []) true)
.ret))
def rv : List RV := [.tmp 6]
theorem enter : En Try.prog 74 32 s rv := En.mk (c := Try.f74.body.getD .ret) Try.func74 rfl (by kernel_rfl) (by kernel_rfl) (by kernel_rfl) (by kernel_rfl)
end shape_Shape_line
namespace shape_Shape_claim
abbrev f : Nat := 75
def s : SCo := (.seq
(F [J 4 (.box 52 (.t 1)),
 J 5 (.box 37 (.t 2)),
 J 6 (.mv (B false))] 3)
(.seq
(.reg [M 10 0,
 J 11 (.nilc (.t 10)),
 J 12 (.fld 3 (.t 11)),
 J 13 (.load none (.t 12)),
 J 14 (.fld 2 (.t 4)),
 J 15 (.load (some 2) (.t 14)),
 J 16 (.look [true, true] true (.agg [b8 0, b32 0]) (.t 13) (.t 15) true),
 M 9 16,
 J 17 (.ext 0 (.t 9)),
 J 18 (.ext 1 (.t 9)),
 J 7 (.alloc 31 [b8 0, b32 0]),
 N (.store 2 (.t 7) (.t 17)),
 M 8 18] [0,
1,
3,
7,
0,
16,
63,
127,
255,
255,
0,
1535,
4095] true)
(.seq
(F (M 19 0 ::
 J 20 (.fld 0 (.t 4)) ::
 J 21 (.load (some 2) (.t 20)) ::
 J 22 (.load (some 29) (.t 5)) ::
 J 23 (.call (C 74) [(.t 19), (.t 21), (.t 22)]) ::
 M 24 23 ::
 H 25 (.fld 2 (.t 4)) 24 true ::
 H 26 (.load (some 2) (.t 25)) 24 true ::
 H 27 (.fld 0 (.t 4)) 24 true ::
 H 28 (.load (some 2) (.t 27)) 24 true ::
 H 29 (.eqv false [true, true] (.t 26) (.t 28)) 24 true ::
 G 30 29 24 true ::
 G 31 8 30 false ::
 G 32 31 30 false ::
 H 33 (.load (some 2) (.t 7)) 32 true ::
 H 34 (.fld 0 (.t 4)) 32 true ::
 H 35 (.load (some 2) (.t 34)) 32 true ::
 H 36 (.eqv false [true, true] (.t 33) (.t 35)) 32 true ::
 H 37 (.pick (.t 32) (.t 36) (B false)) 30 false ::
 G 38 37 30 false ::
 G 39 0 38 true ::
 H 40 (.fld 2 (.t 4)) 38 true ::
 H 41 (.load (some 2) (.t 40)) 38 true ::
 H 42 (.load (some 29) (.t 5)) 38 true ::
 H 43 (.call (C 67) [(.t 39), (.t 41), (.t 42)]) 38 true ::
 H 44 (.pick (.t 38) (.t 43) (B false)) 30 false ::
 H 45 (.pick (.t 30) (B true) (.t 44)) 24 true ::
 J 46 (.pick (.t 24) (.t 45) (B false)) ::
 M 6 46 :: []) 29)
.ret)))
def rv : List RV := [.tmp 6]
theorem enter : En Try.prog 75 47 s rv := En.mk (c := Try.f75.body.getD .ret) Try.func75 rfl (by kernel_rfl) (by kernel_rfl) (by kernel_rfl) (by kernel_rfl)
end shape_Shape_claim
namespace slices_ContainsFunc_Lapi_Claim_api_Claim
abbrev f : Nat := 76
def s : SCo := (.seq
(F [J 4 (.mv (B false))] 1)
(.seq
(F [M 5 0,
 M 6 1,
 J 7 (.call (C 89) [(.t 5), (.t 6)]),
 J 8 (.bin .geq (.t 7) (Z 0)),
 M 4 8] 5)
.ret))
def rv : List RV := [.tmp 4]
theorem enter : En Try.prog 76 9 s rv := En.mk (c := Try.f76.body.getD .ret) Try.func76 rfl (by kernel_rfl) (by kernel_rfl) (by kernel_rfl) (by kernel_rfl)
end slices_ContainsFunc_Lapi_Claim_api_Claim
namespace shape_Shape_target_1
abbrev f : Nat := 77
def s : SCo := (.seq
(F [J 3 (.box 52 (.t 0)),
 J 4 (.mv (B false))] 2)
(.seq
(F [J 5 (.load none (.t 1)),
 J 6 (.load (some 4) (.t 3)),
 J 7 (.load (some 29) (.t 2)),
 J 8 (.call (C 75) [(.t 5), (.t 6), (.t 7)]),
 J 9 (.not (.t 8)),
 M 4 9] 6)
.ret))
def rv : List RV := [.tmp 4]
theorem enter : En Try.prog 77 10 s rv := En.mk (c := Try.f77.body.getD .ret) Try.func77 rfl (by kernel_rfl) (by kernel_rfl) (by kernel_rfl) (by kernel_rfl)
end shape_Shape_target_1
namespace slices_Collect_api_Dot
abbrev f : Nat := 78
def s : SCo := (.seq
(F [J 2 (.mv (.k (.d .nils)))] 1)
(.seq
(F [M 3 0,
 J 4 (.call (C 90) [(.k (.d .nils)), (.t 3)]),
 M 2 4] 3)
.ret))
def rv : List RV := [.tmp 2]
theorem enter : En Try.prog 78 5 s rv := En.mk (c := Try.f78.body.getD .ret) Try.func78 rfl (by kernel_rfl) (by kernel_rfl) (by kernel_rfl) (by kernel_rfl)
end slices_Collect_api_Dot
namespace slices_SortFunc_Lapi_Dot_api_Dot
abbrev f : Nat := 79
end slices_SortFunc_Lapi_Dot_api_Dot
namespace maps_Keys_map_api_Dot_api_Op_api_Dot_api_Op_1
end maps_Keys_map_api_Dot_api_Op_api_Dot_api_Op_1
namespace cmp_Or_int
abbrev f : Nat := 81
def s : SCo := (.seq
(F [J 2 (.mv (Z 0))] 1)
(.seq
(F [J 3 (.mv (Z 0))] 1)
(.seq
(.seq
(F [M 6 0,
 J 7 (.len (.t 6)),
 J 8 (.mv (Z 0))] 3)
(.block 0
(.loop
(.seq
(F [J 9 (.bin .lss (.t 8) (.t 7))] 1)
(.seq
(.cond (.t 9)
.skip
(.exit 0))
(.seq
(.block 1
(.seq
(F [J 10 (.idxS 1 (.t 6) (.t 8)),
 J 11 (.load none (.t 10)),
 M 5 11] 3)
(.seq
(F [M 12 5,
 M 13 3,
 J 14 (.bin .neq (.t 12) (.t 13))] 3)
(.cond (.t 14)
(.seq
(F [M 15 5,
 M 2 15] 2)
.ret)
.skip))))
(F [J 16 (.bin .add (.t 8) (Z 1)),
 M 8 16] 2)))))))
(.seq
(F [M 17 3,
 M 2 17] 2)
.ret))))
def rv : List RV := [.tmp 2]
theorem enter : En Try.prog 81 18 s rv := En.mk (c := Try.f81.body.getD .ret) Try.func81 rfl (by kernel_rfl) (by kernel_rfl) (by kernel_rfl) (by kernel_rfl)
end cmp_Or_int
namespace cmp_Compare_uint8
abbrev f : Nat := 82
def s : SCo := (.seq
(F [J 4 (.mv (Z 0))] 1)
(.seq
(F [M 7 0,
 J 8 (.call (C 93) [(.t 7)]),
 M 5 8] 3)
(.seq
(F [M 9 1,
 J 10 (.call (C 93) [(.t 9)]),
 M 6 10] 3)
(.seq
(.seq
(F [M 11 5] 1)
(.cond (.t 11)
(.seq
(.seq
(F [M 12 6] 1)
(.cond (.t 12)
(.seq
(F [J 4 (.mv (Z 0))] 1)
.ret)
.skip))
(.seq
(F [J 4 (.mv (.k (.d (.int .i64 (-1)))))] 1)
.ret))
.skip))
(.seq
(.seq
(F [M 13 6] 1)
(.cond (.t 13)
(.seq
(F [J 4 (.mv (Z 1))] 1)
.ret)
.skip))
(.seq
(.seq
(F [M 14 0,
 M 15 1,
 J 16 (.bin .lss (.t 14) (.t 15))] 3)
(.cond (.t 16)
(.seq
(F [J 4 (.mv (.k (.d (.int .i64 (-1)))))] 1)
.ret)
.skip))
(.seq
(.seq
(F [M 17 0,
 M 18 1,
 J 19 (.bin .gtr (.t 17) (.t 18))] 3)
(.cond (.t 19)
(.seq
(F [J 4 (.mv (Z 1))] 1)
.ret)
.skip))
(.seq
(F [J 4 (.mv (Z 0))] 1)
.ret))))))))
def rv : List RV := [.tmp 4]
theorem enter : En Try.prog 82 20 s rv := En.mk (c := Try.f82.body.getD .ret) Try.func82 rfl (by kernel_rfl) (by kernel_rfl) (by kernel_rfl) (by kernel_rfl)
end cmp_Compare_uint8
namespace cmp_Compare_uint32
abbrev f : Nat := 83
def s : SCo := (.seq
(F [J 4 (.mv (Z 0))] 1)
(.seq
(F [M 7 0,
 J 8 (.call (C 94) [(.t 7)]),
 M 5 8] 3)
(.seq
(F [M 9 1,
 J 10 (.call (C 94) [(.t 9)]),
 M 6 10] 3)
(.seq
(.seq
(F [M 11 5] 1)
(.cond (.t 11)
(.seq
(.seq
(F [M 12 6] 1)
(.cond (.t 12)
(.seq
(F [J 4 (.mv (Z 0))] 1)
.ret)
.skip))
(.seq
(F [J 4 (.mv (.k (.d (.int .i64 (-1)))))] 1)
.ret))
.skip))
(.seq
(.seq
(F [M 13 6] 1)
(.cond (.t 13)
(.seq
(F [J 4 (.mv (Z 1))] 1)
.ret)
.skip))
(.seq
(.seq
(F [M 14 0,
 M 15 1,
 J 16 (.bin .lss (.t 14) (.t 15))] 3)
(.cond (.t 16)
(.seq
(F [J 4 (.mv (.k (.d (.int .i64 (-1)))))] 1)
.ret)
.skip))
(.seq
(.seq
(F [M 17 0,
 M 18 1,
 J 19 (.bin .gtr (.t 17) (.t 18))] 3)
(.cond (.t 19)
(.seq
(F [J 4 (.mv (Z 1))] 1)
.ret)
.skip))
(.seq
(F [J 4 (.mv (Z 0))] 1)
.ret))))))))
def rv : List RV := [.tmp 4]
theorem enter : En Try.prog 83 20 s rv := En.mk (c := Try.f83.body.getD .ret) Try.func83 rfl (by kernel_rfl) (by kernel_rfl) (by kernel_rfl) (by kernel_rfl)
end cmp_Compare_uint32
namespace revoke_Index_threats_1
end revoke_Index_threats_1
namespace tree_Tree_Chain
end tree_Tree_Chain
namespace slices_IndexFunc_Lapi_Op_api_Op
abbrev f : Nat := 86
def s : SCo := (.seq
(F [J 4 (.mv (Z 0))] 1)
(.seq
(.seq
(F [M 6 0,
 J 7 (.len (.t 6)),
 J 8 (.mv (Z 0))] 3)
(.block 0
(.loop
(.seq
(F [J 9 (.bin .lss (.t 8) (.t 7))] 1)
(.seq
(.cond (.t 9)
.skip
(.exit 0))
(.seq
(.block 1
(.seq
(F [M 10 8,
 M 5 10] 2)
(.seq
(F [M 11 1,
 M 12 0,
 M 13 5,
 J 14 (.idxS 29 (.t 12) (.t 13)),
 J 15 (.load (some 29) (.t 14)),
 J 16 (.call (.t 11) [(.t 15)])] 6)
(.cond (.t 16)
(.seq
(F [M 17 5,
 M 4 17] 2)
.ret)
.skip))))
(F [J 18 (.bin .add (.t 8) (Z 1)),
 M 8 18] 2)))))))
(.seq
(F [J 4 (.mv (.k (.d (.int .i64 (-1)))))] 1)
.ret)))
def rv : List RV := [.tmp 4]
theorem enter : En Try.prog 86 19 s rv := En.mk (c := Try.f86.body.getD .ret) Try.func86 rfl (by kernel_rfl) (by kernel_rfl) (by kernel_rfl) (by kernel_rfl)
end slices_IndexFunc_Lapi_Op_api_Op
namespace maps_Keys_dot_set_api_Dot_int
abbrev f : Nat := 87
def s : SCo := (.seq
(F [J 1 (.box 108 (.t 0)),
 J 2 (.mv (.k (.d .nilf)))] 2)
(.seq
(F [J 3 (.mkf (.func 95) [] [(.t 1)]),
 M 2 3] 2)
.ret))
def rv : List RV := [.tmp 2]
theorem enter : En Try.prog 87 4 s rv := En.mk (c := Try.f87.body.getD .ret) Try.func87 rfl (by kernel_rfl) (by kernel_rfl) (by kernel_rfl) (by kernel_rfl)
end maps_Keys_dot_set_api_Dot_int
namespace vector_Covers
abbrev f : Nat := 88
def s : SCo := (.seq
(F [J 2 (.box 33 (.t 0)),
 J 3 (.box 31 (.t 1)),
 J 4 (.mv (B false))] 3)
(.seq
(.reg [J 5 (.load (some 2) (.t 3)),
 J 6 (.call (C 96) [(.t 5)]),
 M 7 6,
 H 8 (.fld 0 (.t 3)) 7 true,
 H 9 (.load none (.t 8)) 7 true,
 H 10 (.idxA 8 1 (.t 2) (.t 9)) 7 true,
 H 11 (.load none (.t 10)) 7 true,
 H 12 (.fld 1 (.t 3)) 7 true,
 H 13 (.load none (.t 12)) 7 true,
 H 14 (.bin .geq (.t 11) (.t 13)) 7 true,
 J 15 (.pick (.t 7) (.t 14) (B false)),
 M 4 15] [0,
1,
3,
7,
15,
31,
63,
7,
135,
511,
1023,
2047] true)
.ret))
def rv : List RV := [.tmp 4]
theorem enter : En Try.prog 88 16 s rv := En.mk (c := Try.f88.body.getD .ret) Try.func88 rfl (by kernel_rfl) (by kernel_rfl) (by kernel_rfl) (by kernel_rfl)
end vector_Covers
namespace slices_IndexFunc_Lapi_Claim_api_Claim
abbrev f : Nat := 89
def s : SCo := (.seq
(F [J 4 (.mv (Z 0))] 1)
(.seq
(.seq
(F [M 6 0,
 J 7 (.len (.t 6)),
 J 8 (.mv (Z 0))] 3)
(.block 0
(.loop
(.seq
(F [J 9 (.bin .lss (.t 8) (.t 7))] 1)
(.seq
(.cond (.t 9)
.skip
(.exit 0))
(.seq
(.block 1
(.seq
(F [M 10 8,
 M 5 10] 2)
(.seq
(F [M 11 1,
 M 12 0,
 M 13 5,
 J 14 (.idxS 4 (.t 12) (.t 13)),
 J 15 (.load (some 4) (.t 14)),
 J 16 (.call (.t 11) [(.t 15)])] 6)
(.cond (.t 16)
(.seq
(F [M 17 5,
 M 4 17] 2)
.ret)
.skip))))
(F [J 18 (.bin .add (.t 8) (Z 1)),
 M 8 18] 2)))))))
(.seq
(F [J 4 (.mv (.k (.d (.int .i64 (-1)))))] 1)
.ret)))
def rv : List RV := [.tmp 4]
theorem enter : En Try.prog 89 19 s rv := En.mk (c := Try.f89.body.getD .ret) Try.func89 rfl (by kernel_rfl) (by kernel_rfl) (by kernel_rfl) (by kernel_rfl)
end slices_IndexFunc_Lapi_Claim_api_Claim
namespace slices_AppendSeq_Lapi_Dot_api_Dot
abbrev f : Nat := 90
def s : SCo := (.seq
(F [J 2 (.box 49 (.t 0)),
 J 4 (.mv (.k (.d .nils)))] 2)
(.seq
(.seq
(F [M 6 1] 1)
(.block 0
(.rfun (.t 6) [7]
(F [J 5 (.alloc 31 [b8 0, b32 0]),
 N (.store 2 (.t 5) (.t 7))] 2)
(.block 1
(F [J 8 (.load none (.t 2)),
 J 9 (.load (some 2) (.t 5)),
 J 10 (.bsl 31 2 1 [b8 0, b32 0] [(0, 2, (.t 9))]),
 J 11 (.app 31 2 8 (.t 8) (.t 10)),
 N (.store 1 (.t 2) (.t 11))] 5)))))
(.seq
(F [J 12 (.load none (.t 2)),
 M 4 12] 2)
.ret)))
def rv : List RV := [.tmp 4]
theorem enter : En Try.prog 90 13 s rv := En.mk (c := Try.f90.body.getD .ret) Try.func90 rfl (by kernel_rfl) (by kernel_rfl) (by kernel_rfl) (by kernel_rfl)
end slices_AppendSeq_Lapi_Dot_api_Dot
namespace cmp_isNaN_uint8
abbrev f : Nat := 93
def s : SCo := (.seq
(F [J 2 (.mv (B false))] 1)
(.seq
(F [M 3 0,
 M 4 0,
 J 5 (.bin .neq (.t 3) (.t 4)),
 M 2 5] 4)
.ret))
def rv : List RV := [.tmp 2]
theorem enter : En Try.prog 93 6 s rv := En.mk (c := Try.f93.body.getD .ret) Try.func93 rfl (by kernel_rfl) (by kernel_rfl) (by kernel_rfl) (by kernel_rfl)
end cmp_isNaN_uint8
namespace cmp_isNaN_uint32
abbrev f : Nat := 94
def s : SCo := (.seq
(F [J 2 (.mv (B false))] 1)
(.seq
(F [M 3 0,
 M 4 0,
 J 5 (.bin .neq (.t 3) (.t 4)),
 M 2 5] 4)
.ret))
def rv : List RV := [.tmp 2]
theorem enter : En Try.prog 94 6 s rv := En.mk (c := Try.f94.body.getD .ret) Try.func94 rfl (by kernel_rfl) (by kernel_rfl) (by kernel_rfl) (by kernel_rfl)
end cmp_isNaN_uint32
namespace maps_Keys_dot_set_api_Dot_int_1
abbrev f : Nat := 95
def s : SCo := (.seq
(F [J 4 (.load none (.t 1)),
 J 5 (.mrange (.t 4))] 2)
(.block 0
(.loop
(.seq
(F [J 6 (.mnext (.t 5)),
 J 7 (.ext 0 (.t 6))] 2)
(.seq
(.cond (.t 7)
.skip
(.exit 0))
(.block 1
(.seq
(F [J 8 (.mentry (.t 5)),
 J 9 (.ext 0 (.t 8)),
 J 3 (.alloc 31 [b8 0, b32 0]),
 N (.store 2 (.t 3) (.t 9))] 4)
(.seq
(F [M 10 0,
 J 11 (.load (some 2) (.t 3)),
 J 12 (.call (.t 10) [(.t 11)]),
 J 13 (.not (.t 12))] 4)
(.cond (.t 13)
.ret
.skip)))))))))
def rv : List RV := []
theorem enter : En Try.prog 95 14 s rv := En.mk (c := Try.f95.body.getD .ret) Try.func95 rfl (by kernel_rfl) (by kernel_rfl) (by kernel_rfl) (by kernel_rfl)
end maps_Keys_dot_set_api_Dot_int_1
namespace dot_May
abbrev f : Nat := 96
def s : SCo := (.seq
(F [J 1 (.box 31 (.t 0)),
 J 2 (.mv (B false))] 2)
(.seq
(F [J 3 (.fld 0 (.t 1)),
 J 4 (.load none (.t 3)),
 J 5 (.bin .lss (.t 4) (.k (b8 8))),
 M 6 5,
 H 7 (.fld 1 (.t 1)) 6 true,
 H 8 (.load none (.t 7)) 6 true,
 H 9 (.bin .gtr (.t 8) (.k (b32 0))) 6 true,
 J 10 (.pick (.t 6) (.t 9) (B false)),
 M 2 10] 9)
.ret))
def rv : List RV := [.tmp 2]
theorem enter : En Try.prog 96 11 s rv := En.mk (c := Try.f96.body.getD .ret) Try.func96 rfl (by kernel_rfl) (by kernel_rfl) (by kernel_rfl) (by kernel_rfl)
end dot_May
end Go.Proofs.Ytlgfknfdfnaedaa
