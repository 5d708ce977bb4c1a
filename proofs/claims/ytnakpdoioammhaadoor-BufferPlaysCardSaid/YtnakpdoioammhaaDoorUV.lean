/-
  The code of the functions in the small form, by program (gen.py); each is checked against the translation by the kernel.
-/
import Derived.Test.YtnakpdoioammhaaDoorChecked
import Derived.Test.YtnakpdoioammhaaDoorU7
set_option linter.unusedVariables false
set_option linter.unusedSimpArgs false
set_option linter.unusedSectionVars false
namespace Go.Proofs.YtnakpdoioammhaaDoor
open Go.Sl Go.Sl.Co Go.Proofs
theorem mixed : Tryd.prog.follows .mixedOrders = true := by kernel_rfl
abbrev T_int : Nat := 3
abbrev T_bool : Nat := 4
abbrev T_uint8 : Nat := 5
abbrev T_L_api_Op : Nat := 22
abbrev T_uint32 : Nat := 27
abbrev T_api_Vector : Nat := 29
abbrev T_api_Dot : Nat := 33
abbrev T_L_api_Claim : Nat := 35
abbrev T_api_Op : Nat := 37
abbrev T_L_uint8 : Nat := 46
abbrev T_api_Claim : Nat := 88
abbrev T_func_uint32_uint32_uint32 : Nat := 128
namespace law11_BufferParts
end law11_BufferParts
namespace law11_BufferOrders
end law11_BufferOrders
namespace law11_BufferPlays
abbrev f : Nat := 5
def s : SCo := (.seq
(F [J 6 (.mv (B false))] 1)
(.seq
(F [M 22 0,
 J 23 (.bld z8 []),
 J 24 (.call (C 8) [(.t 22), (.t 23)]),
 M 21 24,
 J 25 (.ext 0 (.t 21)),
 J 26 (.ext 1 (.t 21)),
 M 7 25,
 M 8 26] 8)
(.seq
(F [M 28 0,
 J 29 (.bld z8 []),
 J 30 (.call (C 17) [(.t 28), (.t 29)]),
 M 27 30,
 J 31 (.ext 0 (.t 27)),
 J 32 (.ext 1 (.t 27)),
 J 9 (.alloc 48 [i6 0, b32 0, b32 0, b32 0, b32 0, b32 0, b32 0, b32 0, b32 0, (.d .nils)]),
 N (.store 10 (.t 9) (.t 31)),
 M 10 32] 9)
(.seq
(.seq
(F [M 33 8,
 M 34 10,
 J 35 (.bin .neq (.t 33) (.t 34)),
 M 36 35,
 G 37 7 36 false,
 H 38 (.eqnil false 0 (.t 37)) 36 false,
 G 39 10 36 false,
 H 40 (.bin .neq (.t 39) (Z 0)) 36 false,
 H 41 (.eqb true (.t 38) (.t 40)) 36 false,
 J 42 (.pick (.t 36) (B true) (.t 41))] 10)
(.cond (.t 42)
(.seq
(F [J 6 (.mv (B false))] 1)
.ret)
.skip))
(.seq
(.seq
(F [M 43 10,
 J 44 (.bin .neq (.t 43) (Z 0)),
 M 45 44,
 G 46 1 45 false,
 H 47 (.call (C 9) [(.t 46)]) 45 false,
 J 48 (.pick (.t 45) (B true) (.t 47))] 6)
(.cond (.t 48)
(.seq
(F [J 49 (.call (C 10) []),
 M 6 49] 2)
.ret)
.skip))
(.seq
(F [J 11 (.mv (Z 0))] 1)
(.seq
(.seq
(F [J 12 (.mv (Z 0))] 1)
(.block 0
(.loop
(.seq
(.seq
(F [M 50 12,
 M 51 2,
 J 52 (.len (.t 51)),
 J 53 (.bin .lss (.t 50) (.t 52)),
 M 54 53,
 G 55 12 54 true,
 H 56 (.bin .lss (.t 55) (Z 40)) 54 true,
 J 57 (.pick (.t 54) (.t 56) (B false))] 8)
(.cond (.t 57)
.skip
(.exit 0)))
(.seq
(.block 1
(.seq
(F [M 60 11,
 M 61 2,
 M 62 12,
 J 63 (.idxS 1 (.t 61) (.t 62)),
 J 64 (.load none (.t 63)),
 J 65 (.bin .rem (.t 64) (.k (b8 10))),
 J 66 (.conv .i64 (.t 65)),
 J 67 (.bin .add (.t 60) (.t 66)),
 M 68 1,
 J 69 (.len (.t 68)),
 J 70 (.mn (.t 67) (.t 69)),
 M 13 70] 12)
(.seq
(F [M 71 7,
 J 72 (.call (C 18) [(.t 71)]),
 M 14 72] 3)
(.seq
(F [J 73 (.load (some 10) (.t 9)),
 J 15 (.alloc 48 [i6 0, b32 0, b32 0, b32 0, b32 0, b32 0, b32 0, b32 0, b32 0, (.d .nils)]),
 N (.store 10 (.t 15) (.t 73))] 3)
(.seq
(F [M 75 14,
 M 76 1,
 M 77 11,
 M 78 13,
 J 79 (.slc 29 (.t 76) (some (.t 77)) (some (.t 78))),
 J 80 (.call (C 11) [(.t 75), (.t 79)]),
 M 74 80,
 J 81 (.ext 0 (.t 74)),
 J 82 (.ext 1 (.t 74)),
 M 16 81,
 M 17 82] 11)
(.seq
(.reg [J 84 (.load (some 10) (.t 9)),
 M 85 1,
 M 86 11,
 M 87 13,
 J 88 (.slc 29 (.t 85) (some (.t 86)) (some (.t 87))),
 J 89 (.call (C 19) [(.t 84), (.t 88)]),
 M 83 89,
 J 90 (.ext 0 (.t 83)),
 J 91 (.ext 1 (.t 83)),
 J 92 (.ext 2 (.t 83)),
 J 18 (.alloc 48 [i6 0, b32 0, b32 0, b32 0, b32 0, b32 0, b32 0, b32 0, b32 0, (.d .nils)]),
 N (.store 10 (.t 18) (.t 90)),
 M 19 91,
 M 20 92] [0,
0,
0,
0,
14,
31,
63,
127,
127,
127,
0,
1279,
3583,
8191] true)
(.seq
(.seq
(F (M 93 16 ::
 M 94 19 ::
 J 95 (.call (C 13) [(.t 93), (.t 94)]) ::
 J 96 (.not (.t 95)) ::
 M 97 96 ::
 G 98 17 97 false ::
 G 99 20 97 false ::
 H 100 (.bin .neq (.t 98) (.t 99)) 97 false ::
 J 101 (.pick (.t 97) (B true) (.t 100)) ::
 M 102 101 ::
 G 103 14 102 false ::
 H 104 (.load (some 10) (.t 18)) 102 false ::
 H 105 (.call (C 20) [(.t 103), (.t 104)]) 102 false ::
 H 106 (.not (.t 105)) 102 false ::
 J 107 (.pick (.t 102) (B true) (.t 106)) ::
 M 108 107 ::
 G 109 7 108 false ::
 H 110 (.load (some 10) (.t 15)) 108 false ::
 H 111 (.call (C 20) [(.t 109), (.t 110)]) 108 false ::
 H 112 (.not (.t 111)) 108 false ::
 J 113 (.pick (.t 108) (B true) (.t 112)) :: []) 21)
(.cond (.t 113)
(.seq
(F [J 6 (.mv (B false))] 1)
.ret)
.skip))
(.seq
(F [M 114 14,
 M 7 114] 2)
(.seq
(F [J 115 (.load (some 10) (.t 18)),
 N (.store 10 (.t 9) (.t 115))] 2)
(F [M 116 13,
 M 11 116] 2))))))))))
(F [M 58 12,
 J 59 (.bin .add (.t 58) (Z 1)),
 M 12 59] 3))))))
(.seq
(F [J 117 (.call (C 10) []),
 M 6 117] 2)
.ret))))))))
def rv : List RV := [.tmp 6]
theorem enter : En Tryd.prog 5 118 s rv := En.mk (c := Tryd.f5.body.getD .ret) Tryd.func5 rfl (by kernel_rfl) (by kernel_rfl) (by kernel_rfl) (by kernel_rfl)
end law11_BufferPlays
namespace law11_BufferNone
end law11_BufferNone
namespace law11_BufferWhole
end law11_BufferWhole
namespace buffer_New
abbrev f : Nat := 8
def s : SCo := (.seq
(F [J 3 (.box 29 (.t 1)),
 J 4 (.mv (.k (.d .nilp))),
 J 5 (.mv (Z 0))] 3)
(.seq
(.seq
(F [M 6 0,
 J 7 (.bin .lss (.t 6) (Z 1)),
 M 8 7,
 G 9 0 8 false,
 H 10 (.bin .gtr (.t 9) (Z 8)) 8 false,
 J 11 (.pick (.t 8) (B true) (.t 10)),
 M 12 11,
 G 13 0 12 false,
 H 14 (.slcA 8 1 (.t 3) (some (.t 13)) none) 12 false,
 H 15 (.call (C 23) [(.t 14), (C 24)]) 12 false,
 J 16 (.pick (.t 12) (B true) (.t 15))] 11)
(.cond (.t 16)
(.seq
(F [J 4 (.mv (.k (.d .nilp))),
 J 5 (.mv (Z 2))] 2)
.ret)
.skip))
(.seq
(F [M 17 0,
 J 18 (.load (some 8) (.t 3)),
 J 19 (.mkm),
 J 20 (.bld [i6 0, b32 0, b32 0, b32 0, b32 0, b32 0, b32 0, b32 0, b32 0, (.d .nilm)] [(0, 1, (.t 17)), (1, 8, (.t 18)), (9, 1, (.t 19))]),
 J 21 (.box 58 (.t 20)),
 M 4 21,
 J 5 (.mv (Z 0))] 7)
.ret)))
def rv : List RV := [.tmp 4, .tmp 5]
theorem enter : En Tryd.prog 8 22 s rv := En.mk (c := Tryd.f8.body.getD .ret) Tryd.func8 rfl (by kernel_rfl) (by kernel_rfl) (by kernel_rfl) (by kernel_rfl)
end buffer_New
namespace law11_great
abbrev f : Nat := 9
def s : SCo := (.seq
(F [J 2 (.mv (B false))] 1)
(.seq
(F [M 3 0,
 J 4 (.len (.t 3)),
 J 5 (.bin .gtr (.t 4) (Z 80)),
 M 2 5] 4)
.ret))
def rv : List RV := [.tmp 2]
theorem enter : En Tryd.prog 9 6 s rv := En.mk (c := Tryd.f9.body.getD .ret) Tryd.func9 rfl (by kernel_rfl) (by kernel_rfl) (by kernel_rfl) (by kernel_rfl)
end law11_great
namespace law11_head
abbrev f : Nat := 10
def s : SCo := (.seq
(F [J 0 (.mv (B false))] 1)
(.seq
(F [J 17 (.call (C 25) []),
 M 1 17] 2)
(.seq
(F [J 19 (.bld z8 []),
 J 20 (.call (C 8) [(Z 2), (.t 19)]),
 M 18 20,
 J 21 (.ext 0 (.t 18)),
 J 22 (.ext 1 (.t 18)),
 M 2 21,
 M 3 22] 7)
(.seq
(F [J 24 (.bld z8 []),
 J 25 (.call (C 8) [(Z 9), (.t 24)]),
 M 23 25,
 J 26 (.ext 0 (.t 23)),
 J 27 (.ext 1 (.t 23)),
 M 4 26,
 M 5 27] 7)
(.seq
(F [J 29 (.bld z8 [(0, 1, (.k (b32 0))), (1, 1, (.k (b32 0))), (2, 1, (.k (b32 1)))]),
 J 30 (.call (C 8) [(Z 2), (.t 29)]),
 M 28 30,
 J 31 (.ext 0 (.t 28)),
 J 32 (.ext 1 (.t 28)),
 M 6 31,
 M 7 32] 7)
(.seq
(.seq
(F [M 33 3,
 J 34 (.bin .neq (.t 33) (Z 0)),
 M 35 34,
 G 36 2 35 false,
 H 37 (.eqnil false 0 (.t 36)) 35 false,
 J 38 (.pick (.t 35) (B true) (.t 37))] 6)
(.cond (.t 38)
(.seq
(F [J 0 (.mv (B false))] 1)
.ret)
.skip))
(.seq
(.reg [M 40 2,
 M 41 1,
 J 42 (.idxS 29 (.t 41) (Z 2)),
 J 43 (.load (some 29) (.t 42)),
 M 44 1,
 J 45 (.idxS 29 (.t 44) (Z 1)),
 J 46 (.load (some 29) (.t 45)),
 J 47 (.bsl 37 29 2 [b8 0, b32 0, b32 0, b32 0, b32 0, b32 0, b32 0, b32 0, b32 0, b32 0, b64 0, b32 0, b8 0, b32 0, b8 0, b8 0, b32 0, b32 0, b8 0, b8 0, b64 0, b8 0, b32 0, b8 0, b32 0, b32 0, b32 0, b32 0, (.d .nils), b8 0, b32 0, b32 0, b32 0, b32 0, b32 0, b32 0, b32 0, b32 0, b32 0, b64 0, b32 0, b8 0, b32 0, b8 0, b8 0, b32 0, b32 0, b8 0, b8 0, b64 0, b8 0, b32 0, b8 0, b32 0, b32 0, b32 0, b32 0, (.d .nils)] [(0, 29, (.t 43)), (29, 29, (.t 46))]),
 J 48 (.call (C 11) [(.t 40), (.t 47)]),
 M 39 48,
 J 49 (.ext 0 (.t 39)),
 J 50 (.ext 1 (.t 39)),
 M 8 49,
 M 9 50] [0,
0,
2,
6,
0,
16,
48,
126,
255,
511,
1023,
1023,
2047,
8191] true)
(.seq
(F [M 51 2,
 J 52 (.call (C 14) [(.t 51)]),
 M 10 52] 3)
(.seq
(F [M 54 2,
 M 55 1,
 J 56 (.idxS 29 (.t 55) (Z 0)),
 J 57 (.load (some 29) (.t 56)),
 J 58 (.bsl 37 29 1 z29 [(0, 29, (.t 57))]),
 J 59 (.call (C 11) [(.t 54), (.t 58)]),
 M 53 59,
 J 60 (.ext 0 (.t 53)),
 J 61 (.ext 1 (.t 53)),
 M 11 60,
 M 12 61] 11)
(.seq
(.reg (M 63 2 ::
 M 64 1 ::
 J 65 (.idxS 29 (.t 64) (Z 1)) ::
 J 66 (.load (some 29) (.t 65)) ::
 M 67 1 ::
 J 68 (.idxS 29 (.t 67) (Z 2)) ::
 J 69 (.load (some 29) (.t 68)) ::
 M 70 1 ::
 J 71 (.idxS 29 (.t 70) (Z 0)) ::
 J 72 (.load (some 29) (.t 71)) ::
 J 73 (.bsl 37 29 3 [b8 0, b32 0, b32 0, b32 0, b32 0, b32 0, b32 0, b32 0, b32 0, b32 0, b64 0, b32 0, b8 0, b32 0, b8 0, b8 0, b32 0, b32 0, b8 0, b8 0, b64 0, b8 0, b32 0, b8 0, b32 0, b32 0, b32 0, b32 0, (.d .nils), b8 0, b32 0, b32 0, b32 0, b32 0, b32 0, b32 0, b32 0, b32 0, b32 0, b64 0, b32 0, b8 0, b32 0, b8 0, b8 0, b32 0, b32 0, b8 0, b8 0, b64 0, b8 0, b32 0, b8 0, b32 0, b32 0, b32 0, b32 0, (.d .nils), b8 0, b32 0, b32 0, b32 0, b32 0, b32 0, b32 0, b32 0, b32 0, b32 0, b64 0, b32 0, b8 0, b32 0, b8 0, b8 0, b32 0, b32 0, b8 0, b8 0, b64 0, b8 0, b32 0, b8 0, b32 0, b32 0, b32 0, b32 0, (.d .nils)] [(0, 29, (.t 66)), (29, 29, (.t 69)), (58, 29, (.t 72))]) ::
 J 74 (.call (C 11) [(.t 63), (.t 73)]) ::
 M 62 74 ::
 J 75 (.ext 0 (.t 62)) ::
 J 76 (.ext 1 (.t 62)) ::
 M 13 75 ::
 M 14 76 :: []) (0 ::
0 ::
2 ::
6 ::
0 ::
16 ::
48 ::
0 ::
128 ::
384 ::
1022 ::
2047 ::
4095 ::
8191 ::
8191 ::
16383 ::
65535 :: []) true)
(.seq
(F [M 78 2,
 J 79 (.bld z29 []),
 J 80 (.bsl 37 29 1 z29 [(0, 29, (.t 79))]),
 J 81 (.call (C 11) [(.t 78), (.t 80)]),
 M 77 81,
 J 82 (.ext 0 (.t 77)),
 J 83 (.ext 1 (.t 77)),
 M 15 82,
 M 16 83] 9)
(.seq
(F (M 84 5 ::
 J 85 (.bin .eql (.t 84) (Z 2)) ::
 M 86 85 ::
 G 87 7 86 true ::
 H 88 (.bin .eql (.t 87) (Z 2)) 86 true ::
 J 89 (.pick (.t 86) (.t 88) (B false)) ::
 M 90 89 ::
 G 91 8 90 true ::
 H 92 (.len (.t 91)) 90 true ::
 H 93 (.bin .eql (.t 92) (Z 0)) 90 true ::
 J 94 (.pick (.t 90) (.t 93) (B false)) ::
 M 95 94 ::
 G 96 10 95 true ::
 G 97 1 95 true ::
 H 98 (.slc 29 (.t 97) (some (Z 1)) none) 95 true ::
 H 99 (.call (C 13) [(.t 96), (.t 98)]) 95 true ::
 J 100 (.pick (.t 95) (.t 99) (B false)) ::
 M 101 100 ::
 G 102 11 101 true ::
 G 103 1 101 true ::
 H 104 (.call (C 13) [(.t 102), (.t 103)]) 101 true ::
 J 105 (.pick (.t 101) (.t 104) (B false)) ::
 M 106 105 ::
 G 107 2 106 true ::
 H 108 (.call (C 12) [(.t 107)]) 106 true ::
 H 109 (.bld z8 [(0, 1, (.k (b32 2))), (1, 1, (.k (b32 1)))]) 106 true ::
 H 110 (.eqv false [true, true, true, true, true, true, true, true] (.t 108) (.t 109)) 106 true ::
 J 111 (.pick (.t 106) (.t 110) (B false)) ::
 M 112 111 ::
 G 113 2 112 true ::
 H 114 (.call (C 14) [(.t 113)]) 112 true ::
 H 115 (.len (.t 114)) 112 true ::
 H 116 (.bin .eql (.t 115) (Z 0)) 112 true ::
 J 117 (.pick (.t 112) (.t 116) (B false)) ::
 M 118 117 ::
 G 119 13 118 true ::
 H 120 (.len (.t 119)) 118 true ::
 H 121 (.bin .eql (.t 120) (Z 0)) 118 true ::
 J 122 (.pick (.t 118) (.t 121) (B false)) ::
 M 123 122 ::
 G 124 14 123 true ::
 H 125 (.bin .eql (.t 124) (Z 0)) 123 true ::
 J 126 (.pick (.t 123) (.t 125) (B false)) ::
 M 127 126 ::
 G 128 16 127 true ::
 H 129 (.bin .eql (.t 128) (Z 5)) 127 true ::
 J 130 (.pick (.t 127) (.t 129) (B false)) ::
 M 0 130 :: []) 48)
.ret))))))))))))
def rv : List RV := [.tmp 0]
theorem enter : En Tryd.prog 10 131 s rv := En.mk (c := Tryd.f10.body.getD .ret) Tryd.func10 rfl (by kernel_rfl) (by kernel_rfl) (by kernel_rfl) (by kernel_rfl)
end law11_head
namespace buffer_Buffer_Put
abbrev f : Nat := 11
def s : SCo := (.seq
(F [J 2 (.box 23 (.t 0)),
 J 4 (.mv (.k (.d .nils))),
 J 5 (.mv (Z 0))] 3)
(.seq
(.block 0
(.seq
(F [J 15 (.load none (.t 2)),
 J 16 (.call (C 26) [(.t 15)]),
 M 14 16] 3)
(.cond (.t 14)
(.seq
(F [J 4 (.mv (.k (.d .nils))),
 J 5 (.mv (Z 1))] 2)
.ret)
(.seq
(F [M 18 1,
 J 19 (.mkf (.func 28) [] [(.t 2)]),
 J 20 (.call (C 27) [(.t 18), (.t 19)]),
 M 17 20] 4)
(.cond (.t 17)
(.seq
(F [J 4 (.mv (.k (.d .nils))),
 J 5 (.mv (Z 5))] 2)
.ret)
.skip)))))
(.seq
(.seq
(F [M 21 1,
 J 22 (.len (.t 21)),
 J 23 (.mv (Z 0))] 3)
(.block 1
(.loop
(.seq
(F [J 24 (.bin .lss (.t 23) (.t 22))] 1)
(.seq
(.cond (.t 24)
.skip
(.exit 1))
(.seq
(.block 2
(.seq
(F [J 25 (.idxS 29 (.t 21) (.t 23)),
 J 26 (.load (some 29) (.t 25)),
 J 7 (.alloc 37 z29),
 N (.store 29 (.t 7) (.t 26))] 4)
(.seq
(.reg [J 28 (.load none (.t 2)),
 J 29 (.nilc (.t 28)),
 J 30 (.fld 9 (.t 29)),
 J 31 (.load none (.t 30)),
 J 32 (.fld 0 (.t 7)),
 J 33 (.load (some 2) (.t 32)),
 J 34 (.look [true, true] true (.agg z29) (.t 31) (.t 33) true),
 M 27 34,
 J 35 (.ext 0 (.t 27)),
 J 36 (.ext 1 (.t 27)),
 J 8 (.alloc 37 z29),
 N (.store 29 (.t 8) (.t 35)),
 M 9 36] [0,
1,
3,
7,
0,
16,
63,
127,
255,
255,
0,
1535,
4095] true)
(.seq
(.reg [M 37 9,
 J 38 (.not (.t 37)),
 M 39 38,
 H 40 (.load none (.t 2)) 39 true,
 H 41 (.nilc (.t 40)) 39 true,
 H 42 (.fld 1 (.t 41)) 39 true,
 H 43 (.load (some 8) (.t 42)) 39 true,
 H 44 (.fld 0 (.t 7)) 39 true,
 H 45 (.load (some 2) (.t 44)) 39 true,
 H 46 (.call (C 30) [(.t 43), (.t 45)]) 39 true,
 H 47 (.not (.t 46)) 39 true,
 J 48 (.pick (.t 39) (.t 47) (B false))] [0,
1,
3,
7,
15,
31,
63,
7,
135,
511,
1023,
2047] true)
(.cond (.t 48)
(.reg [J 49 (.load none (.t 2)),
 J 50 (.nilc (.t 49)),
 J 51 (.fld 9 (.t 50)),
 J 52 (.load none (.t 51)),
 J 53 (.fld 0 (.t 7)),
 J 54 (.load (some 2) (.t 53)),
 J 55 (.load (some 29) (.t 7)),
 J 56 (.call (C 31) [(.t 55)]),
 N (.mset [true, true] true (.t 52) (.t 54) (.t 56))] [0,
1,
3,
7,
0,
16,
0,
64,
255] true)
.skip)))))
(F [J 57 (.bin .add (.t 23) (Z 1)),
 M 23 57] 2)))))))
(.seq
(F [J 58 (.mkf (.func 32) [] [(.t 2)]),
 M 10 58] 2)
(.seq
(F [J 11 (.mv (.k (.d .nils)))] 1)
(.seq
(.seq
(F [M 60 10,
 J 61 (.call (.t 60) []),
 M 59 61,
 J 62 (.ext 0 (.t 59)),
 J 63 (.ext 1 (.t 59)),
 J 12 (.alloc 37 z29),
 N (.store 29 (.t 12) (.t 62)),
 M 13 63] 8)
(.block 3
(.loop
(.seq
(.seq
(F [M 64 13] 1)
(.cond (.t 64)
.skip
(.exit 3)))
(.seq
(.block 4
(.seq
(.reg [J 70 (.load none (.t 2)),
 J 71 (.nilc (.t 70)),
 J 72 (.fld 9 (.t 71)),
 J 73 (.load none (.t 72)),
 J 74 (.fld 0 (.t 12)),
 J 75 (.load (some 2) (.t 74)),
 N (.mdel [true, true] true (.t 73) (.t 75))] [0,
1,
3,
7,
0,
16,
63] true)
(.seq
(.reg [J 76 (.load none (.t 2)),
 J 77 (.fld 0 (.t 12)),
 J 78 (.fld 0 (.t 77)),
 J 79 (.load none (.t 78)),
 J 80 (.fld 0 (.t 12)),
 J 81 (.fld 1 (.t 80)),
 J 82 (.load none (.t 81)),
 J 83 (.nilc (.t 76)),
 J 84 (.fld 1 (.t 83)),
 J 85 (.idxA 8 1 (.t 84) (.t 79)),
 N (.store 1 (.t 85) (.t 82))] [0,
0,
2,
6,
0,
16,
48,
1,
129,
511,
1023] true)
(F [M 86 11,
 J 87 (.load (some 29) (.t 12)),
 J 88 (.bsl 37 29 1 z29 [(0, 29, (.t 87))]),
 J 89 (.app 37 29 144 (.t 86) (.t 88)),
 M 11 89] 5))))
(.seq
(.seq
(F [J 90 (.load (some 29) (.t 12))] 1)
(F [J 12 (.alloc 37 z29),
 N (.store 29 (.t 12) (.t 90))] 2))
(F [M 66 10,
 J 67 (.call (.t 66) []),
 M 65 67,
 J 68 (.ext 0 (.t 65)),
 J 69 (.ext 1 (.t 65)),
 N (.store 29 (.t 12) (.t 68)),
 M 13 69] 7)))))))
(.seq
(F [M 91 11,
 M 4 91,
 J 5 (.mv (Z 0))] 3)
.ret)))))))
def rv : List RV := [.tmp 4, .tmp 5]
theorem enter : En Tryd.prog 11 92 s rv := En.mk (c := Tryd.f11.body.getD .ret) Tryd.func11 rfl (by kernel_rfl) (by kernel_rfl) (by kernel_rfl) (by kernel_rfl)
end buffer_Buffer_Put
namespace buffer_Buffer_Has
abbrev f : Nat := 12
def s : SCo := (.seq
(F [J 2 (.alloc 29 z8)] 1)
(.seq
(.seq
(F [M 3 0,
 J 4 (.call (C 26) [(.t 3)])] 2)
(.cond (.t 4)
(.seq
(F [J 5 (.bld z8 []),
 N (.store 8 (.t 2) (.t 5))] 2)
.ret)
.skip))
(.seq
(F [M 6 0,
 J 7 (.nilc (.t 6)),
 J 8 (.fld 1 (.t 7)),
 J 9 (.load (some 8) (.t 8)),
 N (.store 8 (.t 2) (.t 9))] 5)
.ret)))
def rv : List RV := [.cell 2 (some 8)]
theorem enter : En Tryd.prog 12 10 s rv := En.mk (c := Tryd.f12.body.getD .ret) Tryd.func12 rfl (by kernel_rfl) (by kernel_rfl) (by kernel_rfl) (by kernel_rfl)
end buffer_Buffer_Has
namespace ref05_SameAll
abbrev f : Nat := 13
def s : SCo := (.seq
(F [J 4 (.mv (B false))] 1)
(.seq
(.seq
(F [M 6 0,
 J 7 (.len (.t 6)),
 M 8 1,
 J 9 (.len (.t 8)),
 J 10 (.bin .neq (.t 7) (.t 9))] 5)
(.cond (.t 10)
(.seq
(F [J 4 (.mv (B false))] 1)
.ret)
.skip))
(.seq
(.seq
(F [J 5 (.mv (Z 0))] 1)
(.block 0
(.loop
(.seq
(.seq
(F [M 11 5,
 M 12 0,
 J 13 (.len (.t 12)),
 J 14 (.bin .lss (.t 11) (.t 13))] 4)
(.cond (.t 14)
.skip
(.exit 0)))
(.seq
(.block 1
(.seq
(.reg [M 17 0,
 M 18 5,
 J 19 (.idxS 29 (.t 17) (.t 18)),
 J 20 (.load (some 29) (.t 19)),
 M 21 1,
 M 22 5,
 J 23 (.idxS 29 (.t 21) (.t 22)),
 J 24 (.load (some 29) (.t 23)),
 J 25 (.call (C 36) [(.t 20), (.t 24)]),
 J 26 (.not (.t 25))] [0,
0,
3,
7,
0,
0,
48,
112,
255,
511] true)
(.cond (.t 26)
(.seq
(F [J 4 (.mv (B false))] 1)
.ret)
.skip)))
(F [M 15 5,
 J 16 (.bin .add (.t 15) (Z 1)),
 M 5 16] 3))))))
(.seq
(F [J 4 (.mv (B true))] 1)
.ret))))
def rv : List RV := [.tmp 4]
theorem enter : En Tryd.prog 13 27 s rv := En.mk (c := Tryd.f13.body.getD .ret) Tryd.func13 rfl (by kernel_rfl) (by kernel_rfl) (by kernel_rfl) (by kernel_rfl)
end ref05_SameAll
namespace buffer_Buffer_Waits
abbrev f : Nat := 14
def s : SCo := (.seq
(F [J 2 (.mv (.k (.d .nils)))] 1)
(.seq
(.seq
(F [M 6 0,
 J 7 (.call (C 26) [(.t 6)])] 2)
(.cond (.t 7)
(.seq
(F [J 2 (.mv (.k (.d .nils)))] 1)
.ret)
.skip))
(.seq
(F [J 3 (.mv (.k (.d .nils)))] 1)
(.seq
(.seq
(F [M 8 0,
 J 9 (.call (C 33) [(.t 8)]),
 J 10 (.len (.t 9)),
 J 11 (.mv (Z 0))] 4)
(.block 0
(.loop
(.seq
(F [J 12 (.bin .lss (.t 11) (.t 10))] 1)
(.seq
(.cond (.t 12)
.skip
(.exit 0))
(.seq
(.block 1
(.seq
(F [J 13 (.idxS 29 (.t 9) (.t 11)),
 J 14 (.load (some 29) (.t 13)),
 J 5 (.alloc 37 z29),
 N (.store 29 (.t 5) (.t 14))] 4)
(F [M 15 3,
 J 16 (.load (some 29) (.t 5)),
 J 17 (.call (C 31) [(.t 16)]),
 J 18 (.bsl 37 29 1 z29 [(0, 29, (.t 17))]),
 J 19 (.app 37 29 144 (.t 15) (.t 18)),
 M 3 19] 6)))
(F [J 20 (.bin .add (.t 11) (Z 1)),
 M 11 20] 2)))))))
(.seq
(F [M 21 3,
 M 2 21] 2)
.ret)))))
def rv : List RV := [.tmp 2]
theorem enter : En Tryd.prog 14 22 s rv := En.mk (c := Tryd.f14.body.getD .ret) Tryd.func14 rfl (by kernel_rfl) (by kernel_rfl) (by kernel_rfl) (by kernel_rfl)
end buffer_Buffer_Waits
namespace ref11_Sorted
abbrev f : Nat := 15
def s : SCo := (.seq
(F [J 2 (.mv (.k (.d .nils)))] 1)
(.seq
(F [J 3 (.mv (.k (.d .nils)))] 1)
(.seq
(.seq
(F [J 4 (.mv (Z 0))] 1)
(.block 0
(.loop
(.seq
(.seq
(F [M 6 4,
 M 7 0,
 J 8 (.len (.t 7)),
 J 9 (.bin .lss (.t 6) (.t 8))] 4)
(.cond (.t 9)
.skip
(.exit 0)))
(.seq
(.block 1
(.seq
(F [J 5 (.mv (Z 0))] 1)
(.seq
(.block 2
(.loop
(.seq
(.seq
(.reg [M 12 5,
 M 13 3,
 J 14 (.len (.t 13)),
 J 15 (.bin .lss (.t 12) (.t 14)),
 M 16 15,
 G 17 3 16 true,
 G 18 5 16 true,
 H 19 (.idxS 29 (.t 17) (.t 18)) 16 true,
 H 20 (.load (some 29) (.t 19)) 16 true,
 G 21 0 16 true,
 G 22 4 16 true,
 H 23 (.idxS 29 (.t 21) (.t 22)) 16 true,
 H 24 (.load (some 29) (.t 23)) 16 true,
 H 25 (.call (C 37) [(.t 20), (.t 24)]) 16 true,
 J 26 (.pick (.t 16) (.t 25) (B false))] [0,
0,
2,
7,
15,
31,
31,
127,
255,
31,
31,
1567,
3615,
8191,
16383] true)
(.cond (.t 26)
.skip
(.exit 2)))
(.block 3
(F [M 27 5,
 J 28 (.bin .add (.t 27) (Z 1)),
 M 5 28] 3)))))
(.reg (J 29 (.bsl 37 29 0 [] []) ::
 M 30 3 ::
 M 31 5 ::
 J 32 (.slc 29 (.t 30) none (some (.t 31))) ::
 J 33 (.app 37 29 144 (.t 29) (.t 32)) ::
 M 34 0 ::
 M 35 4 ::
 J 36 (.idxS 29 (.t 34) (.t 35)) ::
 J 37 (.load (some 29) (.t 36)) ::
 J 38 (.bsl 37 29 1 z29 [(0, 29, (.t 37))]) ::
 J 39 (.app 37 29 144 (.t 33) (.t 38)) ::
 M 40 3 ::
 M 41 5 ::
 J 42 (.slc 29 (.t 40) (some (.t 41)) none) ::
 J 43 (.app 37 29 144 (.t 39) (.t 42)) ::
 M 3 43 :: []) (0 ::
0 ::
0 ::
6 ::
15 ::
0 ::
0 ::
96 ::
224 ::
480 ::
1023 ::
0 ::
0 ::
6144 ::
16383 ::
32767 :: []) true))))
(F [M 10 4,
 J 11 (.bin .add (.t 10) (Z 1)),
 M 4 11] 3))))))
(.seq
(F [M 44 3,
 M 2 44] 2)
.ret))))
def rv : List RV := [.tmp 2]
theorem enter : En Tryd.prog 15 45 s rv := En.mk (c := Tryd.f15.body.getD .ret) Tryd.func15 rfl (by kernel_rfl) (by kernel_rfl) (by kernel_rfl) (by kernel_rfl)
end ref11_Sorted
namespace order_Before
end order_Before
namespace ref11_New
abbrev f : Nat := 17
def s : SCo := (.seq
(F [J 3 (.box 29 (.t 1)),
 J 4 (.alloc 48 [i6 0, b32 0, b32 0, b32 0, b32 0, b32 0, b32 0, b32 0, b32 0, (.d .nils)]),
 J 5 (.mv (Z 0))] 3)
(.seq
(.seq
(F [M 7 0,
 J 8 (.bin .lss (.t 7) (Z 1)),
 M 9 8,
 G 10 0 9 false,
 H 11 (.bin .gtr (.t 10) (Z 8)) 9 false,
 J 12 (.pick (.t 9) (B true) (.t 11))] 6)
(.cond (.t 12)
(.seq
(F [J 13 (.bld [i6 0, b32 0, b32 0, b32 0, b32 0, b32 0, b32 0, b32 0, b32 0, (.d .nils)] []),
 N (.store 10 (.t 4) (.t 13)),
 J 5 (.mv (Z 2))] 3)
.ret)
.skip))
(.seq
(.seq
(F [M 14 0,
 M 6 14] 2)
(.block 0
(.loop
(.seq
(.seq
(F [M 15 6,
 J 16 (.bin .lss (.t 15) (Z 8))] 2)
(.cond (.t 16)
.skip
(.exit 0)))
(.seq
(.block 1
(.seq
(F [M 19 6,
 J 20 (.idxA 8 1 (.t 3) (.t 19)),
 J 21 (.load none (.t 20)),
 J 22 (.bin .neq (.t 21) (.k (b32 0)))] 4)
(.cond (.t 22)
(.seq
(F [J 23 (.bld [i6 0, b32 0, b32 0, b32 0, b32 0, b32 0, b32 0, b32 0, b32 0, (.d .nils)] []),
 N (.store 10 (.t 4) (.t 23)),
 J 5 (.mv (Z 2))] 3)
.ret)
.skip)))
(F [M 17 6,
 J 18 (.bin .add (.t 17) (Z 1)),
 M 6 18] 3))))))
(.seq
(F [M 24 0,
 J 25 (.load (some 8) (.t 3)),
 J 26 (.bld [i6 0, b32 0, b32 0, b32 0, b32 0, b32 0, b32 0, b32 0, b32 0, (.d .nils)] [(0, 1, (.t 24)), (1, 8, (.t 25))]),
 N (.store 10 (.t 4) (.t 26)),
 J 5 (.mv (Z 0))] 5)
.ret))))
def rv : List RV := [.cell 4 (some 10), .tmp 5]
theorem enter : En Tryd.prog 17 27 s rv := En.mk (c := Tryd.f17.body.getD .ret) Tryd.func17 rfl (by kernel_rfl) (by kernel_rfl) (by kernel_rfl) (by kernel_rfl)
end ref11_New
namespace buffer_Buffer_Copy
abbrev f : Nat := 18
def s : SCo := (.seq
(F [J 2 (.mv (.k (.d .nilp)))] 1)
(.seq
(.seq
(F [M 3 0,
 J 4 (.call (C 26) [(.t 3)])] 2)
(.cond (.t 4)
(.seq
(F [J 2 (.mv (.k (.d .nilp)))] 1)
.ret)
.skip))
(.seq
(.reg (M 5 0 ::
 J 6 (.nilc (.t 5)) ::
 J 7 (.fld 0 (.t 6)) ::
 J 8 (.load none (.t 7)) ::
 M 9 0 ::
 J 10 (.nilc (.t 9)) ::
 J 11 (.fld 1 (.t 10)) ::
 J 12 (.load (some 8) (.t 11)) ::
 M 13 0 ::
 J 14 (.nilc (.t 13)) ::
 J 15 (.fld 9 (.t 14)) ::
 J 16 (.load none (.t 15)) ::
 J 17 (.call (C 38) [(.t 16)]) ::
 J 18 (.bld [i6 0, b32 0, b32 0, b32 0, b32 0, b32 0, b32 0, b32 0, b32 0, (.d .nilm)] [(0, 1, (.t 8)), (1, 8, (.t 12)), (9, 1, (.t 17))]) ::
 J 19 (.box 58 (.t 18)) ::
 M 2 19 :: []) (0 ::
1 ::
3 ::
7 ::
0 ::
16 ::
48 ::
112 ::
0 ::
256 ::
768 ::
1792 ::
3840 ::
8191 ::
16383 ::
32767 :: []) true)
.ret)))
def rv : List RV := [.tmp 2]
theorem enter : En Tryd.prog 18 20 s rv := En.mk (c := Tryd.f18.body.getD .ret) Tryd.func18 rfl (by kernel_rfl) (by kernel_rfl) (by kernel_rfl) (by kernel_rfl)
end buffer_Buffer_Copy
namespace ref11_Put
abbrev f : Nat := 19
def s : SCo := (.seq
(F [J 2 (.box 48 (.t 0)),
 J 4 (.alloc 48 [i6 0, b32 0, b32 0, b32 0, b32 0, b32 0, b32 0, b32 0, b32 0, (.d .nils)]),
 J 5 (.mv (.k (.d .nils))),
 J 6 (.mv (Z 0))] 4)
(.seq
(.seq
(F [J 7 (.mv (Z 0))] 1)
(.block 0
(.loop
(.seq
(.seq
(F [M 12 7,
 M 13 1,
 J 14 (.len (.t 13)),
 J 15 (.bin .lss (.t 12) (.t 14))] 4)
(.cond (.t 15)
.skip
(.exit 0)))
(.seq
(.block 1
(.seq
(.reg [M 18 1,
 M 19 7,
 J 20 (.idxS 29 (.t 18) (.t 19)),
 J 21 (.load (some 29) (.t 20)),
 J 22 (.fld 0 (.t 2)),
 J 23 (.load none (.t 22)),
 J 24 (.call (C 39) [(.t 21), (.t 23)]),
 J 25 (.bin .neq (.t 24) (Z 0))] [0,
0,
3,
7,
0,
16,
63,
127] true)
(.cond (.t 25)
(.seq
(F [J 26 (.load (some 10) (.t 2)),
 N (.store 10 (.t 4) (.t 26)),
 J 5 (.mv (.k (.d .nils))),
 J 6 (.mv (Z 5))] 4)
.ret)
.skip)))
(F [M 16 7,
 J 17 (.bin .add (.t 16) (Z 1)),
 M 7 17] 3))))))
(.seq
(F [J 27 (.bsl 37 29 0 [] []),
 J 28 (.fld 9 (.t 2)),
 J 29 (.load none (.t 28)),
 J 30 (.app 37 29 144 (.t 27) (.t 29)),
 J 31 (.fld 9 (.t 2)),
 N (.store 1 (.t 31) (.t 30))] 6)
(.seq
(.seq
(F [J 8 (.mv (Z 0))] 1)
(.block 2
(.loop
(.seq
(.seq
(F [M 32 8,
 M 33 1,
 J 34 (.len (.t 33)),
 J 35 (.bin .lss (.t 32) (.t 34))] 4)
(.cond (.t 35)
.skip
(.exit 2)))
(.seq
(.block 3
(.seq
(.reg [J 38 (.load (some 10) (.t 2)),
 M 39 1,
 M 40 8,
 J 41 (.idxS 29 (.t 39) (.t 40)),
 J 42 (.fld 0 (.t 41)),
 J 43 (.load (some 2) (.t 42)),
 J 44 (.call (C 40) [(.t 38), (.t 43)]),
 J 45 (.not (.t 44))] [0,
0,
0,
6,
14,
30,
63,
127] true)
(.cond (.t 45)
(.reg [J 46 (.fld 9 (.t 2)),
 J 47 (.load none (.t 46)),
 M 48 1,
 M 49 8,
 J 50 (.idxS 29 (.t 48) (.t 49)),
 J 51 (.load (some 29) (.t 50)),
 J 52 (.bsl 37 29 1 z29 [(0, 29, (.t 51))]),
 J 53 (.app 37 29 144 (.t 47) (.t 52)),
 J 54 (.fld 9 (.t 2)),
 N (.store 1 (.t 54) (.t 53))] [0,
1,
0,
0,
12,
28,
60,
127,
255,
511] true)
.skip)))
(F [M 36 8,
 J 37 (.bin .add (.t 36) (Z 1)),
 M 8 37] 3))))))
(.seq
(F [J 9 (.mv (.k (.d .nils)))] 1)
(.seq
(.block 4
(.loop
(.seq
(.seq
(F [J 55 (.load (some 10) (.t 2)),
 J 56 (.call (C 41) [(.t 55)]),
 J 57 (.bin .geq (.t 56) (Z 0))] 3)
(.cond (.t 57)
.skip
(.exit 4)))
(.block 5
(.seq
(F [J 58 (.load (some 10) (.t 2)),
 J 59 (.call (C 41) [(.t 58)]),
 M 10 59] 3)
(.seq
(F [J 60 (.fld 9 (.t 2)),
 J 61 (.load none (.t 60)),
 M 62 10,
 J 63 (.idxS 29 (.t 61) (.t 62)),
 J 64 (.load (some 29) (.t 63)),
 J 11 (.alloc 37 z29),
 N (.store 29 (.t 11) (.t 64))] 7)
(.seq
(F [M 65 9,
 J 66 (.load (some 29) (.t 11)),
 J 67 (.bsl 37 29 1 z29 [(0, 29, (.t 66))]),
 J 68 (.app 37 29 144 (.t 65) (.t 67)),
 M 9 68] 5)
(.seq
(F [J 69 (.fld 0 (.t 11)),
 J 70 (.fld 0 (.t 69)),
 J 71 (.load none (.t 70)),
 J 72 (.fld 0 (.t 11)),
 J 73 (.fld 1 (.t 72)),
 J 74 (.load none (.t 73)),
 J 75 (.fld 1 (.t 2)),
 J 76 (.idxA 8 1 (.t 75) (.t 71)),
 N (.store 1 (.t 76) (.t 74))] 9)
(.reg [J 77 (.bsl 37 29 0 [] []),
 J 78 (.fld 9 (.t 2)),
 J 79 (.load none (.t 78)),
 M 80 10,
 J 81 (.slc 29 (.t 79) none (some (.t 80))),
 J 82 (.app 37 29 144 (.t 77) (.t 81)),
 J 83 (.fld 9 (.t 2)),
 J 84 (.load none (.t 83)),
 M 85 10,
 J 86 (.bin .add (.t 85) (Z 1)),
 J 87 (.slc 29 (.t 84) (some (.t 86)) none),
 J 88 (.app 37 29 144 (.t 82) (.t 87)),
 J 89 (.fld 9 (.t 2)),
 N (.store 1 (.t 89) (.t 88))] [0,
0,
2,
0,
14,
31,
0,
64,
0,
256,
960,
2047,
4095,
8191] true)))))))))
(.seq
(F [J 90 (.load (some 10) (.t 2)),
 M 91 9,
 N (.store 10 (.t 4) (.t 90)),
 M 5 91,
 J 6 (.mv (Z 0))] 5)
.ret)))))))
def rv : List RV := [.cell 4 (some 10), .tmp 5, .tmp 6]
theorem enter : En Tryd.prog 19 92 s rv := En.mk (c := Tryd.f19.body.getD .ret) Tryd.func19 rfl (by kernel_rfl) (by kernel_rfl) (by kernel_rfl) (by kernel_rfl)
end ref11_Put
namespace law11_same
abbrev f : Nat := 20
def s : SCo := (.seq
(F [J 3 (.box 48 (.t 1)),
 J 4 (.mv (B false))] 2)
(.seq
(.reg (M 5 0 ::
 J 6 (.eqnil true 0 (.t 5)) ::
 M 7 6 ::
 G 8 0 7 true ::
 H 9 (.call (C 12) [(.t 8)]) 7 true ::
 H 10 (.fld 1 (.t 3)) 7 true ::
 H 11 (.load (some 8) (.t 10)) 7 true ::
 H 12 (.eqv false [true, true, true, true, true, true, true, true] (.t 9) (.t 11)) 7 true ::
 J 13 (.pick (.t 7) (.t 12) (B false)) ::
 M 14 13 ::
 G 15 0 14 true ::
 H 16 (.call (C 14) [(.t 15)]) 14 true ::
 H 17 (.fld 9 (.t 3)) 14 true ::
 H 18 (.load none (.t 17)) 14 true ::
 H 19 (.call (C 15) [(.t 18)]) 14 true ::
 H 20 (.call (C 13) [(.t 16), (.t 19)]) 14 true ::
 J 21 (.pick (.t 14) (.t 20) (B false)) ::
 M 4 21 :: []) (0 ::
1 ::
3 ::
7 ::
15 ::
7 ::
39 ::
127 ::
255 ::
511 ::
1023 ::
2047 ::
1023 ::
5119 ::
16383 ::
32767 ::
65535 ::
131071 :: []) true)
.ret))
def rv : List RV := [.tmp 4]
theorem enter : En Tryd.prog 20 22 s rv := En.mk (c := Tryd.f20.body.getD .ret) Tryd.func20 rfl (by kernel_rfl) (by kernel_rfl) (by kernel_rfl) (by kernel_rfl)
end law11_same
namespace order_History
end order_History
namespace order_Known
end order_Known
namespace slices_ContainsFunc_Luint32_uint32
abbrev f : Nat := 23
def s : SCo := (.seq
(F [J 4 (.mv (B false))] 1)
(.seq
(F [M 5 0,
 M 6 1,
 J 7 (.call (C 45) [(.t 5), (.t 6)]),
 J 8 (.bin .geq (.t 7) (Z 0)),
 M 4 8] 5)
.ret))
def rv : List RV := [.tmp 4]
theorem enter : En Tryd.prog 23 9 s rv := En.mk (c := Tryd.f23.body.getD .ret) Tryd.func23 rfl (by kernel_rfl) (by kernel_rfl) (by kernel_rfl) (by kernel_rfl)
end slices_ContainsFunc_Luint32_uint32
namespace buffer_New_1
abbrev f : Nat := 24
def s : SCo := (.seq
(F [J 2 (.mv (B false))] 1)
(.seq
(F [M 3 0,
 J 4 (.bin .gtr (.t 3) (.k (b32 0))),
 M 2 4] 3)
.ret))
def rv : List RV := [.tmp 2]
theorem enter : En Tryd.prog 24 5 s rv := En.mk (c := Tryd.f24.body.getD .ret) Tryd.func24 rfl (by kernel_rfl) (by kernel_rfl) (by kernel_rfl) (by kernel_rfl)
end buffer_New_1
namespace law11_three
abbrev f : Nat := 25
def s : SCo := (.seq
(F [J 0 (.mv (.k (.d .nils)))] 1)
(.seq
(F [J 4 (.bld [b8 0, b32 0] [(1, 1, (.k (b32 1)))]),
 J 5 (.bld [b8 0, b32 0] [(1, 1, (.k (b32 1)))]),
 J 6 (.bld z29 [(0, 2, (.t 4)), (10, 1, (.k (b64 1))), (11, 1, (.k (b32 1))), (12, 2, (.t 5))]),
 J 1 (.alloc 37 z29),
 N (.store 29 (.t 1) (.t 6))] 5)
(.seq
(F [J 7 (.bld [b8 0, b32 0] [(0, 1, (.k (b8 1))), (1, 1, (.k (b32 1)))]),
 J 8 (.bld z8 [(0, 1, (.k (b32 1)))]),
 J 9 (.bld [b8 0, b32 0] [(0, 1, (.k (b8 1))), (1, 1, (.k (b32 1)))]),
 J 10 (.bld z29 [(0, 2, (.t 7)), (2, 8, (.t 8)), (10, 1, (.k (b64 2))), (11, 1, (.k (b32 1))), (12, 2, (.t 9))]),
 J 2 (.alloc 37 z29),
 N (.store 29 (.t 2) (.t 10))] 6)
(.seq
(F [J 11 (.bld [b8 0, b32 0] [(1, 1, (.k (b32 2)))]),
 J 12 (.bld z8 [(0, 1, (.k (b32 1))), (1, 1, (.k (b32 1)))]),
 J 13 (.bld [b8 0, b32 0] [(1, 1, (.k (b32 2)))]),
 J 14 (.bld z29 [(0, 2, (.t 11)), (2, 8, (.t 12)), (10, 1, (.k (b64 3))), (11, 1, (.k (b32 1))), (12, 2, (.t 13))]),
 J 3 (.alloc 37 z29),
 N (.store 29 (.t 3) (.t 14))] 6)
(.seq
(F [J 15 (.load (some 29) (.t 1)),
 J 16 (.load (some 29) (.t 2)),
 J 17 (.load (some 29) (.t 3)),
 J 18 (.bsl 37 29 3 [b8 0, b32 0, b32 0, b32 0, b32 0, b32 0, b32 0, b32 0, b32 0, b32 0, b64 0, b32 0, b8 0, b32 0, b8 0, b8 0, b32 0, b32 0, b8 0, b8 0, b64 0, b8 0, b32 0, b8 0, b32 0, b32 0, b32 0, b32 0, (.d .nils), b8 0, b32 0, b32 0, b32 0, b32 0, b32 0, b32 0, b32 0, b32 0, b32 0, b64 0, b32 0, b8 0, b32 0, b8 0, b8 0, b32 0, b32 0, b8 0, b8 0, b64 0, b8 0, b32 0, b8 0, b32 0, b32 0, b32 0, b32 0, (.d .nils), b8 0, b32 0, b32 0, b32 0, b32 0, b32 0, b32 0, b32 0, b32 0, b32 0, b64 0, b32 0, b8 0, b32 0, b8 0, b8 0, b32 0, b32 0, b8 0, b8 0, b64 0, b8 0, b32 0, b8 0, b32 0, b32 0, b32 0, b32 0, (.d .nils)] [(0, 29, (.t 15)), (29, 29, (.t 16)), (58, 29, (.t 17))]),
 M 0 18] 5)
.ret)))))
def rv : List RV := [.tmp 0]
theorem enter : En Tryd.prog 25 19 s rv := En.mk (c := Tryd.f25.body.getD .ret) Tryd.func25 rfl (by kernel_rfl) (by kernel_rfl) (by kernel_rfl) (by kernel_rfl)
end law11_three
namespace buffer_Buffer_none
abbrev f : Nat := 26
def s : SCo := (.seq
(F [J 2 (.mv (B false))] 1)
(.seq
(F [M 3 0,
 J 4 (.eqnil false 0 (.t 3)),
 M 5 4,
 G 6 0 5 false,
 H 7 (.nilc (.t 6)) 5 false,
 H 8 (.fld 9 (.t 7)) 5 false,
 H 9 (.load none (.t 8)) 5 false,
 H 10 (.eqnil false 1 (.t 9)) 5 false,
 J 11 (.pick (.t 5) (B true) (.t 10)),
 M 2 11] 10)
.ret))
def rv : List RV := [.tmp 2]
theorem enter : En Tryd.prog 26 12 s rv := En.mk (c := Tryd.f26.body.getD .ret) Tryd.func26 rfl (by kernel_rfl) (by kernel_rfl) (by kernel_rfl) (by kernel_rfl)
end buffer_Buffer_none
namespace slices_ContainsFunc_Lapi_Op_api_Op
abbrev f : Nat := 27
def s : SCo := (.seq
(F [J 4 (.mv (B false))] 1)
(.seq
(F [M 5 0,
 M 6 1,
 J 7 (.call (C 34) [(.t 5), (.t 6)]),
 J 8 (.bin .geq (.t 7) (Z 0)),
 M 4 8] 5)
.ret))
def rv : List RV := [.tmp 4]
theorem enter : En Tryd.prog 27 9 s rv := En.mk (c := Tryd.f27.body.getD .ret) Tryd.func27 rfl (by kernel_rfl) (by kernel_rfl) (by kernel_rfl) (by kernel_rfl)
end slices_ContainsFunc_Lapi_Op_api_Op
namespace buffer_Buffer_Put_1
abbrev f : Nat := 28
def s : SCo := (.seq
(F [J 2 (.box 37 (.t 0)),
 J 3 (.mv (B false))] 2)
(.seq
(.reg [J 4 (.load (some 29) (.t 2)),
 J 5 (.load none (.t 1)),
 J 6 (.nilc (.t 5)),
 J 7 (.fld 0 (.t 6)),
 J 8 (.load none (.t 7)),
 J 9 (.call (C 29) [(.t 4), (.t 8)]),
 J 10 (.bin .neq (.t 9) (Z 0)),
 M 3 10] [0,
0,
2,
6,
14,
31,
63,
127] true)
.ret))
def rv : List RV := [.tmp 3]
theorem enter : En Tryd.prog 28 11 s rv := En.mk (c := Tryd.f28.body.getD .ret) Tryd.func28 rfl (by kernel_rfl) (by kernel_rfl) (by kernel_rfl) (by kernel_rfl)
end buffer_Buffer_Put_1
namespace op_Check
abbrev f : Nat := 29
def s : SCo := (.seq
(F [J 2 (.box 37 (.t 0)),
 J 4 (.mv (Z 0))] 2)
(.seq
(.block 0
(.seq
(F [M 6 1,
 J 7 (.bin .lss (.t 6) (Z 1)),
 M 8 7,
 G 9 1 8 false,
 H 10 (.bin .gtr (.t 9) (Z 8)) 8 false,
 J 11 (.pick (.t 8) (B true) (.t 10)),
 M 5 11] 7)
(.cond (.t 5)
(.seq
(F [J 4 (.mv (Z 2))] 1)
.ret)
(.seq
(.reg (J 13 (.load (some 29) (.t 2)) ::
 M 14 1 ::
 J 15 (.call (C 46) [(.t 13), (.t 14)]) ::
 J 16 (.not (.t 15)) ::
 M 17 16 ::
 H 18 (.load (some 29) (.t 2)) 17 false ::
 H 19 (.call (C 48) [(.t 18)]) 17 false ::
 H 20 (.load (some 29) (.t 2)) 17 false ::
 H 21 (.call (C 47) [(.t 19), (.t 20)]) 17 false ::
 H 22 (.not (.t 21)) 17 false ::
 J 23 (.pick (.t 17) (B true) (.t 22)) ::
 M 24 23 ::
 H 25 (.load (some 29) (.t 2)) 24 false ::
 H 26 (.call (C 49) [(.t 25)]) 24 false ::
 H 27 (.not (.t 26)) 24 false ::
 J 28 (.pick (.t 24) (B true) (.t 27)) ::
 M 12 28 :: []) (0 ::
0 ::
3 ::
7 ::
15 ::
31 ::
63 ::
31 ::
255 ::
511 ::
1023 ::
2047 ::
4095 ::
8191 ::
16383 ::
32767 ::
65535 :: []) true)
(.cond (.t 12)
(.seq
(F [J 4 (.mv (Z 5))] 1)
.ret)
.skip)))))
(.seq
(F [J 4 (.mv (Z 0))] 1)
.ret)))
def rv : List RV := [.tmp 4]
theorem enter : En Tryd.prog 29 29 s rv := En.mk (c := Tryd.f29.body.getD .ret) Tryd.func29 rfl (by kernel_rfl) (by kernel_rfl) (by kernel_rfl) (by kernel_rfl)
end op_Check
namespace vector_Covers
abbrev f : Nat := 30
def s : SCo := (.seq
(F [J 2 (.box 29 (.t 0)),
 J 3 (.box 33 (.t 1)),
 J 4 (.mv (B false))] 3)
(.seq
(.reg [J 5 (.load (some 2) (.t 3)),
 J 6 (.call (C 50) [(.t 5)]),
 M 7 6,
 H 8 (.fld 0 (.t 3)) 7 true,
 H 9 (.load none (.t 8)) 7 true,
 H 10 (.idxA 8 1 (.t 2) (.t 9)) 7 true,
 H 11 (.load none (.t 10)) 7 true,
 H 12 (.fld 1 (.t 3)) 7 true,
 H 13 (.load none (.t 12)) 7 true,
 H 14 (.bin .geq (.t 11) (.t 13)) 7 true,
 J 15 (.pick (.t 7) (.t 14) (B false)),
 M 4 15] [0,
1,
3,
7,
15,
31,
63,
7,
135,
511,
1023,
2047] true)
.ret))
def rv : List RV := [.tmp 4]
theorem enter : En Tryd.prog 30 16 s rv := En.mk (c := Tryd.f30.body.getD .ret) Tryd.func30 rfl (by kernel_rfl) (by kernel_rfl) (by kernel_rfl) (by kernel_rfl)
end vector_Covers
namespace buffer_own
abbrev f : Nat := 31
def s : SCo := (.seq
(F [J 1 (.box 37 (.t 0)),
 J 2 (.alloc 37 z29)] 2)
(.seq
(F [J 3 (.fld 28 (.t 1)),
 J 4 (.load none (.t 3)),
 J 5 (.call (C 51) [(.t 4)]),
 J 6 (.fld 28 (.t 1)),
 N (.store 1 (.t 6) (.t 5))] 5)
(.seq
(F [J 7 (.load (some 29) (.t 1)),
 N (.store 29 (.t 2) (.t 7))] 2)
.ret)))
def rv : List RV := [.cell 2 (some 29)]
theorem enter : En Tryd.prog 31 8 s rv := En.mk (c := Tryd.f31.body.getD .ret) Tryd.func31 rfl (by kernel_rfl) (by kernel_rfl) (by kernel_rfl) (by kernel_rfl)
end buffer_own
namespace buffer_Buffer_Put_2
abbrev f : Nat := 32
def s : SCo := (.seq
(F [J 1 (.alloc 37 z29),
 J 2 (.mv (B false))] 2)
(.seq
(F [J 5 (.load none (.t 0)),
 J 6 (.call (C 33) [(.t 5)]),
 M 3 6] 3)
(.seq
(F [M 7 3,
 J 8 (.load none (.t 0)),
 J 9 (.mkf (.func 35) [(.t 8)] []),
 J 10 (.call (C 34) [(.t 7), (.t 9)]),
 M 4 10] 5)
(.seq
(.seq
(F [M 11 4,
 J 12 (.bin .lss (.t 11) (Z 0))] 2)
(.cond (.t 12)
(.seq
(F [J 13 (.bld z29 []),
 N (.store 29 (.t 1) (.t 13)),
 J 2 (.mv (B false))] 3)
.ret)
.skip))
(.seq
(F [M 14 3,
 M 15 4,
 J 16 (.idxS 29 (.t 14) (.t 15)),
 J 17 (.load (some 29) (.t 16)),
 N (.store 29 (.t 1) (.t 17)),
 J 2 (.mv (B true))] 6)
.ret)))))
def rv : List RV := [.cell 1 (some 29), .tmp 2]
theorem enter : En Tryd.prog 32 18 s rv := En.mk (c := Tryd.f32.body.getD .ret) Tryd.func32 rfl (by kernel_rfl) (by kernel_rfl) (by kernel_rfl) (by kernel_rfl)
end buffer_Buffer_Put_2
namespace buffer_Buffer_all
abbrev f : Nat := 33
def s : SCo := (.seq
(F [J 2 (.mv (.k (.d .nils)))] 1)
(.seq
(F [M 3 0,
 J 4 (.nilc (.t 3)),
 J 5 (.fld 9 (.t 4)),
 J 6 (.load none (.t 5)),
 J 7 (.call (C 53) [(.t 6)]),
 J 8 (.call (C 52) [(.t 7), (C 54)]),
 M 2 8] 7)
.ret))
def rv : List RV := [.tmp 2]
theorem enter : En Tryd.prog 33 9 s rv := En.mk (c := Tryd.f33.body.getD .ret) Tryd.func33 rfl (by kernel_rfl) (by kernel_rfl) (by kernel_rfl) (by kernel_rfl)
end buffer_Buffer_all
namespace slices_IndexFunc_Lapi_Op_api_Op
abbrev f : Nat := 34
def s : SCo := (.seq
(F [J 4 (.mv (Z 0))] 1)
(.seq
(.seq
(F [M 6 0,
 J 7 (.len (.t 6)),
 J 8 (.mv (Z 0))] 3)
(.block 0
(.loop
(.seq
(F [J 9 (.bin .lss (.t 8) (.t 7))] 1)
(.seq
(.cond (.t 9)
.skip
(.exit 0))
(.seq
(.block 1
(.seq
(F [M 10 8,
 M 5 10] 2)
(.seq
(F [M 11 1,
 M 12 0,
 M 13 5,
 J 14 (.idxS 29 (.t 12) (.t 13)),
 J 15 (.load (some 29) (.t 14)),
 J 16 (.call (.t 11) [(.t 15)])] 6)
(.cond (.t 16)
(.seq
(F [M 17 5,
 M 4 17] 2)
.ret)
.skip))))
(F [J 18 (.bin .add (.t 8) (Z 1)),
 M 8 18] 2)))))))
(.seq
(F [J 4 (.mv (.k (.d (.int .i64 (-1)))))] 1)
.ret)))
def rv : List RV := [.tmp 4]
theorem enter : En Tryd.prog 34 19 s rv := En.mk (c := Tryd.f34.body.getD .ret) Tryd.func34 rfl (by kernel_rfl) (by kernel_rfl) (by kernel_rfl) (by kernel_rfl)
end slices_IndexFunc_Lapi_Op_api_Op
namespace buffer_Buffer_may
abbrev f : Nat := 35
def s : SCo := (.seq
(F [J 3 (.box 37 (.t 1)),
 J 4 (.mv (B false))] 2)
(.seq
(.reg [M 8 0,
 J 9 (.nilc (.t 8)),
 J 10 (.fld 1 (.t 9)),
 J 11 (.load (some 8) (.t 10)),
 J 12 (.fld 0 (.t 3)),
 J 13 (.fld 0 (.t 12)),
 J 14 (.load none (.t 13)),
 J 15 (.call (C 55) [(.t 11), (.t 14)]),
 M 7 15,
 J 16 (.ext 0 (.t 7)),
 J 17 (.ext 1 (.t 7)),
 J 5 (.alloc 33 [b8 0, b32 0]),
 N (.store 2 (.t 5) (.t 16)),
 M 6 17] [0,
1,
3,
7,
0,
16,
48,
127,
255,
511,
511,
0,
3071,
8191] true)
(.seq
(.reg (M 18 6 ::
 J 19 (.bin .eql (.t 18) (Z 0)) ::
 M 20 19 ::
 H 21 (.load (some 2) (.t 5)) 20 true ::
 H 22 (.fld 0 (.t 3)) 20 true ::
 H 23 (.load (some 2) (.t 22)) 20 true ::
 H 24 (.eqv false [true, true] (.t 21) (.t 23)) 20 true ::
 J 25 (.pick (.t 20) (.t 24) (B false)) ::
 M 26 25 ::
 G 27 0 26 true ::
 H 28 (.nilc (.t 27)) 26 true ::
 H 29 (.fld 1 (.t 28)) 26 true ::
 H 30 (.load (some 8) (.t 29)) 26 true ::
 H 31 (.fld 2 (.t 3)) 26 true ::
 H 32 (.load (some 8) (.t 31)) 26 true ::
 H 33 (.call (C 56) [(.t 30), (.t 32)]) 26 true ::
 J 34 (.pick (.t 26) (.t 33) (B false)) ::
 M 4 34 :: []) (0 ::
1 ::
3 ::
7 ::
7 ::
23 ::
63 ::
127 ::
255 ::
511 ::
1023 ::
2047 ::
4095 ::
511 ::
8703 ::
32767 ::
65535 ::
131071 :: []) true)
.ret)))
def rv : List RV := [.tmp 4]
theorem enter : En Tryd.prog 35 35 s rv := En.mk (c := Tryd.f35.body.getD .ret) Tryd.func35 rfl (by kernel_rfl) (by kernel_rfl) (by kernel_rfl) (by kernel_rfl)
end buffer_Buffer_may
namespace ref05_Same
abbrev f : Nat := 36
def s : SCo := (.seq
(F [J 2 (.box 37 (.t 0)),
 J 3 (.box 37 (.t 1)),
 J 4 (.mv (B false))] 3)
(.seq
(.seq
(F [J 6 (.fld 28 (.t 2)),
 J 7 (.load none (.t 6)),
 J 8 (.len (.t 7)),
 J 9 (.fld 28 (.t 3)),
 J 10 (.load none (.t 9)),
 J 11 (.len (.t 10)),
 J 12 (.bin .neq (.t 8) (.t 11))] 7)
(.cond (.t 12)
(.seq
(F [J 4 (.mv (B false))] 1)
.ret)
.skip))
(.seq
(.seq
(F [J 5 (.mv (Z 0))] 1)
(.block 0
(.loop
(.seq
(.seq
(F [M 13 5,
 J 14 (.fld 28 (.t 2)),
 J 15 (.load none (.t 14)),
 J 16 (.len (.t 15)),
 J 17 (.bin .lss (.t 13) (.t 16))] 5)
(.cond (.t 17)
.skip
(.exit 0)))
(.seq
(.block 1
(.seq
(.reg [J 20 (.fld 28 (.t 2)),
 J 21 (.load none (.t 20)),
 M 22 5,
 J 23 (.idxS 4 (.t 21) (.t 22)),
 J 24 (.load (some 4) (.t 23)),
 J 25 (.fld 28 (.t 3)),
 J 26 (.load none (.t 25)),
 M 27 5,
 J 28 (.idxS 4 (.t 26) (.t 27)),
 J 29 (.load (some 4) (.t 28)),
 J 30 (.eqv true [true, true, true, true] (.t 24) (.t 29))] [0,
1,
0,
7,
15,
0,
32,
0,
224,
480,
1023] true)
(.cond (.t 30)
(.seq
(F [J 4 (.mv (B false))] 1)
.ret)
.skip)))
(F [M 18 5,
 J 19 (.bin .add (.t 18) (Z 1)),
 M 5 19] 3))))))
(.seq
(F (J 31 (.fld 0 (.t 2)) ::
 J 32 (.load (some 2) (.t 31)) ::
 J 33 (.fld 0 (.t 3)) ::
 J 34 (.load (some 2) (.t 33)) ::
 J 35 (.eqv false [true, true] (.t 32) (.t 34)) ::
 M 36 35 ::
 H 37 (.fld 2 (.t 2)) 36 true ::
 H 38 (.load (some 8) (.t 37)) 36 true ::
 H 39 (.fld 2 (.t 3)) 36 true ::
 H 40 (.load (some 8) (.t 39)) 36 true ::
 H 41 (.eqv false [true, true, true, true, true, true, true, true] (.t 38) (.t 40)) 36 true ::
 J 42 (.pick (.t 36) (.t 41) (B false)) ::
 M 43 42 ::
 H 44 (.fld 10 (.t 2)) 43 true ::
 H 45 (.load none (.t 44)) 43 true ::
 H 46 (.fld 10 (.t 3)) 43 true ::
 H 47 (.load none (.t 46)) 43 true ::
 H 48 (.bin .eql (.t 45) (.t 47)) 43 true ::
 J 49 (.pick (.t 43) (.t 48) (B false)) ::
 M 50 49 ::
 H 51 (.fld 11 (.t 2)) 50 true ::
 H 52 (.load none (.t 51)) 50 true ::
 H 53 (.fld 11 (.t 3)) 50 true ::
 H 54 (.load none (.t 53)) 50 true ::
 H 55 (.bin .eql (.t 52) (.t 54)) 50 true ::
 J 56 (.pick (.t 50) (.t 55) (B false)) ::
 M 57 56 ::
 H 58 (.fld 12 (.t 2)) 57 true ::
 H 59 (.load (some 2) (.t 58)) 57 true ::
 H 60 (.fld 12 (.t 3)) 57 true ::
 H 61 (.load (some 2) (.t 60)) 57 true ::
 H 62 (.eqv false [true, true] (.t 59) (.t 61)) 57 true ::
 J 63 (.pick (.t 57) (.t 62) (B false)) ::
 M 64 63 ::
 H 65 (.fld 14 (.t 2)) 64 true ::
 H 66 (.load none (.t 65)) 64 true ::
 H 67 (.fld 14 (.t 3)) 64 true ::
 H 68 (.load none (.t 67)) 64 true ::
 H 69 (.bin .eql (.t 66) (.t 68)) 64 true ::
 J 70 (.pick (.t 64) (.t 69) (B false)) ::
 M 71 70 ::
 H 72 (.fld 15 (.t 2)) 71 true ::
 H 73 (.load (some 2) (.t 72)) 71 true ::
 H 74 (.fld 15 (.t 3)) 71 true ::
 H 75 (.load (some 2) (.t 74)) 71 true ::
 H 76 (.eqv false [true, true] (.t 73) (.t 75)) 71 true ::
 J 77 (.pick (.t 71) (.t 76) (B false)) ::
 M 78 77 ::
 H 79 (.fld 17 (.t 2)) 78 true ::
 H 80 (.load none (.t 79)) 78 true ::
 H 81 (.fld 17 (.t 3)) 78 true ::
 H 82 (.load none (.t 81)) 78 true ::
 H 83 (.bin .eql (.t 80) (.t 82)) 78 true ::
 J 84 (.pick (.t 78) (.t 83) (B false)) ::
 M 85 84 ::
 H 86 (.fld 18 (.t 2)) 85 true ::
 H 87 (.load none (.t 86)) 85 true ::
 H 88 (.fld 18 (.t 3)) 85 true ::
 H 89 (.load none (.t 88)) 85 true ::
 H 90 (.bin .eql (.t 87) (.t 89)) 85 true ::
 J 91 (.pick (.t 85) (.t 90) (B false)) ::
 M 92 91 ::
 H 93 (.fld 19 (.t 2)) 92 true ::
 H 94 (.load none (.t 93)) 92 true ::
 H 95 (.fld 19 (.t 3)) 92 true ::
 H 96 (.load none (.t 95)) 92 true ::
 H 97 (.bin .eql (.t 94) (.t 96)) 92 true ::
 J 98 (.pick (.t 92) (.t 97) (B false)) ::
 M 99 98 ::
 H 100 (.fld 20 (.t 2)) 99 true ::
 H 101 (.load none (.t 100)) 99 true ::
 H 102 (.fld 20 (.t 3)) 99 true ::
 H 103 (.load none (.t 102)) 99 true ::
 H 104 (.bin .eql (.t 101) (.t 103)) 99 true ::
 J 105 (.pick (.t 99) (.t 104) (B false)) ::
 M 106 105 ::
 H 107 (.fld 21 (.t 2)) 106 true ::
 H 108 (.load (some 2) (.t 107)) 106 true ::
 H 109 (.fld 21 (.t 3)) 106 true ::
 H 110 (.load (some 2) (.t 109)) 106 true ::
 H 111 (.eqv false [true, true] (.t 108) (.t 110)) 106 true ::
 J 112 (.pick (.t 106) (.t 111) (B false)) ::
 M 113 112 ::
 H 114 (.fld 23 (.t 2)) 113 true ::
 H 115 (.load (some 2) (.t 114)) 113 true ::
 H 116 (.fld 23 (.t 3)) 113 true ::
 H 117 (.load (some 2) (.t 116)) 113 true ::
 H 118 (.eqv false [true, true] (.t 115) (.t 117)) 113 true ::
 J 119 (.pick (.t 113) (.t 118) (B false)) ::
 M 120 119 ::
 H 121 (.fld 25 (.t 2)) 120 true ::
 H 122 (.load none (.t 121)) 120 true ::
 H 123 (.fld 25 (.t 3)) 120 true ::
 H 124 (.load none (.t 123)) 120 true ::
 H 125 (.bin .eql (.t 122) (.t 124)) 120 true ::
 J 126 (.pick (.t 120) (.t 125) (B false)) ::
 M 127 126 ::
 H 128 (.fld 26 (.t 2)) 127 true ::
 H 129 (.load none (.t 128)) 127 true ::
 H 130 (.fld 26 (.t 3)) 127 true ::
 H 131 (.load none (.t 130)) 127 true ::
 H 132 (.bin .eql (.t 129) (.t 131)) 127 true ::
 J 133 (.pick (.t 127) (.t 132) (B false)) ::
 M 134 133 ::
 H 135 (.fld 27 (.t 2)) 134 true ::
 H 136 (.load none (.t 135)) 134 true ::
 H 137 (.fld 27 (.t 3)) 134 true ::
 H 138 (.load none (.t 137)) 134 true ::
 H 139 (.bin .eql (.t 136) (.t 138)) 134 true ::
 J 140 (.pick (.t 134) (.t 139) (B false)) ::
 M 4 140 :: []) 111)
.ret))))
def rv : List RV := [.tmp 4]
theorem enter : En Tryd.prog 36 141 s rv := En.mk (c := Tryd.f36.body.getD .ret) Tryd.func36 rfl (by kernel_rfl) (by kernel_rfl) (by kernel_rfl) (by kernel_rfl)
end ref05_Same
namespace ref11_Ahead
abbrev f : Nat := 37
def s : SCo := (.seq
(F [J 2 (.box 37 (.t 0)),
 J 3 (.box 37 (.t 1)),
 J 4 (.mv (B false))] 3)
(.seq
(.seq
(F [J 5 (.fld 10 (.t 2)),
 J 6 (.load none (.t 5)),
 J 7 (.fld 10 (.t 3)),
 J 8 (.load none (.t 7)),
 J 9 (.bin .neq (.t 6) (.t 8))] 5)
(.cond (.t 9)
(.seq
(F [J 10 (.fld 10 (.t 2)),
 J 11 (.load none (.t 10)),
 J 12 (.fld 10 (.t 3)),
 J 13 (.load none (.t 12)),
 J 14 (.bin .lss (.t 11) (.t 13)),
 M 4 14] 6)
.ret)
.skip))
(.seq
(.seq
(F [J 15 (.fld 0 (.t 2)),
 J 16 (.fld 0 (.t 15)),
 J 17 (.load none (.t 16)),
 J 18 (.fld 0 (.t 3)),
 J 19 (.fld 0 (.t 18)),
 J 20 (.load none (.t 19)),
 J 21 (.bin .neq (.t 17) (.t 20))] 7)
(.cond (.t 21)
(.seq
(F [J 22 (.fld 0 (.t 2)),
 J 23 (.fld 0 (.t 22)),
 J 24 (.load none (.t 23)),
 J 25 (.fld 0 (.t 3)),
 J 26 (.fld 0 (.t 25)),
 J 27 (.load none (.t 26)),
 J 28 (.bin .lss (.t 24) (.t 27)),
 M 4 28] 8)
.ret)
.skip))
(.seq
(F [J 29 (.fld 0 (.t 2)),
 J 30 (.fld 1 (.t 29)),
 J 31 (.load none (.t 30)),
 J 32 (.fld 0 (.t 3)),
 J 33 (.fld 1 (.t 32)),
 J 34 (.load none (.t 33)),
 J 35 (.bin .lss (.t 31) (.t 34)),
 M 4 35] 8)
.ret))))
def rv : List RV := [.tmp 4]
theorem enter : En Tryd.prog 37 36 s rv := En.mk (c := Tryd.f37.body.getD .ret) Tryd.func37 rfl (by kernel_rfl) (by kernel_rfl) (by kernel_rfl) (by kernel_rfl)
end ref11_Ahead
namespace ref05_Check
abbrev f : Nat := 39
def s : SCo := (.seq
(F [J 2 (.box 37 (.t 0)),
 J 4 (.mv (Z 0))] 2)
(.seq
(.seq
(F [M 7 1,
 J 8 (.bin .lss (.t 7) (Z 1)),
 M 9 8,
 G 10 1 9 false,
 H 11 (.bin .gtr (.t 10) (Z 8)) 9 false,
 J 12 (.pick (.t 9) (B true) (.t 11))] 6)
(.cond (.t 12)
(.seq
(F [J 4 (.mv (Z 2))] 1)
.ret)
.skip))
(.seq
(.seq
(.reg (J 13 (.fld 0 (.t 2)) ::
 J 14 (.fld 0 (.t 13)) ::
 J 15 (.load none (.t 14)) ::
 J 16 (.conv .i64 (.t 15)) ::
 M 17 1 ::
 J 18 (.bin .geq (.t 16) (.t 17)) ::
 M 19 18 ::
 H 20 (.fld 0 (.t 2)) 19 false ::
 H 21 (.fld 1 (.t 20)) 19 false ::
 H 22 (.load none (.t 21)) 19 false ::
 H 23 (.bin .eql (.t 22) (.k (b32 0))) 19 false ::
 J 24 (.pick (.t 19) (B true) (.t 23)) ::
 M 25 24 ::
 H 26 (.fld 0 (.t 2)) 25 false ::
 H 27 (.fld 0 (.t 26)) 25 false ::
 H 28 (.load none (.t 27)) 25 false ::
 H 29 (.fld 2 (.t 2)) 25 false ::
 H 30 (.idxA 8 1 (.t 29) (.t 28)) 25 false ::
 H 31 (.load none (.t 30)) 25 false ::
 H 32 (.fld 0 (.t 2)) 25 false ::
 H 33 (.fld 1 (.t 32)) 25 false ::
 H 34 (.load none (.t 33)) 25 false ::
 H 35 (.bin .sub (.t 34) (.k (b32 1))) 25 false ::
 H 36 (.bin .neq (.t 31) (.t 35)) 25 false ::
 J 37 (.pick (.t 25) (B true) (.t 36)) ::
 M 38 37 ::
 H 39 (.fld 10 (.t 2)) 38 false ::
 H 40 (.load none (.t 39)) 38 false ::
 H 41 (.bin .lss (.t 40) (.k (b64 1))) 38 false ::
 J 42 (.pick (.t 38) (B true) (.t 41)) ::
 M 43 42 ::
 H 44 (.fld 10 (.t 2)) 43 false ::
 H 45 (.load none (.t 44)) 43 false ::
 H 46 (.bin .gtr (.t 45) (.k (b64 281474976710656))) 43 false ::
 J 47 (.pick (.t 43) (B true) (.t 46)) ::
 M 48 47 ::
 H 49 (.fld 11 (.t 2)) 48 false ::
 H 50 (.load none (.t 49)) 48 false ::
 H 51 (.bin .eql (.t 50) (.k (b32 0))) 48 false ::
 J 52 (.pick (.t 48) (B true) (.t 51)) ::
 M 53 52 ::
 H 54 (.fld 14 (.t 2)) 53 false ::
 H 55 (.load none (.t 54)) 53 false ::
 H 56 (.bin .gtr (.t 55) (.k (b8 8))) 53 false ::
 J 57 (.pick (.t 53) (B true) (.t 56)) ::
 M 58 57 ::
 H 59 (.load (some 29) (.t 2)) 58 false ::
 H 60 (.call (C 58) [(.t 59)]) 58 false ::
 H 61 (.not (.t 60)) 58 false ::
 J 62 (.pick (.t 58) (B true) (.t 61)) :: []) (0 ::
1 ::
3 ::
7 ::
0 ::
31 ::
63 ::
127 ::
255 ::
511 ::
1023 ::
2047 ::
4095 ::
8191 ::
16383 ::
32767 ::
8191 ::
131071 ::
262143 ::
8191 ::
532479 ::
1581055 ::
3678207 ::
8388607 ::
16777215 ::
33554431 ::
67108863 ::
134217727 ::
268435455 ::
536870911 ::
1073741823 ::
2147483647 ::
4294967295 ::
8589934591 ::
17179869183 ::
34359738367 ::
68719476735 ::
137438953471 ::
274877906943 ::
549755813887 ::
1099511627775 ::
2199023255551 ::
4398046511103 ::
8796093022207 ::
17592186044415 ::
35184372088831 ::
70368744177663 ::
140737488355327 ::
281474976710655 ::
562949953421311 :: []) true)
(.cond (.t 62)
(.seq
(F [J 4 (.mv (Z 5))] 1)
.ret)
.skip))
(.seq
(.seq
(F [M 63 1,
 M 5 63] 2)
(.block 0
(.loop
(.seq
(.seq
(F [M 64 5,
 J 65 (.bin .lss (.t 64) (Z 8))] 2)
(.cond (.t 65)
.skip
(.exit 0)))
(.seq
(.block 1
(.seq
(F [M 68 5,
 J 69 (.fld 2 (.t 2)),
 J 70 (.idxA 8 1 (.t 69) (.t 68)),
 J 71 (.load none (.t 70)),
 J 72 (.bin .neq (.t 71) (.k (b32 0)))] 5)
(.cond (.t 72)
(.seq
(F [J 4 (.mv (Z 5))] 1)
.ret)
.skip)))
(F [M 66 5,
 J 67 (.bin .add (.t 66) (Z 1)),
 M 5 67] 3))))))
(.seq
(F [J 73 (.fld 14 (.t 2)),
 J 74 (.load none (.t 73)),
 J 75 (.call (C 59) [(.t 74)]),
 M 6 75] 4)
(.seq
(.seq
(F (J 76 (.fld 14 (.t 2)) ::
 J 77 (.load none (.t 76)) ::
 J 78 (.bin .eql (.t 77) (.k (b8 0))) ::
 M 79 78 ::
 H 80 (.fld 12 (.t 2)) 79 true ::
 H 81 (.load (some 2) (.t 80)) 79 true ::
 H 82 (.fld 0 (.t 2)) 79 true ::
 H 83 (.load (some 2) (.t 82)) 79 true ::
 H 84 (.eqv true [true, true] (.t 81) (.t 83)) 79 true ::
 J 85 (.pick (.t 79) (.t 84) (B false)) ::
 M 86 85 ::
 H 87 (.fld 14 (.t 2)) 86 false ::
 H 88 (.load none (.t 87)) 86 false ::
 H 89 (.bin .neq (.t 88) (.k (b8 0))) 86 false ::
 G 90 89 86 false ::
 H 91 (.load (some 29) (.t 2)) 90 true ::
 H 92 (.fld 12 (.t 2)) 90 true ::
 H 93 (.load (some 2) (.t 92)) 90 true ::
 H 94 (.call (C 60) [(.t 91), (.t 93)]) 90 true ::
 H 95 (.not (.t 94)) 90 true ::
 H 96 (.pick (.t 90) (.t 95) (B false)) 86 false ::
 J 97 (.pick (.t 86) (B true) (.t 96)) ::
 M 98 97 ::
 G 99 6 98 false ::
 H 100 (.call (C 61) [(.t 99), (.k (b8 99))]) 98 false ::
 G 101 100 98 false ::
 H 102 (.load (some 29) (.t 2)) 101 true ::
 H 103 (.fld 15 (.t 2)) 101 true ::
 H 104 (.load (some 2) (.t 103)) 101 true ::
 H 105 (.call (C 60) [(.t 102), (.t 104)]) 101 true ::
 H 106 (.not (.t 105)) 101 true ::
 H 107 (.pick (.t 101) (.t 106) (B false)) 98 false ::
 J 108 (.pick (.t 98) (B true) (.t 107)) ::
 M 109 108 ::
 G 110 6 109 false ::
 H 111 (.call (C 61) [(.t 110), (.k (b8 97))]) 109 false ::
 G 112 111 109 false ::
 H 113 (.load (some 29) (.t 2)) 112 true ::
 H 114 (.fld 21 (.t 2)) 112 true ::
 H 115 (.load (some 2) (.t 114)) 112 true ::
 H 116 (.call (C 60) [(.t 113), (.t 115)]) 112 true ::
 H 117 (.not (.t 116)) 112 true ::
 H 118 (.pick (.t 112) (.t 117) (B false)) 109 false ::
 J 119 (.pick (.t 109) (B true) (.t 118)) ::
 M 120 119 ::
 G 121 6 120 false ::
 H 122 (.call (C 61) [(.t 121), (.k (b8 118))]) 120 false ::
 G 123 122 120 false ::
 H 124 (.load (some 29) (.t 2)) 123 true ::
 H 125 (.fld 23 (.t 2)) 123 true ::
 H 126 (.load (some 2) (.t 125)) 123 true ::
 H 127 (.call (C 60) [(.t 124), (.t 126)]) 123 true ::
 H 128 (.not (.t 127)) 123 true ::
 H 129 (.pick (.t 123) (.t 128) (B false)) 120 false ::
 J 130 (.pick (.t 120) (B true) (.t 129)) :: []) 55)
(.cond (.t 130)
(.seq
(F [J 4 (.mv (Z 5))] 1)
.ret)
.skip))
(.seq
(.seq
(F (M 131 6 ::
 J 132 (.call (C 61) [(.t 131), (.k (b8 116))]) ::
 M 133 132 ::
 H 134 (.fld 17 (.t 2)) 133 true ::
 H 135 (.load none (.t 134)) 133 true ::
 H 136 (.bin .eql (.t 135) (.k (b32 0))) 133 true ::
 G 137 136 133 true ::
 H 138 (.fld 18 (.t 2)) 137 false ::
 H 139 (.load none (.t 138)) 137 false ::
 H 140 (.bin .lss (.t 139) (.k (b8 1))) 137 false ::
 H 141 (.pick (.t 137) (B true) (.t 140)) 133 true ::
 G 142 141 133 true ::
 H 143 (.fld 18 (.t 2)) 142 false ::
 H 144 (.load none (.t 143)) 142 false ::
 H 145 (.bin .gtr (.t 144) (.k (b8 7))) 142 false ::
 H 146 (.pick (.t 142) (B true) (.t 145)) 133 true ::
 G 147 146 133 true ::
 H 148 (.fld 19 (.t 2)) 147 false ::
 H 149 (.load none (.t 148)) 147 false ::
 H 150 (.bin .gtr (.t 149) (.k (b8 7))) 147 false ::
 H 151 (.pick (.t 147) (B true) (.t 150)) 133 true ::
 G 152 151 133 true ::
 H 153 (.fld 20 (.t 2)) 152 false ::
 H 154 (.load none (.t 153)) 152 false ::
 H 155 (.bin .gtr (.t 154) (.k (b64 1099511627776))) 152 false ::
 H 156 (.pick (.t 152) (B true) (.t 155)) 133 true ::
 J 157 (.pick (.t 133) (.t 156) (B false)) ::
 M 158 157 ::
 G 159 6 158 false ::
 H 160 (.call (C 61) [(.t 159), (.k (b8 113))]) 158 false ::
 G 161 160 158 false ::
 H 162 (.fld 26 (.t 2)) 161 true ::
 H 163 (.load none (.t 162)) 161 true ::
 H 164 (.bin .lss (.t 163) (.k (b32 1))) 161 true ::
 G 165 164 161 true ::
 H 166 (.fld 26 (.t 2)) 165 false ::
 H 167 (.load none (.t 166)) 165 false ::
 H 168 (.bin .gtr (.t 167) (.k (b32 65535))) 165 false ::
 H 169 (.pick (.t 165) (B true) (.t 168)) 161 true ::
 H 170 (.pick (.t 161) (.t 169) (B false)) 158 false ::
 J 171 (.pick (.t 158) (B true) (.t 170)) ::
 M 172 171 ::
 H 173 (.fld 27 (.t 2)) 172 false ::
 H 174 (.load none (.t 173)) 172 false ::
 H 175 (.bin .gtr (.t 174) (.k (b32 16777215))) 172 false ::
 J 176 (.pick (.t 172) (B true) (.t 175)) ::
 M 177 176 ::
 G 178 6 177 false ::
 H 179 (.call (C 61) [(.t 178), (.k (b8 108))]) 177 false ::
 G 180 179 177 false ::
 H 181 (.load (some 29) (.t 2)) 180 true ::
 H 182 (.call (C 62) [(.t 181)]) 180 true ::
 H 183 (.not (.t 182)) 180 true ::
 H 184 (.pick (.t 180) (.t 183) (B false)) 177 false ::
 J 185 (.pick (.t 177) (B true) (.t 184)) :: []) 55)
(.cond (.t 185)
(.seq
(F [J 4 (.mv (Z 5))] 1)
.ret)
.skip))
(.seq
(F [J 4 (.mv (Z 0))] 1)
.ret))))))))
def rv : List RV := [.tmp 4]
theorem enter : En Tryd.prog 39 186 s rv := En.mk (c := Tryd.f39.body.getD .ret) Tryd.func39 rfl (by kernel_rfl) (by kernel_rfl) (by kernel_rfl) (by kernel_rfl)
end ref05_Check
namespace ref11_there
abbrev f : Nat := 40
def s : SCo := (.seq
(F [J 2 (.box 48 (.t 0)),
 J 3 (.box 33 (.t 1)),
 J 4 (.mv (B false))] 3)
(.seq
(.seq
(F [J 5 (.mv (Z 0))] 1)
(.block 0
(.loop
(.seq
(.seq
(F [M 6 5,
 J 7 (.fld 9 (.t 2)),
 J 8 (.load none (.t 7)),
 J 9 (.len (.t 8)),
 J 10 (.bin .lss (.t 6) (.t 9))] 5)
(.cond (.t 10)
.skip
(.exit 0)))
(.seq
(.block 1
(.seq
(.reg [J 13 (.fld 9 (.t 2)),
 J 14 (.load none (.t 13)),
 M 15 5,
 J 16 (.idxS 29 (.t 14) (.t 15)),
 J 17 (.fld 0 (.t 16)),
 J 18 (.load (some 2) (.t 17)),
 J 19 (.load (some 2) (.t 3)),
 J 20 (.eqv false [true, true] (.t 18) (.t 19))] [0,
1,
0,
7,
15,
31,
0,
127] true)
(.cond (.t 20)
(.seq
(F [J 4 (.mv (B true))] 1)
.ret)
.skip)))
(F [M 11 5,
 J 12 (.bin .add (.t 11) (Z 1)),
 M 5 12] 3))))))
(.seq
(.reg [J 21 (.fld 0 (.t 3)),
 J 22 (.load none (.t 21)),
 J 23 (.fld 1 (.t 2)),
 J 24 (.idxA 8 1 (.t 23) (.t 22)),
 J 25 (.load none (.t 24)),
 J 26 (.fld 1 (.t 3)),
 J 27 (.load none (.t 26)),
 J 28 (.bin .geq (.t 25) (.t 27)),
 M 4 28] [0,
1,
0,
7,
15,
0,
32,
127,
255] true)
.ret)))
def rv : List RV := [.tmp 4]
theorem enter : En Tryd.prog 40 29 s rv := En.mk (c := Tryd.f40.body.getD .ret) Tryd.func40 rfl (by kernel_rfl) (by kernel_rfl) (by kernel_rfl) (by kernel_rfl)
end ref11_there
namespace ref11_next
abbrev f : Nat := 41
def s : SCo := (.seq
(F [J 1 (.box 48 (.t 0)),
 J 2 (.mv (Z 0))] 2)
(.seq
(F [J 3 (.mv (.k (.d (.int .i64 (-1)))))] 1)
(.seq
(.seq
(F [J 4 (.mv (Z 0))] 1)
(.block 0
(.loop
(.seq
(.seq
(F [M 5 4,
 J 6 (.fld 9 (.t 1)),
 J 7 (.load none (.t 6)),
 J 8 (.len (.t 7)),
 J 9 (.bin .lss (.t 5) (.t 8))] 5)
(.cond (.t 9)
.skip
(.exit 0)))
(.seq
(.block 1
(.seq
(.reg (J 12 (.load (some 10) (.t 1)) ::
 J 13 (.fld 9 (.t 1)) ::
 J 14 (.load none (.t 13)) ::
 M 15 4 ::
 J 16 (.idxS 29 (.t 14) (.t 15)) ::
 J 17 (.load (some 29) (.t 16)) ::
 J 18 (.call (C 63) [(.t 12), (.t 17)]) ::
 M 19 18 ::
 G 20 3 19 true ::
 H 21 (.bin .lss (.t 20) (Z 0)) 19 true ::
 G 22 21 19 true ::
 H 23 (.fld 9 (.t 1)) 22 false ::
 H 24 (.load none (.t 23)) 22 false ::
 G 25 4 22 false ::
 H 26 (.idxS 29 (.t 24) (.t 25)) 22 false ::
 H 27 (.load (some 29) (.t 26)) 22 false ::
 H 28 (.fld 9 (.t 1)) 22 false ::
 H 29 (.load none (.t 28)) 22 false ::
 G 30 3 22 false ::
 H 31 (.idxS 29 (.t 29) (.t 30)) 22 false ::
 H 32 (.load (some 29) (.t 31)) 22 false ::
 H 33 (.call (C 37) [(.t 27), (.t 32)]) 22 false ::
 H 34 (.pick (.t 22) (B true) (.t 33)) 19 true ::
 J 35 (.pick (.t 19) (.t 34) (B false)) :: []) (0 ::
0 ::
2 ::
0 ::
14 ::
30 ::
63 ::
127 ::
255 ::
511 ::
1023 ::
2047 ::
4095 ::
2047 ::
16383 ::
32767 ::
2047 ::
67583 ::
2047 ::
460799 ::
985087 ::
2097151 ::
4194303 ::
8388607 :: []) true)
(.cond (.t 35)
(F [M 36 4,
 M 3 36] 2)
.skip)))
(F [M 10 4,
 J 11 (.bin .add (.t 10) (Z 1)),
 M 4 11] 3))))))
(.seq
(F [M 37 3,
 M 2 37] 2)
.ret))))
def rv : List RV := [.tmp 2]
theorem enter : En Tryd.prog 41 38 s rv := En.mk (c := Tryd.f41.body.getD .ret) Tryd.func41 rfl (by kernel_rfl) (by kernel_rfl) (by kernel_rfl) (by kernel_rfl)
end ref11_next
namespace order_indexOf
end order_indexOf
namespace vector_Count
end vector_Count
namespace order_index_fits
end order_index_fits
namespace slices_IndexFunc_Luint32_uint32
abbrev f : Nat := 45
def s : SCo := (.seq
(F [J 4 (.mv (Z 0))] 1)
(.seq
(.seq
(F [M 6 0,
 J 7 (.len (.t 6)),
 J 8 (.mv (Z 0))] 3)
(.block 0
(.loop
(.seq
(F [J 9 (.bin .lss (.t 8) (.t 7))] 1)
(.seq
(.cond (.t 9)
.skip
(.exit 0))
(.seq
(.block 1
(.seq
(F [M 10 8,
 M 5 10] 2)
(.seq
(F [M 11 1,
 M 12 0,
 M 13 5,
 J 14 (.idxS 1 (.t 12) (.t 13)),
 J 15 (.load none (.t 14)),
 J 16 (.call (.t 11) [(.t 15)])] 6)
(.cond (.t 16)
(.seq
(F [M 17 5,
 M 4 17] 2)
.ret)
.skip))))
(F [J 18 (.bin .add (.t 8) (Z 1)),
 M 8 18] 2)))))))
(.seq
(F [J 4 (.mv (.k (.d (.int .i64 (-1)))))] 1)
.ret)))
def rv : List RV := [.tmp 4]
theorem enter : En Tryd.prog 45 19 s rv := En.mk (c := Tryd.f45.body.getD .ret) Tryd.func45 rfl (by kernel_rfl) (by kernel_rfl) (by kernel_rfl) (by kernel_rfl)
end slices_IndexFunc_Luint32_uint32
namespace op_head
abbrev f : Nat := 46
def s : SCo := (.seq
(F [J 2 (.box 37 (.t 0)),
 J 4 (.mv (B false))] 2)
(.seq
(.seq
(.reg (J 6 (.fld 0 (.t 2)) ::
 J 7 (.fld 0 (.t 6)) ::
 J 8 (.load none (.t 7)) ::
 J 9 (.conv .i64 (.t 8)) ::
 M 10 1 ::
 J 11 (.bin .geq (.t 9) (.t 10)) ::
 M 12 11 ::
 H 13 (.fld 0 (.t 2)) 12 false ::
 H 14 (.fld 1 (.t 13)) 12 false ::
 H 15 (.load none (.t 14)) 12 false ::
 H 16 (.bin .eql (.t 15) (.k (b32 0))) 12 false ::
 J 17 (.pick (.t 12) (B true) (.t 16)) ::
 M 18 17 ::
 H 19 (.fld 0 (.t 2)) 18 false ::
 H 20 (.fld 0 (.t 19)) 18 false ::
 H 21 (.load none (.t 20)) 18 false ::
 H 22 (.fld 2 (.t 2)) 18 false ::
 H 23 (.idxA 8 1 (.t 22) (.t 21)) 18 false ::
 H 24 (.load none (.t 23)) 18 false ::
 H 25 (.fld 0 (.t 2)) 18 false ::
 H 26 (.fld 1 (.t 25)) 18 false ::
 H 27 (.load none (.t 26)) 18 false ::
 H 28 (.bin .sub (.t 27) (.k (b32 1))) 18 false ::
 H 29 (.bin .neq (.t 24) (.t 28)) 18 false ::
 J 30 (.pick (.t 18) (B true) (.t 29)) :: []) (0 ::
1 ::
3 ::
7 ::
0 ::
31 ::
63 ::
127 ::
255 ::
511 ::
1023 ::
2047 ::
4095 ::
8191 ::
16383 ::
32767 ::
8191 ::
131071 ::
262143 ::
8191 ::
532479 ::
1581055 ::
3678207 ::
8388607 ::
16777215 :: []) true)
(.cond (.t 30)
(.seq
(F [J 4 (.mv (B false))] 1)
.ret)
.skip))
(.seq
(F [J 31 (.bld z8 []),
 J 5 (.alloc 29 z8),
 N (.store 8 (.t 5) (.t 31))] 3)
(.seq
(.reg [M 32 1,
 J 33 (.slcA 8 1 (.t 5) none (some (.t 32))),
 J 34 (.fld 2 (.t 2)),
 M 35 1,
 J 36 (.slcA 8 1 (.t 34) none (some (.t 35))),
 J 37 (.copy 27 1 (.t 33) (.t 36))] [0,
1,
0,
0,
12,
31] true)
(.seq
(F (J 38 (.load (some 8) (.t 5)) ::
 J 39 (.fld 2 (.t 2)) ::
 J 40 (.load (some 8) (.t 39)) ::
 J 41 (.eqv false [true, true, true, true, true, true, true, true] (.t 38) (.t 40)) ::
 M 42 41 ::
 H 43 (.fld 10 (.t 2)) 42 true ::
 H 44 (.load none (.t 43)) 42 true ::
 H 45 (.bin .gtr (.t 44) (.k (b64 0))) 42 true ::
 J 46 (.pick (.t 42) (.t 45) (B false)) ::
 M 47 46 ::
 H 48 (.fld 10 (.t 2)) 47 true ::
 H 49 (.load none (.t 48)) 47 true ::
 H 50 (.bin .leq (.t 49) (.k (b64 281474976710656))) 47 true ::
 J 51 (.pick (.t 47) (.t 50) (B false)) ::
 M 52 51 ::
 H 53 (.fld 11 (.t 2)) 52 true ::
 H 54 (.load none (.t 53)) 52 true ::
 H 55 (.bin .gtr (.t 54) (.k (b32 0))) 52 true ::
 J 56 (.pick (.t 52) (.t 55) (B false)) ::
 M 57 56 ::
 H 58 (.fld 14 (.t 2)) 57 true ::
 H 59 (.load none (.t 58)) 57 true ::
 H 60 (.bin .leq (.t 59) (.k (b8 8))) 57 true ::
 J 61 (.pick (.t 57) (.t 60) (B false)) ::
 M 4 61 :: []) 25)
.ret)))))
def rv : List RV := [.tmp 4]
theorem enter : En Tryd.prog 46 62 s rv := En.mk (c := Tryd.f46.body.getD .ret) Tryd.func46 rfl (by kernel_rfl) (by kernel_rfl) (by kernel_rfl) (by kernel_rfl)
end op_head
namespace op_Same
abbrev f : Nat := 47
def s : SCo := (.seq
(F [J 2 (.box 37 (.t 0)),
 J 3 (.box 37 (.t 1)),
 J 4 (.mv (B false))] 3)
(.seq
(.reg [J 5 (.load (some 29) (.t 2)),
 J 6 (.call (C 65) [(.t 5)]),
 J 7 (.load (some 29) (.t 3)),
 J 8 (.call (C 65) [(.t 7)]),
 J 9 (.eqv false [true, true, true, true, true, true, true, true, true, true, true, true, true, true, true, true, true, true, true, true, true, true, true, true, true, true, true, true] (.t 6) (.t 8)),
 M 10 9,
 H 11 (.fld 28 (.t 2)) 10 true,
 H 12 (.load none (.t 11)) 10 true,
 H 13 (.fld 28 (.t 3)) 10 true,
 H 14 (.load none (.t 13)) 10 true,
 H 15 (.call (C 66) [(.t 12), (.t 14)]) 10 true,
 J 16 (.pick (.t 10) (.t 15) (B false)),
 M 4 16] [0,
1,
0,
7,
15,
31,
63,
127,
63,
319,
1023,
2047,
4095] true)
.ret))
def rv : List RV := [.tmp 4]
theorem enter : En Tryd.prog 47 17 s rv := En.mk (c := Tryd.f47.body.getD .ret) Tryd.func47 rfl (by kernel_rfl) (by kernel_rfl) (by kernel_rfl) (by kernel_rfl)
end op_Same
namespace op_bare
abbrev f : Nat := 48
def s : SCo := (.seq
(F [J 1 (.box 37 (.t 0)),
 J 2 (.alloc 37 z29)] 2)
(.seq
(F [J 4 (.fld 14 (.t 1)),
 J 5 (.load none (.t 4)),
 J 6 (.idxA 9 1 (.k (.vp [(.int .u8 0), (.int .u8 3), (.int .u8 5), (.int .u8 49), (.int .u8 37), (.int .u8 5), (.int .u8 13), (.int .u8 13), (.int .u8 65)] 0)) (.t 5)),
 J 7 (.load none (.t 6)),
 M 3 7] 5)
(.seq
(.seq
(F [M 8 3,
 J 9 (.bin .and (.t 8) (.k (b8 1))),
 J 10 (.bin .eql (.t 9) (.k (b8 0)))] 3)
(.cond (.t 10)
(F [J 11 (.bld [b8 0, b32 0] []),
 J 12 (.fld 15 (.t 1)),
 N (.store 2 (.t 12) (.t 11))] 3)
.skip))
(.seq
(.seq
(F [M 13 3,
 J 14 (.bin .and (.t 13) (.k (b8 2))),
 J 15 (.bin .eql (.t 14) (.k (b8 0)))] 3)
(.cond (.t 15)
(F [J 16 (.fld 17 (.t 1)),
 N (.store 1 (.t 16) (.k (b32 0))),
 J 17 (.fld 18 (.t 1)),
 N (.store 1 (.t 17) (.k (b8 0))),
 J 18 (.fld 19 (.t 1)),
 N (.store 1 (.t 18) (.k (b8 0))),
 J 19 (.fld 20 (.t 1)),
 N (.store 1 (.t 19) (.k (b64 0)))] 8)
.skip))
(.seq
(.seq
(F [M 20 3,
 J 21 (.bin .and (.t 20) (.k (b8 4))),
 J 22 (.bin .eql (.t 21) (.k (b8 0)))] 3)
(.cond (.t 22)
(F [J 23 (.bld [b8 0, b32 0] []),
 J 24 (.fld 21 (.t 1)),
 N (.store 2 (.t 24) (.t 23))] 3)
.skip))
(.seq
(.seq
(F [M 25 3,
 J 26 (.bin .and (.t 25) (.k (b8 8))),
 J 27 (.bin .eql (.t 26) (.k (b8 0)))] 3)
(.cond (.t 27)
(F [J 28 (.bld [b8 0, b32 0] []),
 J 29 (.fld 23 (.t 1)),
 N (.store 2 (.t 29) (.t 28))] 3)
.skip))
(.seq
(.seq
(F [M 30 3,
 J 31 (.bin .and (.t 30) (.k (b8 16))),
 J 32 (.bin .eql (.t 31) (.k (b8 0)))] 3)
(.cond (.t 32)
(F [J 33 (.fld 25 (.t 1)),
 N (.store 1 (.t 33) (.k (b32 0))),
 J 34 (.fld 27 (.t 1)),
 N (.store 1 (.t 34) (.k (b32 0)))] 4)
.skip))
(.seq
(.seq
(F [M 35 3,
 J 36 (.bin .and (.t 35) (.k (b8 32))),
 J 37 (.bin .eql (.t 36) (.k (b8 0)))] 3)
(.cond (.t 37)
(F [J 38 (.fld 26 (.t 1)),
 N (.store 1 (.t 38) (.k (b32 0)))] 2)
.skip))
(.seq
(.seq
(F [M 39 3,
 J 40 (.bin .and (.t 39) (.k (b8 64))),
 J 41 (.bin .eql (.t 40) (.k (b8 0)))] 3)
(.cond (.t 41)
(F [J 42 (.fld 28 (.t 1)),
 N (.store 1 (.t 42) (.k (.d .nils)))] 2)
.skip))
(.seq
(F [J 43 (.load (some 29) (.t 1)),
 N (.store 29 (.t 2) (.t 43))] 2)
.ret))))))))))
def rv : List RV := [.cell 2 (some 29)]
theorem enter : En Tryd.prog 48 44 s rv := En.mk (c := Tryd.f48.body.getD .ret) Tryd.func48 rfl (by kernel_rfl) (by kernel_rfl) (by kernel_rfl) (by kernel_rfl)
end op_bare
namespace op_right
abbrev f : Nat := 49
def s : SCo := (.seq
(F [J 1 (.box 37 (.t 0)),
 J 2 (.mv (B false))] 2)
(.seq
(F [J 6 (.fld 14 (.t 1)),
 J 7 (.load none (.t 6)),
 J 8 (.idxA 9 1 (.k (.vp [(.int .u8 0), (.int .u8 3), (.int .u8 5), (.int .u8 49), (.int .u8 37), (.int .u8 5), (.int .u8 13), (.int .u8 13), (.int .u8 65)] 0)) (.t 7)),
 J 9 (.load none (.t 8)),
 J 3 (.alloc 5 [b8 0]),
 N (.store 1 (.t 3) (.t 9))] 6)
(.seq
(F [J 10 (.mkf (.func 67) [] [(.t 3)]),
 M 4 10] 2)
(.seq
(F (J 11 (.fld 14 (.t 1)) ::
 J 12 (.load none (.t 11)) ::
 J 13 (.bin .eql (.t 12) (.k (b8 0))) ::
 M 14 13 ::
 H 15 (.fld 12 (.t 1)) 14 true ::
 H 16 (.load (some 2) (.t 15)) 14 true ::
 H 17 (.fld 0 (.t 1)) 14 true ::
 H 18 (.load (some 2) (.t 17)) 14 true ::
 H 19 (.eqv false [true, true] (.t 16) (.t 18)) 14 true ::
 J 20 (.pick (.t 14) (.t 19) (B false)) ::
 M 21 20 ::
 H 22 (.fld 14 (.t 1)) 21 false ::
 H 23 (.load none (.t 22)) 21 false ::
 H 24 (.bin .neq (.t 23) (.k (b8 0))) 21 false ::
 G 25 24 21 false ::
 H 26 (.load (some 29) (.t 1)) 25 true ::
 H 27 (.fld 12 (.t 1)) 25 true ::
 H 28 (.load (some 2) (.t 27)) 25 true ::
 H 29 (.call (C 68) [(.t 26), (.t 28)]) 25 true ::
 H 30 (.pick (.t 25) (.t 29) (B false)) 21 false ::
 J 31 (.pick (.t 21) (B true) (.t 30)) ::
 M 5 31 :: []) 22)
(.seq
(F (M 32 5 ::
 M 33 32 ::
 G 34 4 33 true ::
 H 35 (.load (some 29) (.t 1)) 33 true ::
 H 36 (.fld 15 (.t 1)) 33 true ::
 H 37 (.load (some 2) (.t 36)) 33 true ::
 H 38 (.call (C 68) [(.t 35), (.t 37)]) 33 true ::
 H 39 (.call (.t 34) [(.k (b8 1)), (.t 38)]) 33 true ::
 J 40 (.pick (.t 33) (.t 39) (B false)) ::
 M 41 40 ::
 G 42 4 41 true ::
 H 43 (.load (some 29) (.t 1)) 41 true ::
 H 44 (.fld 21 (.t 1)) 41 true ::
 H 45 (.load (some 2) (.t 44)) 41 true ::
 H 46 (.call (C 68) [(.t 43), (.t 45)]) 41 true ::
 H 47 (.call (.t 42) [(.k (b8 4)), (.t 46)]) 41 true ::
 J 48 (.pick (.t 41) (.t 47) (B false)) ::
 M 49 48 ::
 G 50 4 49 true ::
 H 51 (.load (some 29) (.t 1)) 49 true ::
 H 52 (.fld 23 (.t 1)) 49 true ::
 H 53 (.load (some 2) (.t 52)) 49 true ::
 H 54 (.call (C 68) [(.t 51), (.t 53)]) 49 true ::
 H 55 (.call (.t 50) [(.k (b8 8)), (.t 54)]) 49 true ::
 J 56 (.pick (.t 49) (.t 55) (B false)) ::
 M 57 56 ::
 G 58 4 57 true ::
 H 59 (.fld 17 (.t 1)) 57 true ::
 H 60 (.load none (.t 59)) 57 true ::
 H 61 (.bin .gtr (.t 60) (.k (b32 0))) 57 true ::
 G 62 61 57 true ::
 H 63 (.fld 18 (.t 1)) 62 true ::
 H 64 (.load none (.t 63)) 62 true ::
 H 65 (.bin .gtr (.t 64) (.k (b8 0))) 62 true ::
 H 66 (.pick (.t 62) (.t 65) (B false)) 57 true ::
 G 67 66 57 true ::
 H 68 (.fld 18 (.t 1)) 67 true ::
 H 69 (.load none (.t 68)) 67 true ::
 H 70 (.bin .leq (.t 69) (.k (b8 7))) 67 true ::
 H 71 (.pick (.t 67) (.t 70) (B false)) 57 true ::
 G 72 71 57 true ::
 H 73 (.fld 19 (.t 1)) 72 true ::
 H 74 (.load none (.t 73)) 72 true ::
 H 75 (.bin .lss (.t 74) (.k (b8 8))) 72 true ::
 H 76 (.pick (.t 72) (.t 75) (B false)) 57 true ::
 G 77 76 57 true ::
 H 78 (.fld 20 (.t 1)) 77 true ::
 H 79 (.load none (.t 78)) 77 true ::
 H 80 (.bin .leq (.t 79) (.k (b64 1099511627776))) 77 true ::
 H 81 (.pick (.t 77) (.t 80) (B false)) 57 true ::
 H 82 (.call (.t 58) [(.k (b8 2)), (.t 81)]) 57 true ::
 J 83 (.pick (.t 57) (.t 82) (B false)) ::
 M 84 83 ::
 G 85 4 84 true ::
 H 86 (.fld 26 (.t 1)) 84 true ::
 H 87 (.load none (.t 86)) 84 true ::
 H 88 (.bin .gtr (.t 87) (.k (b32 0))) 84 true ::
 G 89 88 84 true ::
 H 90 (.fld 26 (.t 1)) 89 true ::
 H 91 (.load none (.t 90)) 89 true ::
 H 92 (.bin .leq (.t 91) (.k (b32 65535))) 89 true ::
 H 93 (.pick (.t 89) (.t 92) (B false)) 84 true ::
 H 94 (.call (.t 85) [(.k (b8 32)), (.t 93)]) 84 true ::
 J 95 (.pick (.t 84) (.t 94) (B false)) ::
 M 96 95 ::
 H 97 (.fld 27 (.t 1)) 96 true ::
 H 98 (.load none (.t 97)) 96 true ::
 H 99 (.bin .leq (.t 98) (.k (b32 16777215))) 96 true ::
 J 100 (.pick (.t 96) (.t 99) (B false)) ::
 M 101 100 ::
 G 102 4 101 true ::
 H 103 (.load (some 29) (.t 1)) 101 true ::
 H 104 (.call (C 69) [(.t 103)]) 101 true ::
 H 105 (.call (.t 102) [(.k (b8 64)), (.t 104)]) 101 true ::
 J 106 (.pick (.t 101) (.t 105) (B false)) ::
 M 2 106 :: []) 76)
.ret)))))
def rv : List RV := [.tmp 2]
theorem enter : En Tryd.prog 49 107 s rv := En.mk (c := Tryd.f49.body.getD .ret) Tryd.func49 rfl (by kernel_rfl) (by kernel_rfl) (by kernel_rfl) (by kernel_rfl)
end op_right
namespace dot_May
abbrev f : Nat := 50
def s : SCo := (.seq
(F [J 1 (.box 33 (.t 0)),
 J 2 (.mv (B false))] 2)
(.seq
(F [J 3 (.fld 0 (.t 1)),
 J 4 (.load none (.t 3)),
 J 5 (.bin .lss (.t 4) (.k (b8 8))),
 M 6 5,
 H 7 (.fld 1 (.t 1)) 6 true,
 H 8 (.load none (.t 7)) 6 true,
 H 9 (.bin .gtr (.t 8) (.k (b32 0))) 6 true,
 J 10 (.pick (.t 6) (.t 9) (B false)),
 M 2 10] 9)
.ret))
def rv : List RV := [.tmp 2]
theorem enter : En Tryd.prog 50 11 s rv := En.mk (c := Tryd.f50.body.getD .ret) Tryd.func50 rfl (by kernel_rfl) (by kernel_rfl) (by kernel_rfl) (by kernel_rfl)
end dot_May
namespace slices_Clone_Lapi_Claim_api_Claim
abbrev f : Nat := 51
def s : SCo := (.seq
(F [J 2 (.mv (.k (.d .nils)))] 1)
(.seq
(.seq
(F [M 3 0,
 J 4 (.eqnil false 3 (.t 3))] 2)
(.cond (.t 4)
(.seq
(F [J 2 (.mv (.k (.d .nils)))] 1)
.ret)
.skip))
(.seq
(F [J 5 (.bsl 88 4 0 [] []),
 M 6 0,
 J 7 (.app 88 4 16 (.t 5) (.t 6)),
 M 2 7] 4)
.ret)))
def rv : List RV := [.tmp 2]
theorem enter : En Tryd.prog 51 8 s rv := En.mk (c := Tryd.f51.body.getD .ret) Tryd.func51 rfl (by kernel_rfl) (by kernel_rfl) (by kernel_rfl) (by kernel_rfl)
end slices_Clone_Lapi_Claim_api_Claim
namespace slices_SortedFunc_api_Op
abbrev f : Nat := 52
def s : SCo := (.seq
(F [J 4 (.mv (.k (.d .nils)))] 1)
(.seq
(F [M 6 0,
 J 7 (.call (C 70) [(.t 6)]),
 M 5 7] 3)
(.seq
(F [M 8 5,
 M 9 1,
 J 10 (.call (C 71) [(.t 8), (.t 9)])] 3)
(.seq
(F [M 11 5,
 M 4 11] 2)
.ret))))
def rv : List RV := [.tmp 4]
theorem enter : En Tryd.prog 52 12 s rv := En.mk (c := Tryd.f52.body.getD .ret) Tryd.func52 rfl (by kernel_rfl) (by kernel_rfl) (by kernel_rfl) (by kernel_rfl)
end slices_SortedFunc_api_Op
namespace maps_Values_map_api_Dot_api_Op_api_Dot_api_Op
abbrev f : Nat := 53
def s : SCo := (.seq
(F [J 1 (.box 56 (.t 0)),
 J 2 (.mv (.k (.d .nilf)))] 2)
(.seq
(F [J 3 (.mkf (.func 72) [] [(.t 1)]),
 M 2 3] 2)
.ret))
def rv : List RV := [.tmp 2]
theorem enter : En Tryd.prog 53 4 s rv := En.mk (c := Tryd.f53.body.getD .ret) Tryd.func53 rfl (by kernel_rfl) (by kernel_rfl) (by kernel_rfl) (by kernel_rfl)
end maps_Values_map_api_Dot_api_Op_api_Dot_api_Op
namespace order_Compare
abbrev f : Nat := 54
def s : SCo := (.seq
(F [J 2 (.box 37 (.t 0)),
 J 3 (.box 37 (.t 1)),
 J 4 (.mv (Z 0))] 3)
(.seq
(.reg (J 5 (.fld 10 (.t 2)) ::
 J 6 (.load none (.t 5)) ::
 J 7 (.fld 10 (.t 3)) ::
 J 8 (.load none (.t 7)) ::
 J 9 (.call (C 74) [(.t 6), (.t 8)]) ::
 J 10 (.fld 0 (.t 2)) ::
 J 11 (.fld 0 (.t 10)) ::
 J 12 (.load none (.t 11)) ::
 J 13 (.fld 0 (.t 3)) ::
 J 14 (.fld 0 (.t 13)) ::
 J 15 (.load none (.t 14)) ::
 J 16 (.call (C 75) [(.t 12), (.t 15)]) ::
 J 17 (.fld 0 (.t 2)) ::
 J 18 (.fld 1 (.t 17)) ::
 J 19 (.load none (.t 18)) ::
 J 20 (.fld 0 (.t 3)) ::
 J 21 (.fld 1 (.t 20)) ::
 J 22 (.load none (.t 21)) ::
 J 23 (.call (C 76) [(.t 19), (.t 22)]) ::
 J 24 (.bsl 3 1 3 [i6 0, i6 0, i6 0] [(0, 1, (.t 9)), (1, 1, (.t 16)), (2, 1, (.t 23))]) ::
 J 25 (.call (C 73) [(.t 24)]) ::
 M 4 25 :: []) (0 ::
1 ::
0 ::
4 ::
15 ::
0 ::
32 ::
96 ::
0 ::
256 ::
768 ::
2047 ::
0 ::
4096 ::
12288 ::
0 ::
32768 ::
98304 ::
262143 ::
524287 ::
1048575 ::
2097151 :: []) true)
.ret))
def rv : List RV := [.tmp 4]
theorem enter : En Tryd.prog 54 26 s rv := En.mk (c := Tryd.f54.body.getD .ret) Tryd.func54 rfl (by kernel_rfl) (by kernel_rfl) (by kernel_rfl) (by kernel_rfl)
end order_Compare
namespace vector_Next
abbrev f : Nat := 55
def s : SCo := (.seq
(F [J 2 (.box 29 (.t 0)),
 J 4 (.alloc 33 [b8 0, b32 0]),
 J 5 (.mv (Z 0))] 3)
(.seq
(.block 0
(.seq
(F [M 7 1,
 J 8 (.conv .i64 (.t 7)),
 J 9 (.bin .geq (.t 8) (Z 8)),
 M 6 9] 4)
(.cond (.t 6)
(.seq
(F [J 10 (.bld [b8 0, b32 0] []),
 N (.store 2 (.t 4) (.t 10)),
 J 5 (.mv (Z 2))] 3)
.ret)
(.seq
(F [M 12 1,
 J 13 (.idxA 8 1 (.t 2) (.t 12)),
 J 14 (.load none (.t 13)),
 J 15 (.bin .add (.t 14) (.k (b32 1))),
 J 16 (.bin .eql (.t 15) (.k (b32 0))),
 M 11 16] 6)
(.cond (.t 11)
(.seq
(F [J 17 (.bld [b8 0, b32 0] []),
 N (.store 2 (.t 4) (.t 17)),
 J 5 (.mv (Z 6))] 3)
.ret)
.skip)))))
(.seq
(F [M 18 1,
 M 19 1,
 J 20 (.idxA 8 1 (.t 2) (.t 19)),
 J 21 (.load none (.t 20)),
 J 22 (.bin .add (.t 21) (.k (b32 1))),
 J 23 (.bld [b8 0, b32 0] [(0, 1, (.t 18)), (1, 1, (.t 22))]),
 N (.store 2 (.t 4) (.t 23)),
 J 5 (.mv (Z 0))] 8)
.ret)))
def rv : List RV := [.cell 4 (some 2), .tmp 5]
theorem enter : En Tryd.prog 55 24 s rv := En.mk (c := Tryd.f55.body.getD .ret) Tryd.func55 rfl (by kernel_rfl) (by kernel_rfl) (by kernel_rfl) (by kernel_rfl)
end vector_Next
namespace vector_Above
abbrev f : Nat := 56
def s : SCo := (.seq
(F [J 2 (.box 29 (.t 0)),
 J 3 (.box 29 (.t 1)),
 J 4 (.mv (B false))] 3)
(.seq
(.reg [J 5 (.load (some 8) (.t 2)),
 J 6 (.load (some 8) (.t 3)),
 J 7 (.bsl 29 8 2 [b32 0, b32 0, b32 0, b32 0, b32 0, b32 0, b32 0, b32 0, b32 0, b32 0, b32 0, b32 0, b32 0, b32 0, b32 0, b32 0] [(0, 8, (.t 5)), (8, 8, (.t 6))]),
 J 8 (.call (C 77) [(.t 7)]),
 J 9 (.load (some 8) (.t 2)),
 J 10 (.eqv false [true, true, true, true, true, true, true, true] (.t 8) (.t 9)),
 M 4 10] [0,
0,
3,
7,
0,
31,
63] true)
.ret))
def rv : List RV := [.tmp 4]
theorem enter : En Tryd.prog 56 11 s rv := En.mk (c := Tryd.f56.body.getD .ret) Tryd.func56 rfl (by kernel_rfl) (by kernel_rfl) (by kernel_rfl) (by kernel_rfl)
end vector_Above
namespace ref05_zero
abbrev f : Nat := 58
def s : SCo := (.seq
(F [J 1 (.box 37 (.t 0)),
 J 2 (.mv (B false))] 2)
(.seq
(F [J 5 (.fld 14 (.t 1)),
 J 6 (.load none (.t 5)),
 J 7 (.call (C 59) [(.t 6)]),
 M 3 7] 4)
(.seq
(F [J 8 (.bld [b8 0, b32 0] []),
 J 4 (.alloc 33 [b8 0, b32 0]),
 N (.store 2 (.t 4) (.t 8))] 3)
(.seq
(F (M 9 3 ::
 J 10 (.call (C 61) [(.t 9), (.k (b8 99))]) ::
 M 11 10 ::
 H 12 (.fld 15 (.t 1)) 11 false ::
 H 13 (.load (some 2) (.t 12)) 11 false ::
 H 14 (.load (some 2) (.t 4)) 11 false ::
 H 15 (.eqv false [true, true] (.t 13) (.t 14)) 11 false ::
 J 16 (.pick (.t 11) (B true) (.t 15)) ::
 M 17 16 ::
 G 18 3 17 true ::
 H 19 (.call (C 61) [(.t 18), (.k (b8 116))]) 17 true ::
 G 20 19 17 true ::
 H 21 (.fld 17 (.t 1)) 20 false ::
 H 22 (.load none (.t 21)) 20 false ::
 H 23 (.bin .eql (.t 22) (.k (b32 0))) 20 false ::
 H 24 (.pick (.t 20) (B true) (.t 23)) 17 true ::
 J 25 (.pick (.t 17) (.t 24) (B false)) ::
 M 26 25 ::
 G 27 3 26 true ::
 H 28 (.call (C 61) [(.t 27), (.k (b8 114))]) 26 true ::
 G 29 28 26 true ::
 H 30 (.fld 18 (.t 1)) 29 false ::
 H 31 (.load none (.t 30)) 29 false ::
 H 32 (.bin .eql (.t 31) (.k (b8 0))) 29 false ::
 H 33 (.pick (.t 29) (B true) (.t 32)) 26 true ::
 J 34 (.pick (.t 26) (.t 33) (B false)) ::
 M 35 34 ::
 G 36 3 35 true ::
 H 37 (.call (C 61) [(.t 36), (.k (b8 100))]) 35 true ::
 G 38 37 35 true ::
 H 39 (.fld 19 (.t 1)) 38 false ::
 H 40 (.load none (.t 39)) 38 false ::
 H 41 (.bin .eql (.t 40) (.k (b8 0))) 38 false ::
 H 42 (.pick (.t 38) (B true) (.t 41)) 35 true ::
 J 43 (.pick (.t 35) (.t 42) (B false)) ::
 M 44 43 ::
 G 45 3 44 true ::
 H 46 (.call (C 61) [(.t 45), (.k (b8 112))]) 44 true ::
 G 47 46 44 true ::
 H 48 (.fld 20 (.t 1)) 47 false ::
 H 49 (.load none (.t 48)) 47 false ::
 H 50 (.bin .eql (.t 49) (.k (b64 0))) 47 false ::
 H 51 (.pick (.t 47) (B true) (.t 50)) 44 true ::
 J 52 (.pick (.t 44) (.t 51) (B false)) ::
 M 53 52 ::
 G 54 3 53 true ::
 H 55 (.call (C 61) [(.t 54), (.k (b8 97))]) 53 true ::
 G 56 55 53 true ::
 H 57 (.fld 21 (.t 1)) 56 false ::
 H 58 (.load (some 2) (.t 57)) 56 false ::
 H 59 (.load (some 2) (.t 4)) 56 false ::
 H 60 (.eqv false [true, true] (.t 58) (.t 59)) 56 false ::
 H 61 (.pick (.t 56) (B true) (.t 60)) 53 true ::
 J 62 (.pick (.t 53) (.t 61) (B false)) ::
 M 63 62 ::
 G 64 3 63 true ::
 H 65 (.call (C 61) [(.t 64), (.k (b8 118))]) 63 true ::
 G 66 65 63 true ::
 H 67 (.fld 23 (.t 1)) 66 false ::
 H 68 (.load (some 2) (.t 67)) 66 false ::
 H 69 (.load (some 2) (.t 4)) 66 false ::
 H 70 (.eqv false [true, true] (.t 68) (.t 69)) 66 false ::
 H 71 (.pick (.t 66) (B true) (.t 70)) 63 true ::
 J 72 (.pick (.t 63) (.t 71) (B false)) ::
 M 73 72 ::
 G 74 3 73 true ::
 H 75 (.call (C 61) [(.t 74), (.k (b8 105))]) 73 true ::
 G 76 75 73 true ::
 H 77 (.fld 25 (.t 1)) 76 false ::
 H 78 (.load none (.t 77)) 76 false ::
 H 79 (.bin .eql (.t 78) (.k (b32 0))) 76 false ::
 H 80 (.pick (.t 76) (B true) (.t 79)) 73 true ::
 J 81 (.pick (.t 73) (.t 80) (B false)) ::
 M 82 81 ::
 G 83 3 82 true ::
 H 84 (.call (C 61) [(.t 83), (.k (b8 113))]) 82 true ::
 G 85 84 82 true ::
 H 86 (.fld 26 (.t 1)) 85 false ::
 H 87 (.load none (.t 86)) 85 false ::
 H 88 (.bin .eql (.t 87) (.k (b32 0))) 85 false ::
 H 89 (.pick (.t 85) (B true) (.t 88)) 82 true ::
 J 90 (.pick (.t 82) (.t 89) (B false)) ::
 M 91 90 ::
 G 92 3 91 true ::
 H 93 (.call (C 61) [(.t 92), (.k (b8 101))]) 91 true ::
 G 94 93 91 true ::
 H 95 (.fld 27 (.t 1)) 94 false ::
 H 96 (.load none (.t 95)) 94 false ::
 H 97 (.bin .eql (.t 96) (.k (b32 0))) 94 false ::
 H 98 (.pick (.t 94) (B true) (.t 97)) 91 true ::
 J 99 (.pick (.t 91) (.t 98) (B false)) ::
 M 100 99 ::
 G 101 3 100 true ::
 H 102 (.call (C 61) [(.t 101), (.k (b8 108))]) 100 true ::
 G 103 102 100 true ::
 H 104 (.fld 28 (.t 1)) 103 false ::
 H 105 (.load none (.t 104)) 103 false ::
 H 106 (.len (.t 105)) 103 false ::
 H 107 (.bin .eql (.t 106) (Z 0)) 103 false ::
 H 108 (.pick (.t 103) (B true) (.t 107)) 100 true ::
 J 109 (.pick (.t 100) (.t 108) (B false)) ::
 M 2 109 :: []) 102)
.ret))))
def rv : List RV := [.tmp 2]
theorem enter : En Tryd.prog 58 110 s rv := En.mk (c := Tryd.f58.body.getD .ret) Tryd.func58 rfl (by kernel_rfl) (by kernel_rfl) (by kernel_rfl) (by kernel_rfl)
end ref05_zero
namespace ref05_Has
abbrev f : Nat := 59
def s : SCo := (.seq
(F [J 2 (.mv (.k (.d (.str []))))] 1)
(.seq
(F [J 4 (.bsl 9 1 9 [(.d (.str [])), (.d (.str [])), (.d (.str [])), (.d (.str [])), (.d (.str [])), (.d (.str [])), (.d (.str [])), (.d (.str [])), (.d (.str []))] [(0, 1, (.k (.d (.str [])))), (1, 1, (.k (.d (.str [99, 116, 114, 100, 112])))), (2, 1, (.k (.d (.str [99, 97])))), (3, 1, (.k (.d (.str [99, 105, 113, 101])))), (4, 1, (.k (.d (.str [99, 97, 113])))), (5, 1, (.k (.d (.str [99, 97])))), (6, 1, (.k (.d (.str [99, 97, 118])))), (7, 1, (.k (.d (.str [99, 97, 118])))), (8, 1, (.k (.d (.str [99, 108]))))]),
 M 3 4] 2)
(.seq
(.seq
(F [M 5 0,
 J 6 (.conv .i64 (.t 5)),
 M 7 3,
 J 8 (.len (.t 7)),
 J 9 (.bin .geq (.t 6) (.t 8))] 5)
(.cond (.t 9)
(.seq
(F [J 2 (.mv (.k (.d (.str []))))] 1)
.ret)
.skip))
(.seq
(F [M 10 3,
 M 11 0,
 J 12 (.idxS 1 (.t 10) (.t 11)),
 J 13 (.load none (.t 12)),
 M 2 13] 5)
.ret))))
def rv : List RV := [.tmp 2]
theorem enter : En Tryd.prog 59 14 s rv := En.mk (c := Tryd.f59.body.getD .ret) Tryd.func59 rfl (by kernel_rfl) (by kernel_rfl) (by kernel_rfl) (by kernel_rfl)
end ref05_Has
namespace ref05_Covers
abbrev f : Nat := 60
def s : SCo := (.seq
(F [J 2 (.box 37 (.t 0)),
 J 3 (.box 33 (.t 1)),
 J 4 (.mv (B false))] 3)
(.seq
(.reg (J 5 (.fld 0 (.t 3)) ::
 J 6 (.load none (.t 5)) ::
 J 7 (.bin .lss (.t 6) (.k (b8 8))) ::
 M 8 7 ::
 H 9 (.fld 1 (.t 3)) 8 true ::
 H 10 (.load none (.t 9)) 8 true ::
 H 11 (.bin .geq (.t 10) (.k (b32 1))) 8 true ::
 J 12 (.pick (.t 8) (.t 11) (B false)) ::
 M 13 12 ::
 H 14 (.fld 0 (.t 3)) 13 true ::
 H 15 (.load none (.t 14)) 13 true ::
 H 16 (.fld 2 (.t 2)) 13 true ::
 H 17 (.idxA 8 1 (.t 16) (.t 15)) 13 true ::
 H 18 (.load none (.t 17)) 13 true ::
 H 19 (.fld 1 (.t 3)) 13 true ::
 H 20 (.load none (.t 19)) 13 true ::
 H 21 (.bin .geq (.t 18) (.t 20)) 13 true ::
 J 22 (.pick (.t 13) (.t 21) (B false)) ::
 M 4 22 :: []) (0 ::
1 ::
3 ::
7 ::
15 ::
31 ::
63 ::
127 ::
255 ::
511 ::
1023 ::
511 ::
4095 ::
8191 ::
511 ::
16895 ::
65535 ::
131071 ::
262143 :: []) true)
.ret))
def rv : List RV := [.tmp 4]
theorem enter : En Tryd.prog 60 23 s rv := En.mk (c := Tryd.f60.body.getD .ret) Tryd.func60 rfl (by kernel_rfl) (by kernel_rfl) (by kernel_rfl) (by kernel_rfl)
end ref05_Covers
namespace ref05_in
abbrev f : Nat := 61
def s : SCo := (.seq
(F [J 4 (.mv (B false))] 1)
(.seq
(.seq
(F [J 5 (.mv (Z 0))] 1)
(.block 0
(.loop
(.seq
(.seq
(F [M 6 5,
 M 7 0,
 J 8 (.lens (.t 7)),
 J 9 (.bin .lss (.t 6) (.t 8))] 4)
(.cond (.t 9)
.skip
(.exit 0)))
(.seq
(.block 1
(.seq
(F [M 12 0,
 M 13 5,
 J 14 (.idxT (.t 12) (.t 13)),
 M 15 1,
 J 16 (.bin .eql (.t 14) (.t 15))] 5)
(.cond (.t 16)
(.seq
(F [J 4 (.mv (B true))] 1)
.ret)
.skip)))
(F [M 10 5,
 J 11 (.bin .add (.t 10) (Z 1)),
 M 5 11] 3))))))
(.seq
(F [J 4 (.mv (B false))] 1)
.ret)))
def rv : List RV := [.tmp 4]
theorem enter : En Tryd.prog 61 17 s rv := En.mk (c := Tryd.f61.body.getD .ret) Tryd.func61 rfl (by kernel_rfl) (by kernel_rfl) (by kernel_rfl) (by kernel_rfl)
end ref05_in
namespace ref05_lines
abbrev f : Nat := 62
def s : SCo := (.seq
(F [J 1 (.box 37 (.t 0)),
 J 2 (.mv (B false))] 2)
(.seq
(.seq
(F [J 5 (.fld 28 (.t 1)),
 J 6 (.load none (.t 5)),
 J 7 (.len (.t 6)),
 J 8 (.bin .lss (.t 7) (Z 1)),
 M 9 8,
 H 10 (.fld 28 (.t 1)) 9 false,
 H 11 (.load none (.t 10)) 9 false,
 H 12 (.len (.t 11)) 9 false,
 H 13 (.bin .gtr (.t 12) (Z 16)) 9 false,
 J 14 (.pick (.t 9) (B true) (.t 13))] 10)
(.cond (.t 14)
(.seq
(F [J 2 (.mv (B false))] 1)
.ret)
.skip))
(.seq
(.seq
(F [J 3 (.mv (Z 0))] 1)
(.block 0
(.loop
(.seq
(.seq
(F [M 15 3,
 J 16 (.fld 28 (.t 1)),
 J 17 (.load none (.t 16)),
 J 18 (.len (.t 17)),
 J 19 (.bin .lss (.t 15) (.t 18))] 5)
(.cond (.t 19)
.skip
(.exit 0)))
(.seq
(.block 1
(.seq
(.seq
(.reg (J 22 (.load (some 29) (.t 1)) ::
 J 23 (.fld 28 (.t 1)) ::
 J 24 (.load none (.t 23)) ::
 M 25 3 ::
 J 26 (.idxS 4 (.t 24) (.t 25)) ::
 J 27 (.fld 0 (.t 26)) ::
 J 28 (.load (some 2) (.t 27)) ::
 J 29 (.call (C 60) [(.t 22), (.t 28)]) ::
 J 30 (.not (.t 29)) ::
 M 31 30 ::
 H 32 (.load (some 29) (.t 1)) 31 false ::
 H 33 (.fld 28 (.t 1)) 31 false ::
 H 34 (.load none (.t 33)) 31 false ::
 G 35 3 31 false ::
 H 36 (.idxS 4 (.t 34) (.t 35)) 31 false ::
 H 37 (.fld 2 (.t 36)) 31 false ::
 H 38 (.load (some 2) (.t 37)) 31 false ::
 H 39 (.call (C 60) [(.t 32), (.t 38)]) 31 false ::
 H 40 (.not (.t 39)) 31 false ::
 J 41 (.pick (.t 31) (B true) (.t 40)) :: []) (0 ::
0 ::
2 ::
0 ::
14 ::
30 ::
62 ::
127 ::
255 ::
511 ::
1023 ::
1023 ::
3071 ::
1023 ::
15359 ::
31743 ::
64511 ::
131071 ::
262143 ::
524287 :: []) true)
(.cond (.t 41)
(.seq
(F [J 2 (.mv (B false))] 1)
.ret)
.skip))
(.seq
(F [J 4 (.mv (Z 0))] 1)
(.block 2
(.loop
(.seq
(.seq
(F [M 42 4,
 M 43 3,
 J 44 (.bin .lss (.t 42) (.t 43))] 3)
(.cond (.t 44)
.skip
(.exit 2)))
(.seq
(.block 3
(.seq
(.reg [J 47 (.fld 28 (.t 1)),
 J 48 (.load none (.t 47)),
 M 49 4,
 J 50 (.idxS 4 (.t 48) (.t 49)),
 J 51 (.fld 0 (.t 50)),
 J 52 (.load (some 2) (.t 51)),
 J 53 (.fld 28 (.t 1)),
 J 54 (.load none (.t 53)),
 M 55 3,
 J 56 (.idxS 4 (.t 54) (.t 55)),
 J 57 (.fld 0 (.t 56)),
 J 58 (.load (some 2) (.t 57)),
 J 59 (.eqv false [true, true] (.t 52) (.t 58))] [0,
1,
0,
7,
15,
31,
0,
64,
0,
448,
960,
1984,
4095] true)
(.cond (.t 59)
(.seq
(F [J 2 (.mv (B false))] 1)
.ret)
.skip)))
(F [M 45 4,
 J 46 (.bin .add (.t 45) (Z 1)),
 M 4 46] 3))))))))
(F [M 20 3,
 J 21 (.bin .add (.t 20) (Z 1)),
 M 3 21] 3))))))
(.seq
(F [J 2 (.mv (B true))] 1)
.ret))))
def rv : List RV := [.tmp 2]
theorem enter : En Tryd.prog 62 60 s rv := En.mk (c := Tryd.f62.body.getD .ret) Tryd.func62 rfl (by kernel_rfl) (by kernel_rfl) (by kernel_rfl) (by kernel_rfl)
end ref05_lines
namespace ref11_may
abbrev f : Nat := 63
def s : SCo := (.seq
(F [J 2 (.box 48 (.t 0)),
 J 3 (.box 37 (.t 1)),
 J 4 (.mv (B false))] 3)
(.seq
(.seq
(.reg [J 6 (.fld 0 (.t 3)),
 J 7 (.fld 0 (.t 6)),
 J 8 (.load none (.t 7)),
 J 9 (.fld 1 (.t 2)),
 J 10 (.idxA 8 1 (.t 9) (.t 8)),
 J 11 (.load none (.t 10)),
 J 12 (.fld 0 (.t 3)),
 J 13 (.fld 1 (.t 12)),
 J 14 (.load none (.t 13)),
 J 15 (.bin .sub (.t 14) (.k (b32 1))),
 J 16 (.bin .neq (.t 11) (.t 15))] [0,
1,
3,
0,
15,
31,
0,
64,
192,
448,
1023] true)
(.cond (.t 16)
(.seq
(F [J 4 (.mv (B false))] 1)
.ret)
.skip))
(.seq
(.seq
(F [J 5 (.mv (Z 0))] 1)
(.block 0
(.loop
(.seq
(.seq
(F [M 17 5,
 J 18 (.bin .lss (.t 17) (Z 8))] 2)
(.cond (.t 18)
.skip
(.exit 0)))
(.seq
(.block 1
(.seq
(.reg [M 21 5,
 J 22 (.fld 1 (.t 2)),
 J 23 (.idxA 8 1 (.t 22) (.t 21)),
 J 24 (.load none (.t 23)),
 M 25 5,
 J 26 (.fld 2 (.t 3)),
 J 27 (.idxA 8 1 (.t 26) (.t 25)),
 J 28 (.load none (.t 27)),
 J 29 (.bin .lss (.t 24) (.t 28))] [0,
0,
3,
7,
0,
0,
48,
112,
255] true)
(.cond (.t 29)
(.seq
(F [J 4 (.mv (B false))] 1)
.ret)
.skip)))
(F [M 19 5,
 J 20 (.bin .add (.t 19) (Z 1)),
 M 5 20] 3))))))
(.seq
(F [J 4 (.mv (B true))] 1)
.ret))))
def rv : List RV := [.tmp 4]
theorem enter : En Tryd.prog 63 30 s rv := En.mk (c := Tryd.f63.body.getD .ret) Tryd.func63 rfl (by kernel_rfl) (by kernel_rfl) (by kernel_rfl) (by kernel_rfl)
end ref11_may
namespace order_index_fits_1
end order_index_fits_1
namespace op_of
abbrev f : Nat := 65
def s : SCo := (.seq
(F [J 1 (.box 37 (.t 0)),
 J 2 (.alloc 104 [b8 0, b32 0, b32 0, b32 0, b32 0, b32 0, b32 0, b32 0, b32 0, b32 0, b64 0, b32 0, b8 0, b32 0, b8 0, b8 0, b32 0, b32 0, b8 0, b8 0, b64 0, b8 0, b32 0, b8 0, b32 0, b32 0, b32 0, b32 0])] 2)
(.seq
(F (J 3 (.fld 0 (.t 1)) ::
 J 4 (.load (some 2) (.t 3)) ::
 J 5 (.fld 2 (.t 1)) ::
 J 6 (.load (some 8) (.t 5)) ::
 J 7 (.fld 10 (.t 1)) ::
 J 8 (.load none (.t 7)) ::
 J 9 (.fld 11 (.t 1)) ::
 J 10 (.load none (.t 9)) ::
 J 11 (.fld 12 (.t 1)) ::
 J 12 (.load (some 2) (.t 11)) ::
 J 13 (.fld 14 (.t 1)) ::
 J 14 (.load none (.t 13)) ::
 J 15 (.fld 15 (.t 1)) ::
 J 16 (.load (some 2) (.t 15)) ::
 J 17 (.fld 17 (.t 1)) ::
 J 18 (.load none (.t 17)) ::
 J 19 (.fld 18 (.t 1)) ::
 J 20 (.load none (.t 19)) ::
 J 21 (.fld 19 (.t 1)) ::
 J 22 (.load none (.t 21)) ::
 J 23 (.fld 20 (.t 1)) ::
 J 24 (.load none (.t 23)) ::
 J 25 (.fld 21 (.t 1)) ::
 J 26 (.load (some 2) (.t 25)) ::
 J 27 (.fld 23 (.t 1)) ::
 J 28 (.load (some 2) (.t 27)) ::
 J 29 (.fld 25 (.t 1)) ::
 J 30 (.load none (.t 29)) ::
 J 31 (.fld 26 (.t 1)) ::
 J 32 (.load none (.t 31)) ::
 J 33 (.fld 27 (.t 1)) ::
 J 34 (.load none (.t 33)) ::
 J 35 (.bld [b8 0, b32 0, b32 0, b32 0, b32 0, b32 0, b32 0, b32 0, b32 0, b32 0, b64 0, b32 0, b8 0, b32 0, b8 0, b8 0, b32 0, b32 0, b8 0, b8 0, b64 0, b8 0, b32 0, b8 0, b32 0, b32 0, b32 0, b32 0] [(0, 2, (.t 4)), (2, 8, (.t 6)), (10, 1, (.t 8)), (11, 1, (.t 10)), (12, 2, (.t 12)), (14, 1, (.t 14)), (15, 2, (.t 16)), (17, 1, (.t 18)), (18, 1, (.t 20)), (19, 1, (.t 22)), (20, 1, (.t 24)), (21, 2, (.t 26)), (23, 2, (.t 28)), (25, 1, (.t 30)), (26, 1, (.t 32)), (27, 1, (.t 34))]) ::
 N (.store 28 (.t 2) (.t 35)) :: []) 34)
.ret))
def rv : List RV := [.cell 2 (some 28)]
theorem enter : En Tryd.prog 65 36 s rv := En.mk (c := Tryd.f65.body.getD .ret) Tryd.func65 rfl (by kernel_rfl) (by kernel_rfl) (by kernel_rfl) (by kernel_rfl)
end op_of
namespace slices_Equal_Lapi_Claim_api_Claim
abbrev f : Nat := 66
def s : SCo := (.seq
(F [J 4 (.mv (B false))] 1)
(.seq
(.seq
(F [M 6 0,
 J 7 (.len (.t 6)),
 M 8 1,
 J 9 (.len (.t 8)),
 J 10 (.bin .neq (.t 7) (.t 9))] 5)
(.cond (.t 10)
(.seq
(F [J 4 (.mv (B false))] 1)
.ret)
.skip))
(.seq
(.seq
(F [M 11 0,
 J 12 (.len (.t 11)),
 J 13 (.mv (Z 0))] 3)
(.block 0
(.loop
(.seq
(F [J 14 (.bin .lss (.t 13) (.t 12))] 1)
(.seq
(.cond (.t 14)
.skip
(.exit 0))
(.seq
(.block 1
(.seq
(F [M 15 13,
 M 5 15] 2)
(.seq
(.reg [M 16 0,
 M 17 5,
 J 18 (.idxS 4 (.t 16) (.t 17)),
 J 19 (.load (some 4) (.t 18)),
 M 20 1,
 M 21 5,
 J 22 (.idxS 4 (.t 20) (.t 21)),
 J 23 (.load (some 4) (.t 22)),
 J 24 (.eqv true [true, true, true, true] (.t 19) (.t 23))] [0,
0,
3,
7,
0,
0,
48,
112,
255] true)
(.cond (.t 24)
(.seq
(F [J 4 (.mv (B false))] 1)
.ret)
.skip))))
(F [J 25 (.bin .add (.t 13) (Z 1)),
 M 13 25] 2)))))))
(.seq
(F [J 4 (.mv (B true))] 1)
.ret))))
def rv : List RV := [.tmp 4]
theorem enter : En Tryd.prog 66 26 s rv := En.mk (c := Tryd.f66.body.getD .ret) Tryd.func66 rfl (by kernel_rfl) (by kernel_rfl) (by kernel_rfl) (by kernel_rfl)
end slices_Equal_Lapi_Claim_api_Claim
namespace op_right_1
abbrev f : Nat := 67
def s : SCo := (.seq
(F [J 5 (.mv (B false))] 1)
(.seq
(F [J 6 (.load none (.t 2)),
 M 7 0,
 J 8 (.bin .and (.t 6) (.t 7)),
 J 9 (.bin .eql (.t 8) (.k (b8 0))),
 M 10 9,
 G 11 1 10 false,
 J 12 (.pick (.t 10) (B true) (.t 11)),
 M 5 12] 8)
.ret))
def rv : List RV := [.tmp 5]
theorem enter : En Tryd.prog 67 13 s rv := En.mk (c := Tryd.f67.body.getD .ret) Tryd.func67 rfl (by kernel_rfl) (by kernel_rfl) (by kernel_rfl) (by kernel_rfl)
end op_right_1
namespace op_Covers
abbrev f : Nat := 68
def s : SCo := (.seq
(F [J 2 (.box 37 (.t 0)),
 J 3 (.box 33 (.t 1)),
 J 4 (.mv (B false))] 3)
(.seq
(.reg (J 5 (.fld 0 (.t 3)) ::
 J 6 (.load none (.t 5)) ::
 J 7 (.conv .i64 (.t 6)) ::
 J 8 (.bin .lss (.t 7) (Z 8)) ::
 M 9 8 ::
 H 10 (.fld 1 (.t 3)) 9 true ::
 H 11 (.load none (.t 10)) 9 true ::
 H 12 (.bin .gtr (.t 11) (.k (b32 0))) 9 true ::
 J 13 (.pick (.t 9) (.t 12) (B false)) ::
 M 14 13 ::
 H 15 (.fld 0 (.t 3)) 14 true ::
 H 16 (.load none (.t 15)) 14 true ::
 H 17 (.fld 2 (.t 2)) 14 true ::
 H 18 (.idxA 8 1 (.t 17) (.t 16)) 14 true ::
 H 19 (.load none (.t 18)) 14 true ::
 H 20 (.fld 1 (.t 3)) 14 true ::
 H 21 (.load none (.t 20)) 14 true ::
 H 22 (.bin .geq (.t 19) (.t 21)) 14 true ::
 J 23 (.pick (.t 14) (.t 22) (B false)) ::
 M 4 23 :: []) (0 ::
1 ::
3 ::
7 ::
15 ::
31 ::
63 ::
127 ::
255 ::
511 ::
1023 ::
2047 ::
1023 ::
8191 ::
16383 ::
1023 ::
33791 ::
131071 ::
262143 ::
524287 :: []) true)
.ret))
def rv : List RV := [.tmp 4]
theorem enter : En Tryd.prog 68 24 s rv := En.mk (c := Tryd.f68.body.getD .ret) Tryd.func68 rfl (by kernel_rfl) (by kernel_rfl) (by kernel_rfl) (by kernel_rfl)
end op_Covers
namespace op_claims
abbrev f : Nat := 69
def s : SCo := (.seq
(F [J 1 (.box 37 (.t 0)),
 J 2 (.mv (B false))] 2)
(.seq
(F [J 6 (.mkm),
 M 3 6] 2)
(.seq
(.seq
(F [J 7 (.fld 28 (.t 1)),
 J 8 (.load none (.t 7)),
 J 9 (.len (.t 8)),
 J 10 (.mv (Z 0))] 4)
(.block 0
(.loop
(.seq
(F [J 11 (.bin .lss (.t 10) (.t 9))] 1)
(.seq
(.cond (.t 11)
.skip
(.exit 0))
(.seq
(.block 1
(.seq
(F [J 12 (.idxS 4 (.t 8) (.t 10)),
 J 13 (.load (some 4) (.t 12)),
 J 5 (.alloc 88 [b8 0, b32 0, b8 0, b32 0]),
 N (.store 4 (.t 5) (.t 13))] 4)
(.seq
(.seq
(F (M 14 3 ::
 J 15 (.fld 0 (.t 5)) ::
 J 16 (.load (some 2) (.t 15)) ::
 J 17 (.look [true, true] true (i6 0) (.t 14) (.t 16) false) ::
 J 18 (.bin .gtr (.t 17) (Z 0)) ::
 M 19 18 ::
 H 20 (.load (some 29) (.t 1)) 19 false ::
 H 21 (.fld 0 (.t 5)) 19 false ::
 H 22 (.load (some 2) (.t 21)) 19 false ::
 H 23 (.call (C 68) [(.t 20), (.t 22)]) 19 false ::
 H 24 (.not (.t 23)) 19 false ::
 J 25 (.pick (.t 19) (B true) (.t 24)) ::
 M 26 25 ::
 H 27 (.load (some 29) (.t 1)) 26 false ::
 H 28 (.fld 2 (.t 5)) 26 false ::
 H 29 (.load (some 2) (.t 28)) 26 false ::
 H 30 (.call (C 68) [(.t 27), (.t 29)]) 26 false ::
 H 31 (.not (.t 30)) 26 false ::
 J 32 (.pick (.t 26) (B true) (.t 31)) :: []) 19)
(.cond (.t 32)
(.seq
(F [J 2 (.mv (B false))] 1)
.ret)
.skip))
(F [M 33 3,
 J 34 (.fld 0 (.t 5)),
 J 35 (.load (some 2) (.t 34)),
 N (.mset [true, true] true (.t 33) (.t 35) (Z 1))] 4))))
(F [J 36 (.bin .add (.t 10) (Z 1)),
 M 10 36] 2)))))))
(.seq
(F [M 37 3,
 J 38 (.mlen (.t 37)),
 J 39 (.bin .gtr (.t 38) (Z 0)),
 M 40 39,
 G 41 3 40 true,
 H 42 (.mlen (.t 41)) 40 true,
 H 43 (.bin .leq (.t 42) (Z 16)) 40 true,
 J 44 (.pick (.t 40) (.t 43) (B false)),
 M 2 44] 9)
.ret))))
def rv : List RV := [.tmp 2]
theorem enter : En Tryd.prog 69 45 s rv := En.mk (c := Tryd.f69.body.getD .ret) Tryd.func69 rfl (by kernel_rfl) (by kernel_rfl) (by kernel_rfl) (by kernel_rfl)
end op_claims
namespace slices_Collect_api_Op
abbrev f : Nat := 70
def s : SCo := (.seq
(F [J 2 (.mv (.k (.d .nils)))] 1)
(.seq
(F [M 3 0,
 J 4 (.call (C 78) [(.k (.d .nils)), (.t 3)]),
 M 2 4] 3)
.ret))
def rv : List RV := [.tmp 2]
theorem enter : En Tryd.prog 70 5 s rv := En.mk (c := Tryd.f70.body.getD .ret) Tryd.func70 rfl (by kernel_rfl) (by kernel_rfl) (by kernel_rfl) (by kernel_rfl)
end slices_Collect_api_Op
namespace maps_Values_map_api_Dot_api_Op_api_Dot_api_Op_1
abbrev f : Nat := 72
def s : SCo := (.seq
(F [J 5 (.load none (.t 1)),
 J 6 (.mrange (.t 5))] 2)
(.block 0
(.loop
(.seq
(F [J 7 (.mnext (.t 6)),
 J 8 (.ext 0 (.t 7))] 2)
(.seq
(.cond (.t 8)
.skip
(.exit 0))
(.block 1
(.seq
(F [J 9 (.mentry (.t 6)),
 J 10 (.ext 1 (.t 9)),
 J 4 (.alloc 37 z29),
 N (.store 29 (.t 4) (.t 10))] 4)
(.seq
(F [M 11 0,
 J 12 (.load (some 29) (.t 4)),
 J 13 (.call (.t 11) [(.t 12)]),
 J 14 (.not (.t 13))] 4)
(.cond (.t 14)
.ret
.skip)))))))))
def rv : List RV := []
theorem enter : En Tryd.prog 72 15 s rv := En.mk (c := Tryd.f72.body.getD .ret) Tryd.func72 rfl (by kernel_rfl) (by kernel_rfl) (by kernel_rfl) (by kernel_rfl)
end maps_Values_map_api_Dot_api_Op_api_Dot_api_Op_1
namespace cmp_Or_int
abbrev f : Nat := 73
def s : SCo := (.seq
(F [J 2 (.mv (Z 0))] 1)
(.seq
(F [J 3 (.mv (Z 0))] 1)
(.seq
(.seq
(F [M 6 0,
 J 7 (.len (.t 6)),
 J 8 (.mv (Z 0))] 3)
(.block 0
(.loop
(.seq
(F [J 9 (.bin .lss (.t 8) (.t 7))] 1)
(.seq
(.cond (.t 9)
.skip
(.exit 0))
(.seq
(.block 1
(.seq
(F [J 10 (.idxS 1 (.t 6) (.t 8)),
 J 11 (.load none (.t 10)),
 M 5 11] 3)
(.seq
(F [M 12 5,
 M 13 3,
 J 14 (.bin .neq (.t 12) (.t 13))] 3)
(.cond (.t 14)
(.seq
(F [M 15 5,
 M 2 15] 2)
.ret)
.skip))))
(F [J 16 (.bin .add (.t 8) (Z 1)),
 M 8 16] 2)))))))
(.seq
(F [M 17 3,
 M 2 17] 2)
.ret))))
def rv : List RV := [.tmp 2]
theorem enter : En Tryd.prog 73 18 s rv := En.mk (c := Tryd.f73.body.getD .ret) Tryd.func73 rfl (by kernel_rfl) (by kernel_rfl) (by kernel_rfl) (by kernel_rfl)
end cmp_Or_int
namespace cmp_Compare_uint64
abbrev f : Nat := 74
def s : SCo := (.seq
(F [J 4 (.mv (Z 0))] 1)
(.seq
(F [M 7 0,
 J 8 (.call (C 81) [(.t 7)]),
 M 5 8] 3)
(.seq
(F [M 9 1,
 J 10 (.call (C 81) [(.t 9)]),
 M 6 10] 3)
(.seq
(.seq
(F [M 11 5] 1)
(.cond (.t 11)
(.seq
(.seq
(F [M 12 6] 1)
(.cond (.t 12)
(.seq
(F [J 4 (.mv (Z 0))] 1)
.ret)
.skip))
(.seq
(F [J 4 (.mv (.k (.d (.int .i64 (-1)))))] 1)
.ret))
.skip))
(.seq
(.seq
(F [M 13 6] 1)
(.cond (.t 13)
(.seq
(F [J 4 (.mv (Z 1))] 1)
.ret)
.skip))
(.seq
(.seq
(F [M 14 0,
 M 15 1,
 J 16 (.bin .lss (.t 14) (.t 15))] 3)
(.cond (.t 16)
(.seq
(F [J 4 (.mv (.k (.d (.int .i64 (-1)))))] 1)
.ret)
.skip))
(.seq
(.seq
(F [M 17 0,
 M 18 1,
 J 19 (.bin .gtr (.t 17) (.t 18))] 3)
(.cond (.t 19)
(.seq
(F [J 4 (.mv (Z 1))] 1)
.ret)
.skip))
(.seq
(F [J 4 (.mv (Z 0))] 1)
.ret))))))))
def rv : List RV := [.tmp 4]
theorem enter : En Tryd.prog 74 20 s rv := En.mk (c := Tryd.f74.body.getD .ret) Tryd.func74 rfl (by kernel_rfl) (by kernel_rfl) (by kernel_rfl) (by kernel_rfl)
end cmp_Compare_uint64
namespace cmp_Compare_uint8
abbrev f : Nat := 75
def s : SCo := (.seq
(F [J 4 (.mv (Z 0))] 1)
(.seq
(F [M 7 0,
 J 8 (.call (C 82) [(.t 7)]),
 M 5 8] 3)
(.seq
(F [M 9 1,
 J 10 (.call (C 82) [(.t 9)]),
 M 6 10] 3)
(.seq
(.seq
(F [M 11 5] 1)
(.cond (.t 11)
(.seq
(.seq
(F [M 12 6] 1)
(.cond (.t 12)
(.seq
(F [J 4 (.mv (Z 0))] 1)
.ret)
.skip))
(.seq
(F [J 4 (.mv (.k (.d (.int .i64 (-1)))))] 1)
.ret))
.skip))
(.seq
(.seq
(F [M 13 6] 1)
(.cond (.t 13)
(.seq
(F [J 4 (.mv (Z 1))] 1)
.ret)
.skip))
(.seq
(.seq
(F [M 14 0,
 M 15 1,
 J 16 (.bin .lss (.t 14) (.t 15))] 3)
(.cond (.t 16)
(.seq
(F [J 4 (.mv (.k (.d (.int .i64 (-1)))))] 1)
.ret)
.skip))
(.seq
(.seq
(F [M 17 0,
 M 18 1,
 J 19 (.bin .gtr (.t 17) (.t 18))] 3)
(.cond (.t 19)
(.seq
(F [J 4 (.mv (Z 1))] 1)
.ret)
.skip))
(.seq
(F [J 4 (.mv (Z 0))] 1)
.ret))))))))
def rv : List RV := [.tmp 4]
theorem enter : En Tryd.prog 75 20 s rv := En.mk (c := Tryd.f75.body.getD .ret) Tryd.func75 rfl (by kernel_rfl) (by kernel_rfl) (by kernel_rfl) (by kernel_rfl)
end cmp_Compare_uint8
namespace cmp_Compare_uint32
abbrev f : Nat := 76
def s : SCo := (.seq
(F [J 4 (.mv (Z 0))] 1)
(.seq
(F [M 7 0,
 J 8 (.call (C 83) [(.t 7)]),
 M 5 8] 3)
(.seq
(F [M 9 1,
 J 10 (.call (C 83) [(.t 9)]),
 M 6 10] 3)
(.seq
(.seq
(F [M 11 5] 1)
(.cond (.t 11)
(.seq
(.seq
(F [M 12 6] 1)
(.cond (.t 12)
(.seq
(F [J 4 (.mv (Z 0))] 1)
.ret)
.skip))
(.seq
(F [J 4 (.mv (.k (.d (.int .i64 (-1)))))] 1)
.ret))
.skip))
(.seq
(.seq
(F [M 13 6] 1)
(.cond (.t 13)
(.seq
(F [J 4 (.mv (Z 1))] 1)
.ret)
.skip))
(.seq
(.seq
(F [M 14 0,
 M 15 1,
 J 16 (.bin .lss (.t 14) (.t 15))] 3)
(.cond (.t 16)
(.seq
(F [J 4 (.mv (.k (.d (.int .i64 (-1)))))] 1)
.ret)
.skip))
(.seq
(.seq
(F [M 17 0,
 M 18 1,
 J 19 (.bin .gtr (.t 17) (.t 18))] 3)
(.cond (.t 19)
(.seq
(F [J 4 (.mv (Z 1))] 1)
.ret)
.skip))
(.seq
(F [J 4 (.mv (Z 0))] 1)
.ret))))))))
def rv : List RV := [.tmp 4]
theorem enter : En Tryd.prog 76 20 s rv := En.mk (c := Tryd.f76.body.getD .ret) Tryd.func76 rfl (by kernel_rfl) (by kernel_rfl) (by kernel_rfl) (by kernel_rfl)
end cmp_Compare_uint32
namespace vector_Merge
abbrev f : Nat := 77
def s : SCo := (.seq
(F [J 2 (.alloc 29 z8)] 1)
(.seq
(F [J 3 (.call (C 85) [(C 86)]),
 M 4 0,
 J 5 (.call (C 84) [(.t 3), (.t 4)]),
 N (.store 8 (.t 2) (.t 5))] 4)
.ret))
def rv : List RV := [.cell 2 (some 8)]
theorem enter : En Tryd.prog 77 6 s rv := En.mk (c := Tryd.f77.body.getD .ret) Tryd.func77 rfl (by kernel_rfl) (by kernel_rfl) (by kernel_rfl) (by kernel_rfl)
end vector_Merge
namespace slices_AppendSeq_Lapi_Op_api_Op
abbrev f : Nat := 78
def s : SCo := (.seq
(F [J 2 (.box 22 (.t 0)),
 J 4 (.mv (.k (.d .nils)))] 2)
(.seq
(.seq
(F [M 6 1] 1)
(.block 0
(.rfun (.t 6) [7]
(F [J 5 (.alloc 37 z29),
 N (.store 29 (.t 5) (.t 7))] 2)
(.block 1
(F [J 8 (.load none (.t 2)),
 J 9 (.load (some 29) (.t 5)),
 J 10 (.bsl 37 29 1 z29 [(0, 29, (.t 9))]),
 J 11 (.app 37 29 144 (.t 8) (.t 10)),
 N (.store 1 (.t 2) (.t 11))] 5)))))
(.seq
(F [J 12 (.load none (.t 2)),
 M 4 12] 2)
.ret)))
def rv : List RV := [.tmp 4]
theorem enter : En Tryd.prog 78 13 s rv := En.mk (c := Tryd.f78.body.getD .ret) Tryd.func78 rfl (by kernel_rfl) (by kernel_rfl) (by kernel_rfl) (by kernel_rfl)
end slices_AppendSeq_Lapi_Op_api_Op
namespace cmp_isNaN_uint64
abbrev f : Nat := 81
def s : SCo := (.seq
(F [J 2 (.mv (B false))] 1)
(.seq
(F [M 3 0,
 M 4 0,
 J 5 (.bin .neq (.t 3) (.t 4)),
 M 2 5] 4)
.ret))
def rv : List RV := [.tmp 2]
theorem enter : En Tryd.prog 81 6 s rv := En.mk (c := Tryd.f81.body.getD .ret) Tryd.func81 rfl (by kernel_rfl) (by kernel_rfl) (by kernel_rfl) (by kernel_rfl)
end cmp_isNaN_uint64
namespace cmp_isNaN_uint8
abbrev f : Nat := 82
def s : SCo := (.seq
(F [J 2 (.mv (B false))] 1)
(.seq
(F [M 3 0,
 M 4 0,
 J 5 (.bin .neq (.t 3) (.t 4)),
 M 2 5] 4)
.ret))
def rv : List RV := [.tmp 2]
theorem enter : En Tryd.prog 82 6 s rv := En.mk (c := Tryd.f82.body.getD .ret) Tryd.func82 rfl (by kernel_rfl) (by kernel_rfl) (by kernel_rfl) (by kernel_rfl)
end cmp_isNaN_uint8
namespace cmp_isNaN_uint32
abbrev f : Nat := 83
def s : SCo := (.seq
(F [J 2 (.mv (B false))] 1)
(.seq
(F [M 3 0,
 M 4 0,
 J 5 (.bin .neq (.t 3) (.t 4)),
 M 2 5] 4)
.ret))
def rv : List RV := [.tmp 2]
theorem enter : En Tryd.prog 83 6 s rv := En.mk (c := Tryd.f83.body.getD .ret) Tryd.func83 rfl (by kernel_rfl) (by kernel_rfl) (by kernel_rfl) (by kernel_rfl)
end cmp_isNaN_uint32
namespace vector_all_api_Vector
abbrev f : Nat := 84
def s : SCo := (.seq
(F [J 4 (.alloc 29 z8)] 1)
(.seq
(.seq
(F [M 7 1,
 J 8 (.len (.t 7)),
 J 9 (.mv (Z 0))] 3)
(.block 0
(.loop
(.seq
(F [J 10 (.bin .lss (.t 9) (.t 8))] 1)
(.seq
(.cond (.t 10)
.skip
(.exit 0))
(.seq
(.block 1
(.seq
(F [M 11 9,
 J 12 (.idxS 8 (.t 7) (.t 9)),
 J 13 (.load (some 8) (.t 12)),
 J 6 (.alloc 29 z8),
 M 5 11,
 N (.store 8 (.t 6) (.t 13))] 6)
(.seq
(F [M 14 0,
 J 15 (.load (some 8) (.t 4)),
 J 16 (.load (some 8) (.t 6)),
 J 17 (.call (.t 14) [(.t 15), (.t 16)]),
 N (.store 8 (.t 4) (.t 17))] 5)
(.seq
(F [M 18 5,
 J 19 (.bin .eql (.t 18) (Z 0))] 2)
(.cond (.t 19)
(F [J 20 (.load (some 8) (.t 6)),
 N (.store 8 (.t 4) (.t 20))] 2)
.skip)))))
(F [J 21 (.bin .add (.t 9) (Z 1)),
 M 9 21] 2)))))))
(.seq
(F [J 22 (.load (some 8) (.t 4)),
 N (.store 8 (.t 4) (.t 22))] 2)
.ret)))
def rv : List RV := [.cell 4 (some 8)]
theorem enter : En Tryd.prog 84 23 s rv := En.mk (c := Tryd.f84.body.getD .ret) Tryd.func84 rfl (by kernel_rfl) (by kernel_rfl) (by kernel_rfl) (by kernel_rfl)
end vector_all_api_Vector
namespace vector_each
abbrev f : Nat := 85
def s : SCo := (.seq
(F [J 1 (.box 128 (.t 0)),
 J 2 (.mv (.k (.d .nilf)))] 2)
(.seq
(F [J 3 (.mkf (.func 97) [] [(.t 1)]),
 M 2 3] 2)
.ret))
def rv : List RV := [.tmp 2]
theorem enter : En Tryd.prog 85 4 s rv := En.mk (c := Tryd.f85.body.getD .ret) Tryd.func85 rfl (by kernel_rfl) (by kernel_rfl) (by kernel_rfl) (by kernel_rfl)
end vector_each
namespace vector_Merge_1
abbrev f : Nat := 86
def s : SCo := (.seq
(F [J 4 (.mv (.k (b32 0)))] 1)
(.seq
(F [M 5 0,
 M 6 1,
 J 7 (.mx (.t 5) (.t 6)),
 M 4 7] 4)
.ret))
def rv : List RV := [.tmp 4]
theorem enter : En Tryd.prog 86 8 s rv := En.mk (c := Tryd.f86.body.getD .ret) Tryd.func86 rfl (by kernel_rfl) (by kernel_rfl) (by kernel_rfl) (by kernel_rfl)
end vector_Merge_1
namespace vector_each_1
abbrev f : Nat := 97
def s : SCo := (.seq
(F [J 3 (.box 29 (.t 0)),
 J 4 (.box 29 (.t 1)),
 J 5 (.alloc 29 z8)] 3)
(.seq
(.seq
(F [J 7 (.mv (Z 0))] 1)
(.block 0
(.loop
(.seq
(F [J 8 (.bin .lss (.t 7) (Z 8))] 1)
(.seq
(.cond (.t 8)
.skip
(.exit 0))
(.seq
(.block 1
(.seq
(F [M 9 7,
 M 6 9] 2)
(.reg [M 10 6,
 J 11 (.load none (.t 2)),
 M 12 6,
 J 13 (.idxA 8 1 (.t 3) (.t 12)),
 J 14 (.load none (.t 13)),
 M 15 6,
 J 16 (.idxA 8 1 (.t 4) (.t 15)),
 J 17 (.load none (.t 16)),
 J 18 (.call (.t 11) [(.t 14), (.t 17)]),
 J 19 (.idxA 8 1 (.t 5) (.t 10)),
 N (.store 1 (.t 19) (.t 18))] [0,
0,
0,
4,
12,
0,
32,
96,
254,
511,
1023] true)))
(F [J 20 (.bin .add (.t 7) (Z 1)),
 M 7 20] 2)))))))
(.seq
(F [J 21 (.load (some 8) (.t 5)),
 N (.store 8 (.t 5) (.t 21))] 2)
.ret)))
def rv : List RV := [.cell 5 (some 8)]
theorem enter : En Tryd.prog 97 22 s rv := En.mk (c := Tryd.f97.body.getD .ret) Tryd.func97 rfl (by kernel_rfl) (by kernel_rfl) (by kernel_rfl) (by kernel_rfl)
end vector_each_1
end Go.Proofs.YtnakpdoioammhaaDoor
