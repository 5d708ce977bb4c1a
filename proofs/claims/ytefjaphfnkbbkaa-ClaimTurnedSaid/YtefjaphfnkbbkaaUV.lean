/-
 The code of the functions in the small form, by program (gen.py); each is checked against the translation by the kernel.
-/
import Derived.Test.YtefjaphfnkbbkaaChecked
import Derived.Test.YtefjaphfnkbbkaaU7
set_option linter.unusedVariables false
set_option linter.unusedSimpArgs false
set_option linter.unusedSectionVars false
namespace Go.Proofs.Ytefjaphfnkbbkaa
open Go.Sl Go.Sl.Co Go.Proofs
theorem mixed: Try.prog.follows .mixedOrders=true:=by kernel_rfl
abbrev yI:Nat:=4
abbrev gE:Nat:=22
abbrev o7:Nat:=23
abbrev nu:Nat:=24
abbrev dZ:Nat:=26
abbrev wX:Nat:=27
abbrev uC:Nat:=29
abbrev o8:Nat:=31
abbrev nv:Nat:=33
abbrev bF:Nat:=35
abbrev sN:Nat:=56
abbrev di:Nat:=58
abbrev gQ:Nat:=62
abbrev gR:Nat:=65
namespace law23_ClaimOnce
abbrev f:Nat:=3
def s:cG:=(.seq
(F [J 4 (.box 26 (.t 1)),
 J 5 (.box 35 (.t 2)),
 J 6 (.mv (B false))] 3)
(.seq
(.seq
(.eN (M 23 0::
 J 24 (.call (C 6) [(.t 23)])::
 M 25 24::
 G 26 0 25 false::
 H 27 (.len (.t 26)) 25 false::
 H 28 (.bin .gtr (.t 27) (Z 50)) 25 false::
 J 29 (.pick (.t 25) (B true) (.t 28))::
 M 30 29::
 H 31 (.aK 0 (.t 4)) 30 false::
 H 32 (.load none (.t 31)) 30 false::
 H 33 (.aK 1 (.t 4)) 30 false::
 H 34 (.load none (.t 33)) 30 false::
 H 35 (.load (some 29) (.t 5)) 30 false::
 H 36 (.call (C 7) [(.t 32),(.t 34),(.t 35)]) 30 false::
 J 37 (.pick (.t 30) (B true) (.t 36))::
 M 38 37::
 H 39 (.aK 1 (.t 4)) 38 false::
 H 40 (.load none (.t 39)) 38 false::
 H 41 (.aK 1 (.t 4)) 38 false::
 H 42 (.load none (.t 41)) 38 false::
 H 43 (.call (C 9) [(.t 42)]) 38 false::
 H 44 (.call (C 8) [(.t 40),(.t 43)]) 38 false::
 H 45 (.not (.t 44)) 38 false::
 J 46 (.pick (.t 38) (B true) (.t 45))::[]) (0::
1::
3::
7::
15::
31::
63::
127::
255::
511::
255::
1279::
255::
8191::
16383::
32767::
65535::
131071::
65535::
327679::
851967::
2097151::
4194303::
8388607::[]) true)
(.cond (.t 46)
(.seq
(F [J 47 (.call (C 10) []),
 M 6 47] 2)
.ret)
.skip))
(.seq
(F [M 48 0,
 J 49 (.call (C 11) [(.t 48)]),
 M 7 49] 3)
(.seq
(F [M 51 7,
 J 52 (.load (some 2) (.t 4)),
 J 53 (.load (some 29) (.t 5)),
 J 54 (.call (C 12) [(.t 51),(.t 52),(.t 53)]),
 M 50 54,
 J 55 (.ext 0 (.t 50)),
 J 56 (.ext 1 (.t 50)),
 J 57 (.ext 2 (.t 50)),
 J 8 (.alloc 45 [b8 0,aA 0,b8 0,aA 0,aA 0,(.d .ay),bz 0]),
 J 9 (.alloc 26 [(.d .ay),(.d .ay)]),
 N (.store 7 (.t 8) (.t 55)),
 N (.store 2 (.t 9) (.t 56)),
 M 10 57] 13)
(.seq
(.seq
(F [M 58 10,
 J 59 (.bin .neq (.t 58) (.k (b8 1)))] 2)
(.cond (.t 59)
(.seq
(F (J 60 (.aK 5 (.t 8))::
 J 61 (.load none (.t 60))::
 J 62 (.len (.t 61))::
 J 63 (.bin .eql (.t 62) (Z 0))::
 M 64 63::
 H 65 (.aK 6 (.t 8)) 64 true::
 H 66 (.load none (.t 65)) 64 true::
 H 67 (.bin .eql (.t 66) (.k (bz 0))) 64 true::
 J 68 (.pick (.t 64) (.t 67) (B false))::
 M 69 68::
 H 70 (.aK 0 (.t 9)) 69 true::
 H 71 (.load none (.t 70)) 69 true::
 H 72 (.aK 0 (.t 4)) 69 true::
 H 73 (.load none (.t 72)) 69 true::
 H 74 (.call (C 13) [(.t 71),(.t 73)]) 69 true::
 J 75 (.pick (.t 69) (.t 74) (B false))::
 M 76 75::
 H 77 (.aK 1 (.t 9)) 76 true::
 H 78 (.load none (.t 77)) 76 true::
 H 79 (.aK 1 (.t 4)) 76 true::
 H 80 (.load none (.t 79)) 76 true::
 H 81 (.call (C 8) [(.t 78),(.t 80)]) 76 true::
 J 82 (.pick (.t 76) (.t 81) (B false))::
 M 83 82::
 H 84 (.call (C 10) []) 83 true::
 J 85 (.pick (.t 83) (.t 84) (B false))::
 M 6 85::[]) 27)
.ret)
.skip))
(.seq
(F [M 87 7,
 J 88 (.load (some 2) (.t 9)),
 J 89 (.load (some 29) (.t 5)),
 J 90 (.call (C 12) [(.t 87),(.t 88),(.t 89)]),
 M 86 90,
 J 91 (.ext 0 (.t 86)),
 J 92 (.ext 1 (.t 86)),
 J 93 (.ext 2 (.t 86)),
 J 11 (.alloc 45 [b8 0,aA 0,b8 0,aA 0,aA 0,(.d .ay),bz 0]),
 J 12 (.alloc 26 [(.d .ay),(.d .ay)]),
 N (.store 7 (.t 11) (.t 91)),
 N (.store 2 (.t 12) (.t 92)),
 M 13 93] 13)
(.seq
(.seq
(F (M 94 13::
 J 95 (.bin .neq (.t 94) (.k (b8 4)))::
 M 96 95::
 H 97 (.aK 0 (.t 12)) 96 false::
 H 98 (.load none (.t 97)) 96 false::
 H 99 (.aK 0 (.t 9)) 96 false::
 H 100 (.load none (.t 99)) 96 false::
 H 101 (.call (C 13) [(.t 98),(.t 100)]) 96 false::
 H 102 (.not (.t 101)) 96 false::
 J 103 (.pick (.t 96) (B true) (.t 102))::
 M 104 103::
 H 105 (.aK 1 (.t 12)) 104 false::
 H 106 (.load none (.t 105)) 104 false::
 H 107 (.aK 1 (.t 9)) 104 false::
 H 108 (.load none (.t 107)) 104 false::
 H 109 (.call (C 8) [(.t 106),(.t 108)]) 104 false::
 H 110 (.not (.t 109)) 104 false::
 J 111 (.pick (.t 104) (B true) (.t 110))::[]) 18)
(.cond (.t 111)
(.seq
(F [J 6 (.mv (B false))] 1)
.ret)
.skip))
(.seq
(F [M 113 0,
 J 114 (.aK 15 (.t 5)),
 J 115 (.load (some 2) (.t 114)),
 J 116 (.call (C 14) [(.t 113),(.t 115)]),
 M 112 116,
 J 117 (.ext 0 (.t 112)),
 J 118 (.ext 1 (.t 112)),
 M 14 117,
 M 15 118] 9)
(.seq
(.seq
(F [J 16 (.mv (Z 0))] 1)
(.block 0
(.loop
(.seq
(.seq
(F [M 119 16,
 M 120 14,
 J 121 (.len (.t 120)),
 J 122 (.bin .lss (.t 119) (.t 121))] 4)
(.cond (.t 122)
.skip
(.exit 0)))
(.seq
(.block 1
(.seq
(.eN (J 125 (.aK 1 (.t 9))::
 J 126 (.load none (.t 125))::
 M 127 14::
 M 128 16::
 J 129 (.bJ 2 (.t 127) (.t 128))::
 J 130 (.load (some 2) (.t 129))::
 J 131 (.call (C 15) [(.t 126),(.t 130)])::
 J 132 (.aK 1 (.t 4))::
 J 133 (.load none (.t 132))::
 M 134 14::
 M 135 16::
 J 136 (.bJ 2 (.t 134) (.t 135))::
 J 137 (.load (some 2) (.t 136))::
 J 138 (.call (C 15) [(.t 133),(.t 137)])::
 J 139 (.aK 6 (.t 8))::
 J 140 (.load none (.t 139))::
 J 141 (.bin .add (.t 138) (.t 140))::
 J 142 (.bin .neq (.t 131) (.t 141))::[]) (0::
1::
0::
0::
12::
28::
63::
0::
128::
0::
0::
1536::
3584::
8191::
0::
16384::
65535::
131071::[]) true)
(.cond (.t 142)
(.seq
(F [J 6 (.mv (B false))] 1)
.ret)
.skip)))
(F [M 123 16,
 J 124 (.bin .add (.t 123) (Z 1)),
 M 16 124] 3))))))
(.seq
(F [M 144 0,
 J 145 (.aK 1 (.t 4)),
 J 146 (.load none (.t 145)),
 J 147 (.aK 15 (.t 5)),
 J 148 (.load (some 2) (.t 147)),
 J 149 (.call (C 16) [(.t 144),(.t 146),(.t 148)]),
 M 143 149,
 J 150 (.ext 0 (.t 143)),
 J 151 (.ext 1 (.t 143)),
 J 152 (.ext 2 (.t 143)),
 J 17 (.alloc 29 [b8 0,aA 0]),
 N (.store 2 (.t 17) (.t 150)),
 M 18 151,
 M 19 152] 14)
(.seq
(F [M 154 0,
 J 155 (.aK 1 (.t 9)),
 J 156 (.load none (.t 155)),
 J 157 (.aK 15 (.t 5)),
 J 158 (.load (some 2) (.t 157)),
 J 159 (.call (C 16) [(.t 154),(.t 156),(.t 158)]),
 M 153 159,
 J 160 (.ext 0 (.t 153)),
 J 161 (.ext 1 (.t 153)),
 J 162 (.ext 2 (.t 153)),
 J 20 (.alloc 29 [b8 0,aA 0]),
 N (.store 2 (.t 20) (.t 160)),
 M 21 161,
 M 22 162] 14)
(.seq
(F [M 163 18,
 M 164 21,
 J 165 (.bin .sub (.t 163) (.t 164)),
 J 166 (.aK 6 (.t 8)),
 J 167 (.load none (.t 166)),
 J 168 (.bin .eql (.t 165) (.t 167)),
 M 169 168,
 G 170 18 169 true,
 G 171 21 169 true,
 H 172 (.bin .geq (.t 170) (.t 171)) 169 true,
 J 173 (.pick (.t 169) (.t 172) (B false)),
 M 174 173,
 H 175 (.call (C 10) []) 174 true,
 J 176 (.pick (.t 174) (.t 175) (B false)),
 M 6 176] 15)
.ret))))))))))))
def rv:List RV:=[.tmp 6]
theorem enter:En Try.prog 3 177 s rv:=En.mk (c:= Try.f3.body.getD .ret) Try.func3 rfl (by kernel_rfl) (by kernel_rfl) (by kernel_rfl) (by kernel_rfl)
end law23_ClaimOnce
namespace law23_ClaimEyes
abbrev f:Nat:=4
def s:cG:=(.seq
(F [J 4 (.box 26 (.t 1)),
 J 5 (.box 35 (.t 2)),
 J 6 (.mv (B false))] 3)
(.seq
(.seq
(F [M 21 0,
 J 22 (.call (C 6) [(.t 21)]),
 M 23 22,
 G 24 0 23 false,
 H 25 (.len (.t 24)) 23 false,
 H 26 (.bin .gtr (.t 25) (Z 50)) 23 false,
 J 27 (.pick (.t 23) (B true) (.t 26)),
 M 28 27,
 H 29 (.aK 0 (.t 4)) 28 false,
 H 30 (.load none (.t 29)) 28 false,
 H 31 (.aK 1 (.t 4)) 28 false,
 H 32 (.load none (.t 31)) 28 false,
 H 33 (.load (some 29) (.t 5)) 28 false,
 H 34 (.call (C 7) [(.t 30),(.t 32),(.t 33)]) 28 false,
 J 35 (.pick (.t 28) (B true) (.t 34))] 15)
(.cond (.t 35)
(.seq
(F [J 36 (.call (C 10) []),
 M 6 36] 2)
.ret)
.skip))
(.seq
(.seq
(F [J 7 (.mv (Z 0))] 1)
(.block 0
(.loop
(.seq
(.seq
(F [M 37 7,
 J 38 (.aK 0 (.t 4)),
 J 39 (.load none (.t 38)),
 J 40 (.len (.t 39)),
 J 41 (.bin .lss (.t 37) (.t 40))] 5)
(.cond (.t 41)
.skip
(.exit 0)))
(.seq
(.block 1
(.seq
(F [J 8 (.mv (Z 0))] 1)
(.block 2
(.loop
(.seq
(.seq
(F [M 44 8,
 M 45 7,
 J 46 (.bin .lss (.t 44) (.t 45))] 3)
(.cond (.t 46)
.skip
(.exit 2)))
(.seq
(.block 3
(.seq
(.eN [J 49 (.aK 0 (.t 4)),
 J 50 (.load none (.t 49)),
 M 51 7,
 J 52 (.bJ 10 (.t 50) (.t 51)),
 J 53 (.aK 0 (.t 52)),
 J 54 (.load (some 2) (.t 53)),
 J 55 (.aK 0 (.t 4)),
 J 56 (.load none (.t 55)),
 M 57 8,
 J 58 (.bJ 10 (.t 56) (.t 57)),
 J 59 (.aK 0 (.t 58)),
 J 60 (.load (some 2) (.t 59)),
 J 61 (.eqv false [true,true] (.t 54) (.t 60))] [0,
1,
0,
7,
15,
31,
0,
64,
0,
448,
960,
1984,
4095] true)
(.cond (.t 61)
(.seq
(F [J 62 (.call (C 10) []),
 M 6 62] 2)
.ret)
.skip)))
(F [M 47 8,
 J 48 (.bin .add (.t 47) (Z 1)),
 M 8 48] 3)))))))
(F [M 42 7,
 J 43 (.bin .add (.t 42) (Z 1)),
 M 7 43] 3))))))
(.seq
(.eN [M 64 0,
 J 65 (.call (C 11) [(.t 64)]),
 J 66 (.load (some 2) (.t 4)),
 J 67 (.load (some 29) (.t 5)),
 J 68 (.call (C 12) [(.t 65),(.t 66),(.t 67)]),
 M 63 68,
 J 69 (.ext 0 (.t 63)),
 J 70 (.ext 1 (.t 63)),
 J 71 (.ext 2 (.t 63)),
 J 9 (.alloc 45 [b8 0,aA 0,b8 0,aA 0,aA 0,(.d .ay),bz 0]),
 J 10 (.alloc 26 [(.d .ay),(.d .ay)]),
 N (.store 7 (.t 9) (.t 69)),
 N (.store 2 (.t 10) (.t 70)),
 M 11 71] [0,
1,
0,
0,
15,
31,
63,
63,
63,
0,
0,
1663,
3839,
8191] true)
(.seq
(.seq
(F (J 72 (.aK 0 (.t 10))::
 J 73 (.load none (.t 72))::
 J 74 (.len (.t 73))::
 J 75 (.aK 0 (.t 4))::
 J 76 (.load none (.t 75))::
 J 77 (.len (.t 76))::
 J 78 (.bin .neq (.t 74) (.t 77))::
 M 79 78::
 G 80 11 79 false::
 H 81 (.bin .eql (.t 80) (.k (b8 1))) 79 false::
 H 82 (.aK 5 (.t 9)) 79 false::
 H 83 (.load none (.t 82)) 79 false::
 H 84 (.len (.t 83)) 79 false::
 H 85 (.bin .gtr (.t 84) (Z 0)) 79 false::
 H 86 (.nE true (.t 81) (.t 85)) 79 false::
 J 87 (.pick (.t 79) (B true) (.t 86))::[]) 16)
(.cond (.t 87)
(.seq
(F [J 6 (.mv (B false))] 1)
.ret)
.skip))
(.seq
(F [J 12 (.mv (.k (bz 0)))] 1)
(.seq
(.seq
(F [J 13 (.mv (Z 0))] 1)
(.block 4
(.loop
(.seq
(.seq
(F [M 88 13,
 J 89 (.aK 0 (.t 4)),
 J 90 (.load none (.t 89)),
 J 91 (.len (.t 90)),
 J 92 (.bin .lss (.t 88) (.t 91))] 5)
(.cond (.t 92)
.skip
(.exit 4)))
(.seq
(.block 5
(.seq
(.eN [J 95 (.aK 0 (.t 4)),
 J 96 (.load none (.t 95)),
 M 97 13,
 J 98 (.bJ 10 (.t 96) (.t 97)),
 J 99 (.load (some 10) (.t 98)),
 J 100 (.aK 0 (.t 10)),
 J 101 (.load none (.t 100)),
 M 102 13,
 J 103 (.bJ 10 (.t 101) (.t 102)),
 J 104 (.load (some 10) (.t 103)),
 J 14 (.alloc 58 [b8 0,aA 0,aA 0,aA 0,aA 0,b8 0,aA 0,(.d .ay),(.d .ay),b8 0]),
 J 15 (.alloc 58 [b8 0,aA 0,aA 0,aA 0,aA 0,b8 0,aA 0,(.d .ay),(.d .ay),b8 0]),
 N (.store 10 (.t 14) (.t 99)),
 N (.store 10 (.t 15) (.t 104))] [0,
1,
0,
7,
15,
0,
32,
0,
224,
480,
0,
0,
3103,
8191] true)
(.seq
(F [J 16 (.mv (.k (.d (.int .i64 (-1)))))] 1)
(.seq
(.seq
(F [J 17 (.mv (Z 0))] 1)
(.block 6
(.loop
(.seq
(.seq
(F [M 105 17,
 J 106 (.aK 5 (.t 9)),
 J 107 (.load none (.t 106)),
 J 108 (.len (.t 107)),
 J 109 (.bin .lss (.t 105) (.t 108))] 5)
(.cond (.t 109)
.skip
(.exit 6)))
(.seq
(.block 7
(.seq
(.eN [J 112 (.aK 5 (.t 9)),
 J 113 (.load none (.t 112)),
 M 114 17,
 J 115 (.bJ 8 (.t 113) (.t 114)),
 J 116 (.aK 0 (.t 115)),
 J 117 (.load (some 2) (.t 116)),
 J 118 (.aK 0 (.t 14)),
 J 119 (.load (some 2) (.t 118)),
 J 120 (.eqv false [true,true] (.t 117) (.t 119))] [0,
1,
0,
7,
15,
31,
0,
64,
255] true)
(.cond (.t 120)
(F [M 121 17,
 M 16 121] 2)
.skip)))
(F [M 110 17,
 J 111 (.bin .add (.t 110) (Z 1)),
 M 17 111] 3))))))
(.seq
(.seq
(F [M 122 16,
 J 123 (.bin .lss (.t 122) (Z 0))] 2)
(.cond (.t 123)
(.seq
(.seq
(F [J 124 (.load (some 10) (.t 14)),
 J 125 (.jL 58 10 1 [b8 0,aA 0,aA 0,aA 0,aA 0,b8 0,aA 0,(.d .ay),(.d .ay),b8 0] [(0,10,(.t 124))]),
 J 126 (.load (some 10) (.t 15)),
 J 127 (.jL 58 10 1 [b8 0,aA 0,aA 0,aA 0,aA 0,b8 0,aA 0,(.d .ay),(.d .ay),b8 0] [(0,10,(.t 126))]),
 J 128 (.call (C 13) [(.t 125),(.t 127)]),
 J 129 (.not (.t 128))] 6)
(.cond (.t 129)
(.seq
(F [J 6 (.mv (B false))] 1)
.ret)
.skip))
(.exit 5))
.skip))
(.seq
(F [J 130 (.aK 5 (.t 9)),
 J 131 (.load none (.t 130)),
 M 132 16,
 J 133 (.bJ 8 (.t 131) (.t 132)),
 J 134 (.load (some 8) (.t 133)),
 J 18 (.alloc 60 [b8 0,aA 0,b8 0,aA 0,aA 0,aA 0,aA 0,(.d .ay)]),
 N (.store 8 (.t 18) (.t 134))] 7)
(.seq
(F [J 19 (.mv (B false))] 1)
(.seq
(.seq
(F [J 20 (.mv (Z 0))] 1)
(.block 8
(.loop
(.seq
(.seq
(F [M 135 20,
 J 136 (.aK 7 (.t 14)),
 J 137 (.load none (.t 136)),
 J 138 (.len (.t 137)),
 J 139 (.bin .lss (.t 135) (.t 138))] 5)
(.cond (.t 139)
.skip
(.exit 8)))
(.seq
(.block 9
(.eN [M 142 19,
 M 143 142,
 H 144 (.aK 7 (.t 14)) 143 false,
 H 145 (.load none (.t 144)) 143 false,
 G 146 20 143 false,
 H 147 (.bJ 1 (.t 145) (.t 146)) 143 false,
 H 148 (.load none (.t 147)) 143 false,
 H 149 (.aK 11 (.t 5)) 143 false,
 H 150 (.load none (.t 149)) 143 false,
 H 151 (.bin .neq (.t 148) (.t 150)) 143 false,
 J 152 (.pick (.t 143) (B true) (.t 151)),
 M 19 152] [0,
1,
3,
7,
3,
31,
63,
3,
131,
511,
1023,
2047] true))
(F [M 140 20,
 J 141 (.bin .add (.t 140) (Z 1)),
 M 20 141] 3))))))
(.seq
(.seq
(F (J 153 (.aK 9 (.t 14))::
 J 154 (.load none (.t 153))::
 J 155 (.bin .neq (.t 154) (.k (b8 0)))::
 M 156 155::
 H 157 (.aK 9 (.t 15)) 156 false::
 H 158 (.load none (.t 157)) 156 false::
 H 159 (.bin .neq (.t 158) (.k (b8 2))) 156 false::
 J 160 (.pick (.t 156) (B true) (.t 159))::
 M 161 160::
 G 162 19 161 false::
 H 163 (.not (.t 162)) 161 false::
 J 164 (.pick (.t 161) (B true) (.t 163))::
 M 165 164::
 H 166 (.aK 8 (.t 14)) 165 false::
 H 167 (.load none (.t 166)) 165 false::
 H 168 (.len (.t 167)) 165 false::
 H 169 (.bin .gtr (.t 168) (Z 0)) 165 false::
 J 170 (.pick (.t 165) (B true) (.t 169))::
 M 171 170::
 H 172 (.aK 2 (.t 18)) 171 false::
 H 173 (.load (some 2) (.t 172)) 171 false::
 H 174 (.aK 5 (.t 14)) 171 false::
 H 175 (.load (some 2) (.t 174)) 171 false::
 H 176 (.eqv true [true,true] (.t 173) (.t 175)) 171 false::
 J 177 (.pick (.t 171) (B true) (.t 176))::
 M 178 177::
 H 179 (.aK 5 (.t 18)) 178 false::
 H 180 (.load none (.t 179)) 178 false::
 H 181 (.aK 3 (.t 14)) 178 false::
 H 182 (.load none (.t 181)) 178 false::
 H 183 (.bin .neq (.t 180) (.t 182)) 178 false::
 J 184 (.pick (.t 178) (B true) (.t 183))::
 M 185 184::
 H 186 (.aK 6 (.t 18)) 185 false::
 H 187 (.load none (.t 186)) 185 false::
 H 188 (.aK 4 (.t 14)) 185 false::
 H 189 (.load none (.t 188)) 185 false::
 H 190 (.bin .neq (.t 187) (.t 189)) 185 false::
 J 191 (.pick (.t 185) (B true) (.t 190))::
 M 192 191::
 H 193 (.aK 4 (.t 18)) 192 false::
 H 194 (.load none (.t 193)) 192 false::
 H 195 (.aK 2 (.t 14)) 192 false::
 H 196 (.load none (.t 195)) 192 false::
 H 197 (.bin .neq (.t 194) (.t 196)) 192 false::
 J 198 (.pick (.t 192) (B true) (.t 197))::
 M 199 198::
 H 200 (.aK 7 (.t 18)) 199 false::
 H 201 (.load none (.t 200)) 199 false::
 H 202 (.len (.t 201)) 199 false::
 H 203 (.aK 7 (.t 14)) 199 false::
 H 204 (.load none (.t 203)) 199 false::
 H 205 (.len (.t 204)) 199 false::
 H 206 (.bin .neq (.t 202) (.t 205)) 199 false::
 J 207 (.pick (.t 199) (B true) (.t 206))::[]) 55)
(.cond (.t 207)
(.seq
(F [J 6 (.mv (B false))] 1)
.ret)
.skip))
(F [M 208 12,
 J 209 (.aK 3 (.t 14)),
 J 210 (.load none (.t 209)),
 J 211 (.conv .u64 (.t 210)),
 J 212 (.aK 4 (.t 14)),
 J 213 (.load none (.t 212)),
 J 214 (.conv .u64 (.t 213)),
 J 215 (.bin .mul (.t 211) (.t 214)),
 J 216 (.bin .add (.t 208) (.t 215)),
 M 12 216] 10))))))))))
(F [M 93 13,
 J 94 (.bin .add (.t 93) (Z 1)),
 M 13 94] 3))))))
(.seq
(F [M 217 12,
 J 218 (.aK 6 (.t 9)),
 J 219 (.load none (.t 218)),
 J 220 (.bin .eql (.t 217) (.t 219)),
 M 221 220,
 H 222 (.call (C 10) []) 221 true,
 J 223 (.pick (.t 221) (.t 222) (B false)),
 M 6 223] 8)
.ret))))))))
def rv:List RV:=[.tmp 6]
theorem enter:En Try.prog 4 224 s rv:=En.mk (c:= Try.f4.body.getD .ret) Try.func4 rfl (by kernel_rfl) (by kernel_rfl) (by kernel_rfl) (by kernel_rfl)
end law23_ClaimEyes
namespace law23_ClaimTurned
abbrev f:Nat:=5
def s:cG:=(.seq
(F [J 4 (.box 26 (.t 1)),
 J 5 (.box 35 (.t 2)),
 J 6 (.mv (B false))] 3)
(.seq
(.seq
(F [M 18 0,
 J 19 (.call (C 6) [(.t 18)]),
 M 20 19,
 G 21 0 20 false,
 H 22 (.len (.t 21)) 20 false,
 H 23 (.bin .gtr (.t 22) (Z 50)) 20 false,
 J 24 (.pick (.t 20) (B true) (.t 23)),
 M 25 24,
 H 26 (.aK 0 (.t 4)) 25 false,
 H 27 (.load none (.t 26)) 25 false,
 H 28 (.aK 1 (.t 4)) 25 false,
 H 29 (.load none (.t 28)) 25 false,
 H 30 (.load (some 29) (.t 5)) 25 false,
 H 31 (.call (C 7) [(.t 27),(.t 29),(.t 30)]) 25 false,
 J 32 (.pick (.t 25) (B true) (.t 31))] 15)
(.cond (.t 32)
(.seq
(F [J 33 (.call (C 10) []),
 M 6 33] 2)
.ret)
.skip))
(.seq
(F [J 34 (.load (some 29) (.t 5)),
 J 7 (.alloc 35 dm),
 N (.store 29 (.t 7) (.t 34))] 3)
(.seq
(F [J 35 (.aK 28 (.t 7)),
 N (.store 1 (.t 35) (.k (.d .ay)))] 2)
(.seq
(.seq
(F [J 36 (.aK 28 (.t 5)),
 J 37 (.load none (.t 36)),
 J 38 (.len (.t 37)),
 J 39 (.bin .sub (.t 38) (Z 1)),
 M 8 39] 5)
(.block 0
(.loop
(.seq
(.seq
(F [M 40 8,
 J 41 (.bin .geq (.t 40) (Z 0))] 2)
(.cond (.t 41)
.skip
(.exit 0)))
(.seq
(.block 1
(.seq
(.eN [J 44 (.aK 28 (.t 7)),
 J 45 (.load none (.t 44)),
 J 46 (.aK 28 (.t 5)),
 J 47 (.load none (.t 46)),
 M 48 8,
 J 49 (.bJ 4 (.t 47) (.t 48)),
 J 50 (.load (some 4) (.t 49)),
 J 51 (.jL 62 4 1 [b8 0,aA 0,b8 0,aA 0] [(0,4,(.t 50))]),
 J 52 (.app 62 4 16 (.t 45) (.t 51)),
 J 53 (.aK 28 (.t 7)),
 N (.store 1 (.t 53) (.t 52))] [0,
1,
0,
4,
0,
28,
60,
124,
255,
511,
1023] true)
(.seq
(F [J 9 (.mv (Z 0))] 1)
(.block 2
(.loop
(.seq
(.seq
(F [M 54 9,
 M 55 8,
 J 56 (.bin .lss (.t 54) (.t 55))] 3)
(.cond (.t 56)
.skip
(.exit 2)))
(.seq
(.block 3
(.seq
(.eN [J 59 (.aK 28 (.t 5)),
 J 60 (.load none (.t 59)),
 M 61 9,
 J 62 (.bJ 4 (.t 60) (.t 61)),
 J 63 (.aK 0 (.t 62)),
 J 64 (.load (some 2) (.t 63)),
 J 65 (.aK 28 (.t 5)),
 J 66 (.load none (.t 65)),
 M 67 8,
 J 68 (.bJ 4 (.t 66) (.t 67)),
 J 69 (.aK 0 (.t 68)),
 J 70 (.load (some 2) (.t 69)),
 J 71 (.eqv false [true,true] (.t 64) (.t 70))] [0,
1,
0,
7,
15,
31,
0,
64,
0,
448,
960,
1984,
4095] true)
(.cond (.t 71)
(.seq
(F [J 72 (.call (C 10) []),
 M 6 72] 2)
.ret)
.skip)))
(F [M 57 9,
 J 58 (.bin .add (.t 57) (Z 1)),
 M 9 58] 3))))))))
(F [M 42 8,
 J 43 (.bin .sub (.t 42) (Z 1)),
 M 8 43] 3))))))
(.seq
(F [M 73 0,
 J 74 (.call (C 11) [(.t 73)]),
 M 10 74] 3)
(.seq
(F [M 76 10,
 J 77 (.load (some 2) (.t 4)),
 J 78 (.load (some 29) (.t 5)),
 J 79 (.call (C 12) [(.t 76),(.t 77),(.t 78)]),
 M 75 79,
 J 80 (.ext 0 (.t 75)),
 J 81 (.ext 1 (.t 75)),
 J 82 (.ext 2 (.t 75)),
 J 11 (.alloc 45 [b8 0,aA 0,b8 0,aA 0,aA 0,(.d .ay),bz 0]),
 J 12 (.alloc 26 [(.d .ay),(.d .ay)]),
 N (.store 7 (.t 11) (.t 80)),
 N (.store 2 (.t 12) (.t 81)),
 M 13 82] 13)
(.seq
(F [M 84 10,
 J 85 (.load (some 2) (.t 4)),
 J 86 (.load (some 29) (.t 7)),
 J 87 (.call (C 12) [(.t 84),(.t 85),(.t 86)]),
 M 83 87,
 J 88 (.ext 0 (.t 83)),
 J 89 (.ext 1 (.t 83)),
 J 90 (.ext 2 (.t 83)),
 J 14 (.alloc 45 [b8 0,aA 0,b8 0,aA 0,aA 0,(.d .ay),bz 0]),
 J 15 (.alloc 26 [(.d .ay),(.d .ay)]),
 N (.store 7 (.t 14) (.t 88)),
 N (.store 2 (.t 15) (.t 89)),
 M 16 90] 13)
(.seq
(.seq
(F (M 91 13::
 M 92 16::
 J 93 (.bin .neq (.t 91) (.t 92))::
 M 94 93::
 H 95 (.aK 6 (.t 11)) 94 false::
 H 96 (.load none (.t 95)) 94 false::
 H 97 (.aK 6 (.t 14)) 94 false::
 H 98 (.load none (.t 97)) 94 false::
 H 99 (.bin .neq (.t 96) (.t 98)) 94 false::
 J 100 (.pick (.t 94) (B true) (.t 99))::
 M 101 100::
 H 102 (.aK 5 (.t 11)) 101 false::
 H 103 (.load none (.t 102)) 101 false::
 H 104 (.len (.t 103)) 101 false::
 H 105 (.aK 5 (.t 14)) 101 false::
 H 106 (.load none (.t 105)) 101 false::
 H 107 (.len (.t 106)) 101 false::
 H 108 (.bin .neq (.t 104) (.t 107)) 101 false::
 J 109 (.pick (.t 101) (B true) (.t 108))::
 M 110 109::
 H 111 (.aK 0 (.t 12)) 110 false::
 H 112 (.load none (.t 111)) 110 false::
 H 113 (.aK 0 (.t 15)) 110 false::
 H 114 (.load none (.t 113)) 110 false::
 H 115 (.call (C 13) [(.t 112),(.t 114)]) 110 false::
 H 116 (.not (.t 115)) 110 false::
 J 117 (.pick (.t 110) (B true) (.t 116))::
 M 118 117::
 H 119 (.aK 1 (.t 12)) 118 false::
 H 120 (.load none (.t 119)) 118 false::
 H 121 (.aK 1 (.t 15)) 118 false::
 H 122 (.load none (.t 121)) 118 false::
 H 123 (.call (C 8) [(.t 120),(.t 122)]) 118 false::
 H 124 (.not (.t 123)) 118 false::
 J 125 (.pick (.t 118) (B true) (.t 124))::[]) 35)
(.cond (.t 125)
(.seq
(F [J 6 (.mv (B false))] 1)
.ret)
.skip))
(.seq
(.seq
(F [J 17 (.mv (Z 0))] 1)
(.block 4
(.loop
(.seq
(.seq
(F [M 126 17,
 J 127 (.aK 5 (.t 11)),
 J 128 (.load none (.t 127)),
 J 129 (.len (.t 128)),
 J 130 (.bin .lss (.t 126) (.t 129))] 5)
(.cond (.t 130)
.skip
(.exit 4)))
(.seq
(.block 5
(.seq
(.eN (J 133 (.aK 5 (.t 11))::
 J 134 (.load none (.t 133))::
 M 135 17::
 J 136 (.bJ 8 (.t 134) (.t 135))::
 J 137 (.aK 0 (.t 136))::
 J 138 (.load (some 2) (.t 137))::
 J 139 (.aK 5 (.t 14))::
 J 140 (.load none (.t 139))::
 J 141 (.aK 5 (.t 14))::
 J 142 (.load none (.t 141))::
 J 143 (.len (.t 142))::
 J 144 (.bin .sub (.t 143) (Z 1))::
 M 145 17::
 J 146 (.bin .sub (.t 144) (.t 145))::
 J 147 (.bJ 8 (.t 140) (.t 146))::
 J 148 (.aK 0 (.t 147))::
 J 149 (.load (some 2) (.t 148))::
 J 150 (.eqv true [true,true] (.t 138) (.t 149))::[]) (0::
1::
0::
7::
15::
31::
0::
64::
0::
256::
768::
1792::
0::
7936::
16320::
32704::
65472::
131071::[]) true)
(.cond (.t 150)
(.seq
(F [J 6 (.mv (B false))] 1)
.ret)
.skip)))
(F [M 131 17,
 J 132 (.bin .add (.t 131) (Z 1)),
 M 17 132] 3))))))
(.seq
(F [J 151 (.call (C 10) []),
 M 6 151] 2)
.ret)))))))))))
def rv:List RV:=[.tmp 6]
theorem enter:En Try.prog 5 152 s rv:=En.mk (c:= Try.f5.body.getD .ret) Try.func5 rfl (by kernel_rfl) (by kernel_rfl) (by kernel_rfl) (by kernel_rfl)
end law23_ClaimTurned
namespace ref10_Great
abbrev f:Nat:=6
def s:cG:=(.seq
(F [J 2 (.mv (B false))] 1)
(.seq
(F [J 3 (.mv (Z 0))] 1)
(.seq
(.seq
(F [J 4 (.mv (Z 0))] 1)
(.block 0
(.loop
(.seq
(.seq
(F [M 5 4,
 M 6 0,
 J 7 (.len (.t 6)),
 J 8 (.bin .lss (.t 5) (.t 7)),
 M 9 8,
 G 10 4 9 true,
 H 11 (.bin .lss (.t 10) (Z 100)) 9 true,
 J 12 (.pick (.t 9) (.t 11) (B false))] 8)
(.cond (.t 12)
.skip
(.exit 0)))
(.seq
(.block 1
(F [M 15 3,
 M 16 0,
 M 17 4,
 J 18 (.bJ 29 (.t 16) (.t 17)),
 J 19 (.aK 28 (.t 18)),
 J 20 (.load none (.t 19)),
 J 21 (.len (.t 20)),
 J 22 (.bin .add (.t 15) (.t 21)),
 M 3 22] 9))
(F [M 13 4,
 J 14 (.bin .add (.t 13) (Z 1)),
 M 4 14] 3))))))
(.seq
(F [M 23 0,
 J 24 (.len (.t 23)),
 J 25 (.bin .gtr (.t 24) (Z 80)),
 M 26 25,
 G 27 3 26 false,
 H 28 (.bin .gtr (.t 27) (Z 300)) 26 false,
 J 29 (.pick (.t 26) (B true) (.t 28)),
 M 2 29] 8)
.ret))))
def rv:List RV:=[.tmp 2]
theorem enter:En Try.prog 6 30 s rv:=En.mk (c:= Try.f6.body.getD .ret) Try.func6 rfl (by kernel_rfl) (by kernel_rfl) (by kernel_rfl) (by kernel_rfl)
end ref10_Great
namespace ref23_Great
abbrev f:Nat:=7
def s:cG:=(.seq
(F [J 5 (.box 35 (.t 2)),
 J 6 (.mv (B false))] 2)
(.seq
(.seq
(F [J 7 (.mv (Z 0))] 1)
(.block 0
(.loop
(.seq
(.seq
(F [M 8 7,
 M 9 0,
 J 10 (.len (.t 9)),
 J 11 (.bin .lss (.t 8) (.t 10)),
 M 12 11,
 G 13 7 12 true,
 H 14 (.bin .lss (.t 13) (Z 50)) 12 true,
 J 15 (.pick (.t 12) (.t 14) (B false))] 8)
(.cond (.t 15)
.skip
(.exit 0)))
(.seq
(.block 1
(.seq
(F (M 18 0::
 M 19 7::
 J 20 (.bJ 10 (.t 18) (.t 19))::
 J 21 (.aK 7 (.t 20))::
 J 22 (.load none (.t 21))::
 J 23 (.len (.t 22))::
 J 24 (.bin .gtr (.t 23) (Z 30))::
 M 25 24::
 G 26 0 25 false::
 G 27 7 25 false::
 H 28 (.bJ 10 (.t 26) (.t 27)) 25 false::
 H 29 (.aK 8 (.t 28)) 25 false::
 H 30 (.load none (.t 29)) 25 false::
 H 31 (.len (.t 30)) 25 false::
 H 32 (.bin .gtr (.t 31) (Z 30)) 25 false::
 J 33 (.pick (.t 25) (B true) (.t 32))::
 M 34 33::
 G 35 0 34 false::
 G 36 7 34 false::
 H 37 (.bJ 10 (.t 35) (.t 36)) 34 false::
 H 38 (.load (some 10) (.t 37)) 34 false::
 H 39 (.call (C 17) [(.t 38)]) 34 false::
 H 40 (.not (.t 39)) 34 false::
 J 41 (.pick (.t 34) (B true) (.t 40))::[]) 24)
(.cond (.t 41)
(.seq
(F [J 6 (.mv (B true))] 1)
.ret)
.skip)))
(F [M 16 7,
 J 17 (.bin .add (.t 16) (Z 1)),
 M 7 17] 3))))))
(.seq
(F [M 42 0,
 J 43 (.len (.t 42)),
 J 44 (.bin .gtr (.t 43) (Z 40)),
 M 45 44,
 G 46 1 45 false,
 H 47 (.len (.t 46)) 45 false,
 H 48 (.bin .gtr (.t 47) (Z 40)) 45 false,
 J 49 (.pick (.t 45) (B true) (.t 48)),
 M 50 49,
 H 51 (.aK 28 (.t 5)) 50 false,
 H 52 (.load none (.t 51)) 50 false,
 H 53 (.len (.t 52)) 50 false,
 H 54 (.bin .gtr (.t 53) (Z 40)) 50 false,
 J 55 (.pick (.t 50) (B true) (.t 54)),
 M 6 55] 15)
.ret)))
def rv:List RV:=[.tmp 6]
theorem enter:En Try.prog 7 56 s rv:=En.mk (c:= Try.f7.body.getD .ret) Try.func7 rfl (by kernel_rfl) (by kernel_rfl) (by kernel_rfl) (by kernel_rfl)
end ref23_Great
namespace ref22_Same
abbrev f:Nat:=8
def s:cG:=(.seq
(F [J 4 (.mv (B false))] 1)
(.seq
(.seq
(F [M 6 0,
 J 7 (.len (.t 6)),
 M 8 1,
 J 9 (.len (.t 8)),
 J 10 (.bin .neq (.t 7) (.t 9))] 5)
(.cond (.t 10)
(.seq
(F [J 4 (.mv (B false))] 1)
.ret)
.skip))
(.seq
(.seq
(F [J 5 (.mv (Z 0))] 1)
(.block 0
(.loop
(.seq
(.seq
(F [M 11 5,
 M 12 0,
 J 13 (.len (.t 12)),
 J 14 (.bin .lss (.t 11) (.t 13))] 4)
(.cond (.t 14)
.skip
(.exit 0)))
(.seq
(.block 1
(.seq
(.eN [M 17 0,
 M 18 5,
 J 19 (.bJ 3 (.t 17) (.t 18)),
 J 20 (.load (some 3) (.t 19)),
 M 21 1,
 M 22 5,
 J 23 (.bJ 3 (.t 21) (.t 22)),
 J 24 (.load (some 3) (.t 23)),
 J 25 (.eqv true [true,true,true] (.t 20) (.t 24))] [0,
0,
3,
7,
0,
0,
48,
112,
255] true)
(.cond (.t 25)
(.seq
(F [J 4 (.mv (B false))] 1)
.ret)
.skip)))
(F [M 15 5,
 J 16 (.bin .add (.t 15) (Z 1)),
 M 5 16] 3))))))
(.seq
(F [J 4 (.mv (B true))] 1)
.ret))))
def rv:List RV:=[.tmp 4]
theorem enter:En Try.prog 8 26 s rv:=En.mk (c:= Try.f8.body.getD .ret) Try.func8 rfl (by kernel_rfl) (by kernel_rfl) (by kernel_rfl) (by kernel_rfl)
end ref22_Same
namespace ref22_Plain
abbrev f:Nat:=9
def s:cG:=(.seq
(F [J 2 (.mv (.k (.d .ay)))] 1)
(.seq
(F [J 3 (.mv (.k (.d .ay)))] 1)
(.seq
(.seq
(F [J 4 (.mv (Z 0))] 1)
(.block 0
(.loop
(.seq
(.seq
(F [M 8 4,
 M 9 0,
 J 10 (.len (.t 9)),
 J 11 (.bin .lss (.t 8) (.t 10))] 4)
(.cond (.t 11)
.skip
(.exit 0)))
(.seq
(.block 1
(F [M 14 3,
 M 15 0,
 M 16 4,
 J 17 (.bJ 3 (.t 15) (.t 16)),
 J 18 (.aK 0 (.t 17)),
 J 19 (.load (some 2) (.t 18)),
 J 20 (.jL 29 2 1 [b8 0,aA 0] [(0,2,(.t 19))]),
 J 21 (.app 29 2 8 (.t 14) (.t 20)),
 M 3 21] 9))
(F [M 12 4,
 J 13 (.bin .add (.t 12) (Z 1)),
 M 4 13] 3))))))
(.seq
(F [M 22 3,
 J 23 (.call (C 18) [(.t 22)]),
 M 3 23] 3)
(.seq
(F [J 5 (.mv (.k (.d .ay)))] 1)
(.seq
(.seq
(F [J 6 (.mv (Z 0))] 1)
(.block 2
(.loop
(.seq
(.seq
(F [M 24 6,
 M 25 3,
 J 26 (.len (.t 25)),
 J 27 (.bin .lss (.t 24) (.t 26))] 4)
(.cond (.t 27)
.skip
(.exit 2)))
(.seq
(.block 3
(.seq
(F [M 30 0,
 M 31 3,
 M 32 6,
 J 33 (.bJ 2 (.t 31) (.t 32)),
 J 34 (.load (some 2) (.t 33)),
 J 35 (.call (C 15) [(.t 30),(.t 34)]),
 M 7 35] 7)
(.seq
(F [M 36 7,
 J 37 (.bin .gtr (.t 36) (.k (bz 0)))] 2)
(.cond (.t 37)
(F [M 38 5,
 M 39 3,
 M 40 6,
 J 41 (.bJ 2 (.t 39) (.t 40)),
 J 42 (.load (some 2) (.t 41)),
 M 43 7,
 J 44 (.fZ [b8 0,aA 0,bz 0] [(0,2,(.t 42)),(2,1,(.t 43))]),
 J 45 (.jL 65 3 1 [b8 0,aA 0,bz 0] [(0,3,(.t 44))]),
 J 46 (.app 65 3 16 (.t 38) (.t 45)),
 M 5 46] 10)
.skip))))
(F [M 28 6,
 J 29 (.bin .add (.t 28) (Z 1)),
 M 6 29] 3))))))
(.seq
(F [M 47 5,
 M 2 47] 2)
.ret)))))))
def rv:List RV:=[.tmp 2]
theorem enter:En Try.prog 9 48 s rv:=En.mk (c:= Try.f9.body.getD .ret) Try.func9 rfl (by kernel_rfl) (by kernel_rfl) (by kernel_rfl) (by kernel_rfl)
end ref22_Plain
namespace law23_head
abbrev f:Nat:=10
def s:cG:=(.seq
(F [J 0 (.mv (B false))] 1)
(.seq
(F [J 29 (.fZ [b8 0,aA 0] [(1,1,(.k (aA 1)))]),
 J 1 (.alloc 29 [b8 0,aA 0]),
 N (.store 2 (.t 1) (.t 29))] 3)
(.seq
(F [J 30 (.load (some 2) (.t 1)),
 J 31 (.load (some 2) (.t 1)),
 J 32 (.fZ dm [(0,2,(.t 30)),(10,1,(.k (bz 1))),(11,1,(.k (aA 1))),(12,2,(.t 31))]),
 J 33 (.jL 35 29 1 dm [(0,29,(.t 32))]),
 J 34 (.call (C 11) [(.t 33)]),
 M 2 34] 6)
(.seq
(F [J 35 (.fZ [b8 0,aA 0] [(1,1,(.k (aA 2)))]),
 J 36 (.fZ [b8 0,aA 0] [(1,1,(.k (aA 3)))]),
 J 3 (.alloc 29 [b8 0,aA 0]),
 J 4 (.alloc 29 [b8 0,aA 0]),
 N (.store 2 (.t 3) (.t 35)),
 N (.store 2 (.t 4) (.t 36))] 6)
(.seq
(F [J 37 (.load (some 2) (.t 3)),
 J 38 (.load (some 2) (.t 3)),
 J 39 (.jL 27 1 1 [aA 0] [(0,1,(.k (aA 7)))]),
 J 40 (.fZ [b8 0,aA 0,aA 0,aA 0,aA 0,b8 0,aA 0,(.d .ay),(.d .ay),b8 0] [(0,2,(.t 37)),(5,2,(.t 38)),(3,1,(.k (aA 2))),(4,1,(.k (aA 10))),(7,1,(.t 39))]),
 J 41 (.load (some 2) (.t 4)),
 J 42 (.load (some 2) (.t 4)),
 J 43 (.fZ [b8 0,aA 0,aA 0,aA 0,aA 0,b8 0,aA 0,(.d .ay),(.d .ay),b8 0] [(0,2,(.t 41)),(5,2,(.t 42)),(3,1,(.k (aA 1))),(4,1,(.k (aA 5)))]),
 J 44 (.jL 58 10 2 [b8 0,aA 0,aA 0,aA 0,aA 0,b8 0,aA 0,(.d .ay),(.d .ay),b8 0,b8 0,aA 0,aA 0,aA 0,aA 0,b8 0,aA 0,(.d .ay),(.d .ay),b8 0] [(0,10,(.t 40)),(10,10,(.t 43))]),
 J 45 (.fZ [(.d .ay),(.d .ay)] [(0,1,(.t 44))]),
 J 5 (.alloc 26 [(.d .ay),(.d .ay)]),
 N (.store 2 (.t 5) (.t 45))] 11)
(.seq
(F [J 46 (.fZ [b8 0,aA 0] [(1,1,(.k (aA 9)))]),
 J 47 (.load (some 2) (.t 1)),
 J 48 (.load (some 2) (.t 1)),
 J 49 (.load (some 2) (.t 3)),
 J 50 (.load (some 2) (.t 3)),
 J 51 (.fZ [b8 0,aA 0,b8 0,aA 0] [(0,2,(.t 49)),(2,2,(.t 50))]),
 J 52 (.load (some 2) (.t 4)),
 J 53 (.load (some 2) (.t 4)),
 J 54 (.fZ [b8 0,aA 0,b8 0,aA 0] [(0,2,(.t 52)),(2,2,(.t 53))]),
 J 55 (.jL 62 4 2 [b8 0,aA 0,b8 0,aA 0,b8 0,aA 0,b8 0,aA 0] [(0,4,(.t 51)),(4,4,(.t 54))]),
 J 56 (.fZ dm [(0,2,(.t 46)),(14,1,(.k (b8 8))),(12,2,(.t 47)),(15,2,(.t 48)),(11,1,(.k (aA 1))),(28,1,(.t 55))]),
 J 6 (.alloc 35 dm),
 N (.store 29 (.t 6) (.t 56))] 13)
(.seq
(F [M 58 2,
 J 59 (.load (some 2) (.t 5)),
 J 60 (.load (some 29) (.t 6)),
 J 61 (.call (C 12) [(.t 58),(.t 59),(.t 60)]),
 M 57 61,
 J 62 (.ext 0 (.t 57)),
 J 63 (.ext 1 (.t 57)),
 J 64 (.ext 2 (.t 57)),
 J 7 (.alloc 45 [b8 0,aA 0,b8 0,aA 0,aA 0,(.d .ay),bz 0]),
 J 8 (.alloc 26 [(.d .ay),(.d .ay)]),
 N (.store 7 (.t 7) (.t 62)),
 N (.store 2 (.t 8) (.t 63)),
 M 9 64] 13)
(.seq
(F [M 66 2,
 J 67 (.load (some 2) (.t 8)),
 J 68 (.load (some 29) (.t 6)),
 J 69 (.call (C 12) [(.t 66),(.t 67),(.t 68)]),
 M 65 69,
 J 70 (.ext 0 (.t 65)),
 J 71 (.ext 1 (.t 65)),
 J 72 (.ext 2 (.t 65)),
 J 10 (.alloc 45 [b8 0,aA 0,b8 0,aA 0,aA 0,(.d .ay),bz 0]),
 J 11 (.alloc 26 [(.d .ay),(.d .ay)]),
 N (.store 7 (.t 10) (.t 70)),
 N (.store 2 (.t 11) (.t 71)),
 M 12 72] 13)
(.seq
(.eN [J 73 (.load (some 29) (.t 6)),
 J 74 (.load (some 29) (.t 6)),
 J 75 (.load (some 2) (.t 5)),
 J 13 (.alloc 35 dm),
 J 14 (.alloc 35 dm),
 J 15 (.alloc 26 [(.d .ay),(.d .ay)]),
 N (.store 29 (.t 13) (.t 73)),
 N (.store 29 (.t 14) (.t 74)),
 N (.store 2 (.t 15) (.t 75))] [0,
0,
0,
0,
0,
0,
57,
123,
255] true)
(.seq
(F [J 76 (.aK 28 (.t 6)),
 J 77 (.load none (.t 76)),
 J 78 (.slc 4 (.t 77) (some (Z 1)) none),
 J 79 (.aK 28 (.t 13)),
 N (.store 1 (.t 79) (.t 78))] 5)
(.seq
(F [J 80 (.aK 11 (.t 14)),
 N (.store 1 (.t 80) (.k (aA 7)))] 2)
(.seq
(F [J 81 (.load (some 2) (.t 1)),
 J 82 (.fZ [b8 0,aA 0,bz 0] [(0,2,(.t 81)),(2,1,(.k (bz 1099511627757)))]),
 J 83 (.jL 65 3 1 [b8 0,aA 0,bz 0] [(0,3,(.t 82))]),
 J 84 (.aK 1 (.t 15)),
 N (.store 1 (.t 84) (.t 83))] 5)
(.seq
(F [M 86 2,
 J 87 (.load (some 2) (.t 5)),
 J 88 (.load (some 29) (.t 13)),
 J 89 (.call (C 12) [(.t 86),(.t 87),(.t 88)]),
 M 85 89,
 J 90 (.ext 0 (.t 85)),
 J 91 (.ext 1 (.t 85)),
 J 92 (.ext 2 (.t 85)),
 J 16 (.alloc 45 [b8 0,aA 0,b8 0,aA 0,aA 0,(.d .ay),bz 0]),
 J 17 (.alloc 26 [(.d .ay),(.d .ay)]),
 N (.store 7 (.t 16) (.t 90)),
 N (.store 2 (.t 17) (.t 91)),
 M 18 92] 13)
(.seq
(F [M 94 2,
 J 95 (.load (some 2) (.t 5)),
 J 96 (.load (some 29) (.t 14)),
 J 97 (.call (C 12) [(.t 94),(.t 95),(.t 96)]),
 M 93 97,
 J 98 (.ext 0 (.t 93)),
 J 99 (.ext 1 (.t 93)),
 J 100 (.ext 2 (.t 93)),
 J 19 (.alloc 45 [b8 0,aA 0,b8 0,aA 0,aA 0,(.d .ay),bz 0]),
 J 20 (.alloc 26 [(.d .ay),(.d .ay)]),
 N (.store 7 (.t 19) (.t 98)),
 N (.store 2 (.t 20) (.t 99)),
 M 21 100] 13)
(.seq
(F [M 102 2,
 J 103 (.load (some 2) (.t 15)),
 J 104 (.load (some 29) (.t 6)),
 J 105 (.call (C 12) [(.t 102),(.t 103),(.t 104)]),
 M 101 105,
 J 106 (.ext 0 (.t 101)),
 J 107 (.ext 1 (.t 101)),
 J 108 (.ext 2 (.t 101)),
 J 22 (.alloc 45 [b8 0,aA 0,b8 0,aA 0,aA 0,(.d .ay),bz 0]),
 J 23 (.alloc 26 [(.d .ay),(.d .ay)]),
 N (.store 7 (.t 22) (.t 106)),
 N (.store 2 (.t 23) (.t 107)),
 M 24 108] 13)
(.seq
(F [J 110 (.load (some 2) (.t 5)),
 J 111 (.load (some 29) (.t 6)),
 J 112 (.call (C 12) [(.k (.d .ow)),(.t 110),(.t 111)]),
 M 109 112,
 J 113 (.ext 0 (.t 109)),
 J 114 (.ext 1 (.t 109)),
 J 115 (.ext 2 (.t 109)),
 J 25 (.alloc 45 [b8 0,aA 0,b8 0,aA 0,aA 0,(.d .ay),bz 0]),
 J 26 (.alloc 26 [(.d .ay),(.d .ay)]),
 N (.store 7 (.t 25) (.t 113)),
 N (.store 2 (.t 26) (.t 114)),
 M 27 115] 12)
(.seq
(F [J 116 (.aK 0 (.t 6)),
 J 117 (.load (some 2) (.t 116)),
 J 118 (.load (some 2) (.t 1)),
 J 119 (.load (some 2) (.t 3)),
 J 120 (.load (some 2) (.t 3)),
 J 121 (.jL 27 1 1 [aA 0] [(0,1,(.k (aA 7)))]),
 J 122 (.fZ [b8 0,aA 0,b8 0,aA 0,aA 0,aA 0,aA 0,(.d .ay)] [(0,2,(.t 119)),(2,2,(.t 120)),(5,1,(.k (aA 2))),(6,1,(.k (aA 10))),(7,1,(.t 121))]),
 J 123 (.jL 60 8 1 [b8 0,aA 0,b8 0,aA 0,aA 0,aA 0,aA 0,(.d .ay)] [(0,8,(.t 122))]),
 J 124 (.fZ [b8 0,aA 0,b8 0,aA 0,aA 0,(.d .ay),bz 0] [(0,2,(.t 117)),(2,2,(.t 118)),(4,1,(.k (aA 1))),(6,1,(.k (bz 20))),(5,1,(.t 123))]),
 J 28 (.alloc 45 [b8 0,aA 0,b8 0,aA 0,aA 0,(.d .ay),bz 0]),
 N (.store 7 (.t 28) (.t 124))] 11)
(.seq
(F (J 125 (.load (some 7) (.t 7))::
 J 126 (.load (some 7) (.t 28))::
 J 127 (.call (C 19) [(.t 125),(.t 126)])::
 M 128 127::
 G 129 9 128 true::
 H 130 (.bin .eql (.t 129) (.k (b8 1))) 128 true::
 J 131 (.pick (.t 128) (.t 130) (B false))::
 M 132 131::
 G 133 12 132 true::
 H 134 (.bin .eql (.t 133) (.k (b8 4))) 132 true::
 J 135 (.pick (.t 132) (.t 134) (B false))::
 M 136 135::
 G 137 18 136 true::
 H 138 (.bin .eql (.t 137) (.k (b8 4))) 136 true::
 J 139 (.pick (.t 136) (.t 138) (B false))::
 M 140 139::
 G 141 21 140 true::
 H 142 (.bin .eql (.t 141) (.k (b8 4))) 140 true::
 J 143 (.pick (.t 140) (.t 142) (B false))::
 M 144 143::
 G 145 24 144 true::
 H 146 (.bin .eql (.t 145) (.k (b8 3))) 144 true::
 J 147 (.pick (.t 144) (.t 146) (B false))::
 M 148 147::
 G 149 27 148 true::
 H 150 (.bin .eql (.t 149) (.k (b8 0))) 148 true::
 J 151 (.pick (.t 148) (.t 150) (B false))::
 M 0 151::[]) 28)
.ret))))))))))))))))))
def rv:List RV:=[.tmp 0]
theorem enter:En Try.prog 10 152 s rv:=En.mk (c:= Try.f10.body.getD .ret) Try.func10 rfl (by kernel_rfl) (by kernel_rfl) (by kernel_rfl) (by kernel_rfl)
end law23_head
namespace tree_New
abbrev f:Nat:=11
def s:cG:=(.seq
(F [J 2 (.mv (.k (.d .ow)))] 1)
(.seq
(F [J 8 (.DQ),
 J 9 (.DQ),
 J 10 (.fZ [(.d .nC),(.d .nC)] [(0,1,(.t 8)),(1,1,(.t 9))]),
 J 11 (.box 71 (.t 10)),
 M 3 11] 5)
(.seq
(F [J 12 (.DQ),
 J 4 (.alloc 72 [(.d .nC)]),
 N (.store 1 (.t 4) (.t 12))] 3)
(.seq
(F [M 13 0,
 J 14 (.call (C 21) [(.t 13)]),
 J 15 (.xZ (.func 22) [] [(.t 4)]),
 J 16 (.call (C 20) [(.t 14),(.t 15)]),
 M 5 16] 5)
(.seq
(.seq
(F [J 6 (.mv (B true))] 1)
(.block 0
(.loop
(.seq
(.seq
(F [M 17 6] 1)
(.cond (.t 17)
.skip
(.exit 0)))
(.block 1
(.seq
(F [M 18 5,
 J 19 (.len (.t 18)),
 M 7 19] 3)
(.seq
(F [M 20 5,
 M 21 3,
 J 22 (.xZ (.func 23) [(.t 21)] []),
 J 23 (.call (C 20) [(.t 20),(.t 22)]),
 M 5 23] 5)
(F [M 24 5,
 J 25 (.len (.t 24)),
 M 26 7,
 J 27 (.bin .lss (.t 25) (.t 26)),
 M 6 27] 5))))))))
(.seq
(F [M 28 3,
 M 2 28] 2)
.ret))))))
def rv:List RV:=[.tmp 2]
theorem enter:En Try.prog 11 29 s rv:=En.mk (c:= Try.f11.body.getD .ret) Try.func11 rfl (by kernel_rfl) (by kernel_rfl) (by kernel_rfl) (by kernel_rfl)
end tree_New
namespace claim_Submit
abbrev f:Nat:=12
def s:cG:=(.seq
(F [J 4 (.box 26 (.t 1)),
 J 5 (.box 35 (.t 2)),
 J 6 (.alloc 45 [b8 0,aA 0,b8 0,aA 0,aA 0,(.d .ay),bz 0]),
 J 7 (.alloc 26 [(.d .ay),(.d .ay)]),
 J 8 (.mv (.k (b8 0)))] 5)
(.seq
(.eN [J 18 (.aK 0 (.t 4)),
 J 19 (.load none (.t 18)),
 J 20 (.call (C 24) [(.t 19)]),
 J 21 (.jL 65 3 0 [] []),
 J 22 (.aK 1 (.t 4)),
 J 23 (.load none (.t 22)),
 J 24 (.app 65 3 16 (.t 21) (.t 23)),
 J 25 (.fZ [(.d .ay),(.d .ay)] [(0,1,(.t 20)),(1,1,(.t 24))]),
 J 9 (.alloc 26 [(.d .ay),(.d .ay)]),
 N (.store 2 (.t 9) (.t 25))] [0,
1,
3,
0,
0,
16,
63,
127,
0,
511] true)
(.seq
(.seq
(F [M 27 0,
 J 28 (.aK 15 (.t 5)),
 J 29 (.load (some 2) (.t 28)),
 J 30 (.call (C 25) [(.t 27),(.t 29)]),
 M 26 30,
 J 31 (.ext 0 (.t 26)),
 J 32 (.ext 1 (.t 26)),
 J 10 (.alloc 78 [b8 0,aA 0,b8 0,aA 0,b8 0,aA 0,aA 0,b8 0,b8 0,bz 0,i6 0]),
 N (.store 11 (.t 10) (.t 31)),
 M 11 32] 10)
(.seq
(F [M 33 11,
 J 34 (.bin .neq (.t 33) (Z 0)),
 M 35 34,
 H 36 (.aK 14 (.t 5)) 35 false,
 H 37 (.load none (.t 36)) 35 false,
 H 38 (.bin .neq (.t 37) (.k (b8 8))) 35 false,
 J 39 (.pick (.t 35) (B true) (.t 38))] 7)
(.cond (.t 39)
(.seq
(.eN [J 40 (.fZ [b8 0,aA 0,b8 0,aA 0,aA 0,(.d .ay),bz 0] []),
 J 41 (.load (some 2) (.t 9)),
 N (.store 7 (.t 6) (.t 40)),
 N (.store 2 (.t 7) (.t 41)),
 J 8 (.mv (.k (b8 0)))] [0,
0,
1,
7,
15] true)
.ret)
.skip)))
(.seq
(F [J 42 (.aK 0 (.t 4)),
 J 43 (.load none (.t 42)),
 J 44 (.call (C 24) [(.t 43)]),
 J 12 (.alloc 23 [(.d .ay)]),
 N (.store 1 (.t 12) (.t 44))] 5)
(.seq
(F [J 45 (.aK 0 (.t 5)),
 J 46 (.load (some 2) (.t 45)),
 J 47 (.aK 15 (.t 5)),
 J 48 (.load (some 2) (.t 47)),
 J 49 (.aK 11 (.t 5)),
 J 50 (.load none (.t 49)),
 J 51 (.fZ [b8 0,aA 0,b8 0,aA 0,aA 0,(.d .ay),bz 0] [(0,2,(.t 46)),(2,2,(.t 48)),(4,1,(.t 50))]),
 J 13 (.alloc 45 [b8 0,aA 0,b8 0,aA 0,aA 0,(.d .ay),bz 0]),
 N (.store 7 (.t 13) (.t 51))] 9)
(.seq
(.seq
(F [J 52 (.load none (.t 12)),
 J 53 (.load (some 29) (.t 5)),
 J 54 (.call (C 26) [(.t 52),(.t 53)])] 3)
(.block 0
(.tL (.t 54) [55,56]
(F [M 15 56] 1)
(.block 1
(.seq
(.eN [J 57 (.aK 5 (.t 13)),
 J 58 (.load none (.t 57)),
 J 59 (.load none (.t 12)),
 M 60 15,
 J 61 (.bJ 10 (.t 59) (.t 60)),
 J 62 (.load (some 10) (.t 61)),
 J 63 (.call (C 27) [(.t 62)]),
 J 64 (.jL 60 8 1 [b8 0,aA 0,b8 0,aA 0,aA 0,aA 0,aA 0,(.d .ay)] [(0,8,(.t 63))]),
 J 65 (.app 60 8 56 (.t 58) (.t 64)),
 J 66 (.aK 5 (.t 13)),
 N (.store 1 (.t 66) (.t 65))] [0,
1,
0,
0,
12,
28,
60,
124,
255,
511,
1023] true)
(.eN [J 67 (.aK 6 (.t 13)),
 J 68 (.load none (.t 67)),
 J 69 (.load none (.t 12)),
 M 70 15,
 J 71 (.bJ 10 (.t 69) (.t 70)),
 J 72 (.load (some 10) (.t 71)),
 J 73 (.call (C 28) [(.t 72)]),
 J 74 (.bin .add (.t 68) (.t 73)),
 J 75 (.aK 6 (.t 13)),
 N (.store 1 (.t 75) (.t 74))] [0,
1,
0,
0,
12,
28,
60,
127,
255,
511] true))))))
(.seq
(.seq
(F [J 76 (.aK 5 (.t 13)),
 J 77 (.load none (.t 76)),
 J 78 (.len (.t 77)),
 J 79 (.bin .eql (.t 78) (Z 0))] 4)
(.cond (.t 79)
(.seq
(.eN [J 80 (.fZ [b8 0,aA 0,b8 0,aA 0,aA 0,(.d .ay),bz 0] []),
 J 81 (.load (some 2) (.t 9)),
 N (.store 7 (.t 6) (.t 80)),
 N (.store 2 (.t 7) (.t 81)),
 J 8 (.mv (.k (b8 4)))] [0,
0,
1,
7,
15] true)
.ret)
.skip))
(.seq
(F [M 83 0,
 J 84 (.aK 1 (.t 4)),
 J 85 (.load none (.t 84)),
 J 86 (.aK 15 (.t 5)),
 J 87 (.load (some 2) (.t 86)),
 J 88 (.aK 6 (.t 13)),
 J 89 (.load none (.t 88)),
 J 90 (.call (C 29) [(.t 83),(.t 85),(.t 87),(.t 89)]),
 M 82 90,
 J 91 (.ext 0 (.t 82)),
 J 92 (.ext 1 (.t 82)),
 M 16 91,
 M 17 92] 13)
(.seq
(.seq
(F [M 93 17,
 J 94 (.bin .neq (.t 93) (Z 0))] 2)
(.cond (.t 94)
(.seq
(.eN [J 95 (.fZ [b8 0,aA 0,b8 0,aA 0,aA 0,(.d .ay),bz 0] []),
 J 96 (.load (some 2) (.t 9)),
 N (.store 7 (.t 6) (.t 95)),
 N (.store 2 (.t 7) (.t 96)),
 J 8 (.mv (.k (b8 3)))] [0,
0,
1,
7,
15] true)
.ret)
.skip))
(.seq
(.eN [J 97 (.load (some 7) (.t 13)),
 J 98 (.load none (.t 12)),
 M 99 16,
 J 100 (.fZ [(.d .ay),(.d .ay)] [(0,1,(.t 98)),(1,1,(.t 99))]),
 N (.store 7 (.t 6) (.t 97)),
 N (.store 2 (.t 7) (.t 100)),
 J 8 (.mv (.k (b8 1)))] [0,
0,
0,
6,
1,
31,
63] true)
.ret))))))))))
def rv:List RV:=[.cell 6 (some 7),.cell 7 (some 2),.tmp 8]
theorem enter:En Try.prog 12 101 s rv:=En.mk (c:= Try.f12.body.getD .ret) Try.func12 rfl (by kernel_rfl) (by kernel_rfl) (by kernel_rfl) (by kernel_rfl)
end claim_Submit
namespace ref23_SameLines
abbrev f:Nat:=13
def s:cG:=(.seq
(F [J 4 (.mv (B false))] 1)
(.seq
(.seq
(F [M 6 0,
 J 7 (.len (.t 6)),
 M 8 1,
 J 9 (.len (.t 8)),
 J 10 (.bin .neq (.t 7) (.t 9))] 5)
(.cond (.t 10)
(.seq
(F [J 4 (.mv (B false))] 1)
.ret)
.skip))
(.seq
(.seq
(F [J 5 (.mv (Z 0))] 1)
(.block 0
(.loop
(.seq
(.seq
(F [M 11 5,
 M 12 0,
 J 13 (.len (.t 12)),
 J 14 (.bin .lss (.t 11) (.t 13))] 4)
(.cond (.t 14)
.skip
(.exit 0)))
(.seq
(.block 1
(.seq
(.eN [M 17 0,
 M 18 5,
 J 19 (.bJ 10 (.t 17) (.t 18)),
 J 20 (.load (some 10) (.t 19)),
 M 21 1,
 M 22 5,
 J 23 (.bJ 10 (.t 21) (.t 22)),
 J 24 (.load (some 10) (.t 23)),
 J 25 (.call (C 30) [(.t 20),(.t 24)]),
 J 26 (.not (.t 25))] [0,
0,
3,
7,
0,
0,
48,
112,
255,
511] true)
(.cond (.t 26)
(.seq
(F [J 4 (.mv (B false))] 1)
.ret)
.skip)))
(F [M 15 5,
 J 16 (.bin .add (.t 15) (Z 1)),
 M 5 16] 3))))))
(.seq
(F [J 4 (.mv (B true))] 1)
.ret))))
def rv:List RV:=[.tmp 4]
theorem enter:En Try.prog 13 27 s rv:=En.mk (c:= Try.f13.body.getD .ret) Try.func13 rfl (by kernel_rfl) (by kernel_rfl) (by kernel_rfl) (by kernel_rfl)
end ref23_SameLines
namespace ref16_Chain
abbrev f:Nat:=14
def s:cG:=(.seq
(F [J 3 (.box 29 (.t 1)),
 J 4 (.mv (.k (.d .ay))),
 J 5 (.mv (Z 0))] 3)
(.seq
(F [M 10 0,
 J 11 (.load (some 2) (.t 3)),
 J 12 (.call (C 31) [(.t 10),(.t 11)]),
 M 9 12,
 J 13 (.ext 0 (.t 9)),
 J 14 (.ext 1 (.t 9)),
 J 6 (.alloc 78 [b8 0,aA 0,b8 0,aA 0,b8 0,aA 0,aA 0,b8 0,b8 0,bz 0,i6 0]),
 N (.store 11 (.t 6) (.t 13)),
 M 7 14] 9)
(.seq
(.seq
(F [M 15 7,
 J 16 (.not (.t 15))] 2)
(.cond (.t 16)
(.seq
(F [J 4 (.mv (.k (.d .ay))),
 J 5 (.mv (Z 7))] 2)
.ret)
.skip))
(.seq
(F [J 17 (.load (some 2) (.t 3)),
 J 18 (.jL 29 2 1 [b8 0,aA 0] [(0,2,(.t 17))]),
 M 8 18] 3)
(.seq
(.block 0
(.loop
(.seq
(.seq
(F [J 19 (.aK 10 (.t 6)),
 J 20 (.load none (.t 19)),
 J 21 (.bin .gtr (.t 20) (Z 0))] 3)
(.cond (.t 21)
.skip
(.exit 0)))
(.block 1
(.seq
(F [M 22 8,
 J 23 (.aK 4 (.t 6)),
 J 24 (.load (some 2) (.t 23)),
 J 25 (.jL 29 2 1 [b8 0,aA 0] [(0,2,(.t 24))]),
 J 26 (.app 29 2 8 (.t 22) (.t 25)),
 M 8 26] 6)
(F [M 28 0,
 J 29 (.aK 4 (.t 6)),
 J 30 (.load (some 2) (.t 29)),
 J 31 (.call (C 31) [(.t 28),(.t 30)]),
 M 27 31,
 J 32 (.ext 0 (.t 27)),
 J 33 (.ext 1 (.t 27)),
 N (.store 11 (.t 6) (.t 32))] 8))))))
(.seq
(F [M 34 8,
 M 4 34,
 J 5 (.mv (Z 0))] 3)
.ret))))))
def rv:List RV:=[.tmp 4,.tmp 5]
theorem enter:En Try.prog 14 35 s rv:=En.mk (c:= Try.f14.body.getD .ret) Try.func14 rfl (by kernel_rfl) (by kernel_rfl) (by kernel_rfl) (by kernel_rfl)
end ref16_Chain
namespace ref22_Spent
abbrev f:Nat:=15
def s:cG:=(.seq
(F [J 3 (.box 29 (.t 1)),
 J 4 (.mv (.k (bz 0)))] 2)
(.seq
(.seq
(F [J 5 (.mv (Z 0))] 1)
(.block 0
(.loop
(.seq
(.seq
(F [M 6 5,
 M 7 0,
 J 8 (.len (.t 7)),
 J 9 (.bin .lss (.t 6) (.t 8))] 4)
(.cond (.t 9)
.skip
(.exit 0)))
(.seq
(.block 1
(.seq
(.eN [M 12 0,
 M 13 5,
 J 14 (.bJ 3 (.t 12) (.t 13)),
 J 15 (.aK 0 (.t 14)),
 J 16 (.load (some 2) (.t 15)),
 J 17 (.load (some 2) (.t 3)),
 J 18 (.eqv false [true,true] (.t 16) (.t 17))] [0,
0,
3,
7,
15,
0,
63] true)
(.cond (.t 18)
(.seq
(F [M 19 0,
 M 20 5,
 J 21 (.bJ 3 (.t 19) (.t 20)),
 J 22 (.aK 2 (.t 21)),
 J 23 (.load none (.t 22)),
 M 4 23] 6)
.ret)
.skip)))
(F [M 10 5,
 J 11 (.bin .add (.t 10) (Z 1)),
 M 5 11] 3))))))
(.seq
(F [J 4 (.mv (.k (bz 0)))] 1)
.ret)))
def rv:List RV:=[.tmp 4]
theorem enter:En Try.prog 15 24 s rv:=En.mk (c:= Try.f15.body.getD .ret) Try.func15 rfl (by kernel_rfl) (by kernel_rfl) (by kernel_rfl) (by kernel_rfl)
end ref22_Spent
namespace ref22_Tight
abbrev f:Nat:=16
def s:cG:=(.seq
(F [J 5 (.box 29 (.t 2)),
 J 6 (.alloc 29 [b8 0,aA 0]),
 J 7 (.mv (.k (bz 0))),
 J 8 (.mv (Z 0))] 4)
(.seq
(F [M 14 0,
 J 15 (.load (some 2) (.t 5)),
 J 16 (.call (C 14) [(.t 14),(.t 15)]),
 M 13 16,
 J 17 (.ext 0 (.t 13)),
 J 18 (.ext 1 (.t 13)),
 M 9 17,
 M 10 18] 8)
(.seq
(.seq
(F [M 19 10,
 J 20 (.bin .neq (.t 19) (Z 0))] 2)
(.cond (.t 20)
(.seq
(F [J 21 (.fZ [b8 0,aA 0] []),
 N (.store 2 (.t 6) (.t 21)),
 J 7 (.mv (.k (bz 0))),
 J 8 (.mv (Z 7))] 4)
.ret)
.skip))
(.seq
(F [J 11 (.mv (Z 0))] 1)
(.seq
(.seq
(F [J 12 (.mv (Z 1))] 1)
(.block 0
(.loop
(.seq
(.seq
(F [M 22 12,
 M 23 9,
 J 24 (.len (.t 23)),
 J 25 (.bin .lss (.t 22) (.t 24))] 4)
(.cond (.t 25)
.skip
(.exit 0)))
(.seq
(.block 1
(.seq
(.eN [M 28 0,
 M 29 1,
 M 30 9,
 M 31 12,
 J 32 (.bJ 2 (.t 30) (.t 31)),
 J 33 (.load (some 2) (.t 32)),
 J 34 (.call (C 32) [(.t 28),(.t 29),(.t 33)]),
 M 35 0,
 M 36 1,
 M 37 9,
 M 38 11,
 J 39 (.bJ 2 (.t 37) (.t 38)),
 J 40 (.load (some 2) (.t 39)),
 J 41 (.call (C 32) [(.t 35),(.t 36),(.t 40)]),
 J 42 (.bin .lss (.t 34) (.t 41))] [0,
0,
0,
0,
12,
28,
63,
0,
0,
0,
0,
1536,
3584,
8191,
16383] true)
(.cond (.t 42)
(F [M 43 12,
 M 11 43] 2)
.skip)))
(F [M 26 12,
 J 27 (.bin .add (.t 26) (Z 1)),
 M 12 27] 3))))))
(.seq
(.eN [M 44 9,
 M 45 11,
 J 46 (.bJ 2 (.t 44) (.t 45)),
 J 47 (.load (some 2) (.t 46)),
 M 48 0,
 M 49 1,
 M 50 9,
 M 51 11,
 J 52 (.bJ 2 (.t 50) (.t 51)),
 J 53 (.load (some 2) (.t 52)),
 J 54 (.call (C 32) [(.t 48),(.t 49),(.t 53)]),
 N (.store 2 (.t 6) (.t 47)),
 M 7 54,
 J 8 (.mv (Z 0))] [0,
0,
3,
7,
0,
0,
0,
0,
192,
448,
1008,
2047,
4095,
8191] true)
.ret))))))
def rv:List RV:=[.cell 6 (some 2),.tmp 7,.tmp 8]
theorem enter:En Try.prog 16 55 s rv:=En.mk (c:= Try.f16.body.getD .ret) Try.func16 rfl (by kernel_rfl) (by kernel_rfl) (by kernel_rfl) (by kernel_rfl)
end ref22_Tight
namespace ref21_Fits
abbrev f:Nat:=17
def s:cG:=(.seq
(F [J 1 (.box 58 (.t 0)),
 J 2 (.mv (B false))] 2)
(.seq
(F [J 3 (.aK 7 (.t 1)),
 J 4 (.load none (.t 3)),
 J 5 (.call (C 33) [(.t 4)]),
 M 6 5,
 H 7 (.aK 8 (.t 1)) 6 true,
 H 8 (.load none (.t 7)) 6 true,
 H 9 (.call (C 33) [(.t 8)]) 6 true,
 J 10 (.pick (.t 6) (.t 9) (B false)),
 M 2 10] 9)
.ret))
def rv:List RV:=[.tmp 2]
theorem enter:En Try.prog 17 11 s rv:=En.mk (c:= Try.f17.body.getD .ret) Try.func17 rfl (by kernel_rfl) (by kernel_rfl) (by kernel_rfl) (by kernel_rfl)
end ref21_Fits
namespace ref03_Sort
abbrev f:Nat:=18
def s:cG:=(.seq
(F [J 2 (.mv (.k (.d .ay)))] 1)
(.seq
(F [J 3 (.mv (.k (.d .ay)))] 1)
(.seq
(.seq
(F [J 4 (.mv (Z 0))] 1)
(.block 0
(.loop
(.seq
(.seq
(F [M 5 4,
 M 6 0,
 J 7 (.len (.t 6)),
 J 8 (.bin .lss (.t 5) (.t 7))] 4)
(.cond (.t 8)
.skip
(.exit 0)))
(.seq
(.block 1
(F [M 11 3,
 M 12 0,
 M 13 4,
 J 14 (.bJ 2 (.t 12) (.t 13)),
 J 15 (.load (some 2) (.t 14)),
 J 16 (.call (C 34) [(.t 11),(.t 15)]),
 M 3 16] 7))
(F [M 9 4,
 J 10 (.bin .add (.t 9) (Z 1)),
 M 4 10] 3))))))
(.seq
(F [M 17 3,
 M 2 17] 2)
.ret))))
def rv:List RV:=[.tmp 2]
theorem enter:En Try.prog 18 18 s rv:=En.mk (c:= Try.f18.body.getD .ret) Try.func18 rfl (by kernel_rfl) (by kernel_rfl) (by kernel_rfl) (by kernel_rfl)
end ref03_Sort
namespace ref23_SameOrder
abbrev f:Nat:=19
def s:cG:=(.seq
(F [J 2 (.box 45 (.t 0)),
 J 3 (.box 45 (.t 1)),
 J 4 (.mv (B false))] 3)
(.seq
(.seq
(F (J 8 (.aK 0 (.t 2))::
 J 9 (.load (some 2) (.t 8))::
 J 10 (.aK 0 (.t 3))::
 J 11 (.load (some 2) (.t 10))::
 J 12 (.eqv true [true,true] (.t 9) (.t 11))::
 M 13 12::
 H 14 (.aK 2 (.t 2)) 13 false::
 H 15 (.load (some 2) (.t 14)) 13 false::
 H 16 (.aK 2 (.t 3)) 13 false::
 H 17 (.load (some 2) (.t 16)) 13 false::
 H 18 (.eqv true [true,true] (.t 15) (.t 17)) 13 false::
 J 19 (.pick (.t 13) (B true) (.t 18))::
 M 20 19::
 H 21 (.aK 4 (.t 2)) 20 false::
 H 22 (.load none (.t 21)) 20 false::
 H 23 (.aK 4 (.t 3)) 20 false::
 H 24 (.load none (.t 23)) 20 false::
 H 25 (.bin .neq (.t 22) (.t 24)) 20 false::
 J 26 (.pick (.t 20) (B true) (.t 25))::
 M 27 26::
 H 28 (.aK 6 (.t 2)) 27 false::
 H 29 (.load none (.t 28)) 27 false::
 H 30 (.aK 6 (.t 3)) 27 false::
 H 31 (.load none (.t 30)) 27 false::
 H 32 (.bin .neq (.t 29) (.t 31)) 27 false::
 J 33 (.pick (.t 27) (B true) (.t 32))::
 M 34 33::
 H 35 (.aK 5 (.t 2)) 34 false::
 H 36 (.load none (.t 35)) 34 false::
 H 37 (.len (.t 36)) 34 false::
 H 38 (.aK 5 (.t 3)) 34 false::
 H 39 (.load none (.t 38)) 34 false::
 H 40 (.len (.t 39)) 34 false::
 H 41 (.bin .neq (.t 37) (.t 40)) 34 false::
 J 42 (.pick (.t 34) (B true) (.t 41))::[]) 35)
(.cond (.t 42)
(.seq
(F [J 4 (.mv (B false))] 1)
.ret)
.skip))
(.seq
(.seq
(F [J 5 (.mv (Z 0))] 1)
(.block 0
(.loop
(.seq
(.seq
(F [M 43 5,
 J 44 (.aK 5 (.t 2)),
 J 45 (.load none (.t 44)),
 J 46 (.len (.t 45)),
 J 47 (.bin .lss (.t 43) (.t 46))] 5)
(.cond (.t 47)
.skip
(.exit 0)))
(.seq
(.block 1
(.seq
(.eN [J 50 (.aK 5 (.t 2)),
 J 51 (.load none (.t 50)),
 M 52 5,
 J 53 (.bJ 8 (.t 51) (.t 52)),
 J 54 (.load (some 8) (.t 53)),
 J 55 (.aK 5 (.t 3)),
 J 56 (.load none (.t 55)),
 M 57 5,
 J 58 (.bJ 8 (.t 56) (.t 57)),
 J 59 (.load (some 8) (.t 58)),
 J 6 (.alloc 60 [b8 0,aA 0,b8 0,aA 0,aA 0,aA 0,aA 0,(.d .ay)]),
 J 7 (.alloc 60 [b8 0,aA 0,b8 0,aA 0,aA 0,aA 0,aA 0,(.d .ay)]),
 N (.store 8 (.t 6) (.t 54)),
 N (.store 8 (.t 7) (.t 59))] [0,
1,
0,
7,
15,
0,
32,
0,
224,
480,
0,
0,
3103,
8191] true)
(.seq
(F (J 60 (.aK 0 (.t 6))::
 J 61 (.load (some 2) (.t 60))::
 J 62 (.aK 0 (.t 7))::
 J 63 (.load (some 2) (.t 62))::
 J 64 (.eqv true [true,true] (.t 61) (.t 63))::
 M 65 64::
 H 66 (.aK 2 (.t 6)) 65 false::
 H 67 (.load (some 2) (.t 66)) 65 false::
 H 68 (.aK 2 (.t 7)) 65 false::
 H 69 (.load (some 2) (.t 68)) 65 false::
 H 70 (.eqv true [true,true] (.t 67) (.t 69)) 65 false::
 J 71 (.pick (.t 65) (B true) (.t 70))::
 M 72 71::
 H 73 (.aK 4 (.t 6)) 72 false::
 H 74 (.load none (.t 73)) 72 false::
 H 75 (.aK 4 (.t 7)) 72 false::
 H 76 (.load none (.t 75)) 72 false::
 H 77 (.bin .neq (.t 74) (.t 76)) 72 false::
 J 78 (.pick (.t 72) (B true) (.t 77))::
 M 79 78::
 H 80 (.aK 5 (.t 6)) 79 false::
 H 81 (.load none (.t 80)) 79 false::
 H 82 (.aK 5 (.t 7)) 79 false::
 H 83 (.load none (.t 82)) 79 false::
 H 84 (.bin .neq (.t 81) (.t 83)) 79 false::
 J 85 (.pick (.t 79) (B true) (.t 84))::
 M 86 85::
 H 87 (.aK 6 (.t 6)) 86 false::
 H 88 (.load none (.t 87)) 86 false::
 H 89 (.aK 6 (.t 7)) 86 false::
 H 90 (.load none (.t 89)) 86 false::
 H 91 (.bin .neq (.t 88) (.t 90)) 86 false::
 J 92 (.pick (.t 86) (B true) (.t 91))::
 M 93 92::
 H 94 (.aK 7 (.t 6)) 93 false::
 H 95 (.load none (.t 94)) 93 false::
 H 96 (.aK 7 (.t 7)) 93 false::
 H 97 (.load none (.t 96)) 93 false::
 H 98 (.call (C 35) [(.t 95),(.t 97)]) 93 false::
 H 99 (.not (.t 98)) 93 false::
 J 100 (.pick (.t 93) (B true) (.t 99))::[]) 41)
(.cond (.t 100)
(.seq
(F [J 4 (.mv (B false))] 1)
.ret)
.skip))))
(F [M 48 5,
 J 49 (.bin .add (.t 48) (Z 1)),
 M 5 49] 3))))))
(.seq
(F [J 4 (.mv (B true))] 1)
.ret))))
def rv:List RV:=[.tmp 4]
theorem enter:En Try.prog 19 101 s rv:=En.mk (c:= Try.f19.body.getD .ret) Try.func19 rfl (by kernel_rfl) (by kernel_rfl) (by kernel_rfl) (by kernel_rfl)
end ref23_SameOrder
namespace slices_DeleteFunc_Lapi_Op_api_Op
abbrev f:Nat:=20
def s:cG:=(.seq
(F [J 4 (.mv (.k (.d .ay)))] 1)
(.seq
(F [M 8 0,
 M 9 1,
 J 10 (.call (C 36) [(.t 8),(.t 9)]),
 M 5 10] 4)
(.seq
(.seq
(F [M 11 5,
 J 12 (.bin .eql (.t 11) (.k (.d (.int .i64 (-1)))))] 2)
(.cond (.t 12)
(.seq
(F [M 13 0,
 M 4 13] 2)
.ret)
.skip))
(.seq
(.seq
(F [M 14 5,
 J 15 (.bin .add (.t 14) (Z 1)),
 M 6 15] 3)
(.block 0
(.loop
(.seq
(.seq
(F [M 16 6,
 M 17 0,
 J 18 (.len (.t 17)),
 J 19 (.bin .lss (.t 16) (.t 18))] 4)
(.cond (.t 19)
.skip
(.exit 0)))
(.seq
(.block 1
(.seq
(F [M 22 0,
 M 23 6,
 J 24 (.bJ 29 (.t 22) (.t 23)),
 J 25 (.load (some 29) (.t 24)),
 J 7 (.alloc 35 dm),
 N (.store 29 (.t 7) (.t 25))] 6)
(.seq
(F [M 26 1,
 J 27 (.load (some 29) (.t 7)),
 J 28 (.call (.t 26) [(.t 27)]),
 J 29 (.not (.t 28))] 4)
(.cond (.t 29)
(.seq
(F [M 30 0,
 M 31 5,
 J 32 (.load (some 29) (.t 7)),
 J 33 (.bJ 29 (.t 30) (.t 31)),
 N (.store 29 (.t 33) (.t 32))] 5)
(F [M 34 5,
 J 35 (.bin .add (.t 34) (Z 1)),
 M 5 35] 3))
.skip))))
(F [M 20 6,
 J 21 (.bin .add (.t 20) (Z 1)),
 M 6 21] 3))))))
(.seq
(F [M 36 0,
 M 37 5,
 J 38 (.slc 29 (.t 36) (some (.t 37)) none),
 N (.Hv 29 dm (.t 38))] 4)
(.seq
(F [M 39 0,
 M 40 5,
 J 41 (.slc 29 (.t 39) none (some (.t 40))),
 M 4 41] 4)
.ret))))))
def rv:List RV:=[.tmp 4]
theorem enter:En Try.prog 20 42 s rv:=En.mk (c:= Try.f20.body.getD .ret) Try.func20 rfl (by kernel_rfl) (by kernel_rfl) (by kernel_rfl) (by kernel_rfl)
end slices_DeleteFunc_Lapi_Op_api_Op
namespace slices_Clone_Lapi_Op_api_Op
abbrev f:Nat:=21
def s:cG:=(.seq
(F [J 2 (.mv (.k (.d .ay)))] 1)
(.seq
(.seq
(F [M 3 0,
 J 4 (.ng false 3 (.t 3))] 2)
(.cond (.t 4)
(.seq
(F [J 2 (.mv (.k (.d .ay)))] 1)
.ret)
.skip))
(.seq
(F [J 5 (.jL 35 29 0 [] []),
 M 6 0,
 J 7 (.app 35 29 144 (.t 5) (.t 6)),
 M 2 7] 4)
.ret)))
def rv:List RV:=[.tmp 2]
theorem enter:En Try.prog 21 8 s rv:=En.mk (c:= Try.f21.body.getD .ret) Try.func21 rfl (by kernel_rfl) (by kernel_rfl) (by kernel_rfl) (by kernel_rfl)
end slices_Clone_Lapi_Op_api_Op
namespace tree_New_1
abbrev f:Nat:=22
def s:cG:=(.seq
(F [J 2 (.box 35 (.t 0)),
 J 3 (.mv (B false))] 2)
(.seq
(.eN [J 4 (.load none (.t 1)),
 J 5 (.aK 0 (.t 2)),
 J 6 (.load (some 2) (.t 5)),
 J 7 (.look [true,true] true (i6 0) (.t 4) (.t 6) false),
 J 8 (.bin .add (.t 7) (Z 1)),
 J 9 (.qp [true,true] true (i6 0) (.t 4) (.t 6)),
 J 10 (.ext 1 (.t 9)),
 N (.qq (.t 4) (.t 10) (.t 8))] [0,
0,
2,
7,
15,
7,
39,
127] true)
(.seq
(F [J 11 (.load none (.t 1)),
 J 12 (.aK 0 (.t 2)),
 J 13 (.load (some 2) (.t 12)),
 J 14 (.look [true,true] true (i6 0) (.t 11) (.t 13) false),
 J 15 (.bin .gtr (.t 14) (Z 1)),
 M 16 15,
 H 17 (.aK 14 (.t 2)) 16 false,
 H 18 (.load none (.t 17)) 16 false,
 H 19 (.bin .gtr (.t 18) (.k (b8 1))) 16 false,
 J 20 (.pick (.t 16) (B true) (.t 19)),
 M 3 20] 11)
.ret)))
def rv:List RV:=[.tmp 3]
theorem enter:En Try.prog 22 21 s rv:=En.mk (c:= Try.f22.body.getD .ret) Try.func22 rfl (by kernel_rfl) (by kernel_rfl) (by kernel_rfl) (by kernel_rfl)
end tree_New_1
namespace tree_Tree_put
abbrev f:Nat:=23
def s:cG:=(.seq
(F [J 3 (.box 35 (.t 1)),
 J 4 (.mv (B false))] 2)
(.seq
(F [J 6 (.aK 0 (.t 3)),
 J 7 (.load (some 2) (.t 6)),
 J 8 (.aK 0 (.t 3)),
 J 9 (.load (some 2) (.t 8)),
 J 10 (.aK 11 (.t 3)),
 J 11 (.load none (.t 10)),
 J 12 (.fZ [b8 0,aA 0,b8 0,aA 0,b8 0,aA 0,aA 0,b8 0,b8 0,bz 0,i6 0] [(0,2,(.t 7)),(2,2,(.t 9)),(6,1,(.t 11)),(7,1,(.k (b8 7))),(8,1,(.k (b8 8))),(9,1,(.k (bz 1099511627776)))]),
 J 5 (.alloc 78 [b8 0,aA 0,b8 0,aA 0,b8 0,aA 0,aA 0,b8 0,b8 0,bz 0,i6 0]),
 N (.store 11 (.t 5) (.t 12))] 9)
(.seq
(.block 0
(.seq
(F (J 14 (.aK 14 (.t 3))::
 J 15 (.load none (.t 14))::
 J 16 (.bin .eql (.t 15) (.k (b8 0)))::
 M 17 16::
 H 18 (.aK 12 (.t 3)) 17 true::
 H 19 (.load (some 2) (.t 18)) 17 true::
 H 20 (.aK 0 (.t 3)) 17 true::
 H 21 (.load (some 2) (.t 20)) 17 true::
 H 22 (.eqv true [true,true] (.t 19) (.t 21)) 17 true::
 J 23 (.pick (.t 17) (.t 22) (B false))::
 M 24 23::
 H 25 (.aK 14 (.t 3)) 24 false::
 H 26 (.load none (.t 25)) 24 false::
 H 27 (.bin .eql (.t 26) (.k (b8 1))) 24 false::
 G 28 27 24 false::
 G 29 0 28 true::
 H 30 (.load (some 29) (.t 3)) 28 true::
 H 31 (.call (C 37) [(.t 29),(.t 30)]) 28 true::
 H 32 (.bin .neq (.t 31) (Z 0)) 28 true::
 H 33 (.pick (.t 28) (.t 32) (B false)) 24 false::
 J 34 (.pick (.t 24) (B true) (.t 33))::
 M 13 34::[]) 22)
(.cond (.t 13)
(.seq
(F [J 4 (.mv (B false))] 1)
.ret)
(.seq
(F [J 36 (.aK 14 (.t 3)),
 J 37 (.load none (.t 36)),
 J 38 (.bin .eql (.t 37) (.k (b8 1))),
 M 35 38] 4)
(.cond (.t 35)
(.eN (J 39 (.aK 0 (.t 3))::
 J 40 (.load (some 2) (.t 39))::
 J 41 (.aK 12 (.t 3))::
 J 42 (.load (some 2) (.t 41))::
 J 43 (.aK 15 (.t 3))::
 J 44 (.load (some 2) (.t 43))::
 J 45 (.aK 17 (.t 3))::
 J 46 (.load none (.t 45))::
 J 47 (.aK 18 (.t 3))::
 J 48 (.load none (.t 47))::
 J 49 (.aK 19 (.t 3))::
 J 50 (.load none (.t 49))::
 J 51 (.aK 20 (.t 3))::
 J 52 (.load none (.t 51))::
 M 53 0::
 J 54 (.qH (.t 53))::
 J 55 (.aK 0 (.t 54))::
 J 56 (.load none (.t 55))::
 J 57 (.aK 15 (.t 3))::
 J 58 (.load (some 2) (.t 57))::
 J 59 (.look [true,true] true (.agg [b8 0,aA 0,b8 0,aA 0,b8 0,aA 0,aA 0,b8 0,b8 0,bz 0,i6 0]) (.t 56) (.t 58) false)::
 J 60 (.field 10 none (.t 59))::
 J 61 (.bin .add (.t 60) (Z 1))::
 J 62 (.fZ [b8 0,aA 0,b8 0,aA 0,b8 0,aA 0,aA 0,b8 0,b8 0,bz 0,i6 0] [(0,2,(.t 40)),(2,2,(.t 42)),(4,2,(.t 44)),(6,1,(.t 46)),(7,1,(.t 48)),(8,1,(.t 50)),(9,1,(.t 52)),(10,1,(.t 61))])::
 N (.store 11 (.t 5) (.t 62))::[]) (0::
1::
0::
4::
0::
16::
0::
64::
0::
256::
0::
1024::
0::
4096::
0::
16384::
49152::
114688::
0::
262144::
1032192::
2080768::
4177920::
8388607::
16777215::[]) true)
.skip)))))
(.seq
(.eN (M 63 0::
 J 64 (.qH (.t 63))::
 J 65 (.aK 0 (.t 64))::
 J 66 (.load none (.t 65))::
 J 67 (.aK 0 (.t 3))::
 J 68 (.load (some 2) (.t 67))::
 M 69 0::
 J 70 (.qH (.t 69))::
 J 71 (.aK 1 (.t 70))::
 J 72 (.load none (.t 71))::
 J 73 (.aK 0 (.t 3))::
 J 74 (.load (some 2) (.t 73))::
 J 75 (.load (some 11) (.t 5))::
 J 76 (.load (some 29) (.t 3))::
 J 77 (.qp [true,true] true (.agg [b8 0,aA 0,b8 0,aA 0,b8 0,aA 0,aA 0,b8 0,b8 0,bz 0,i6 0]) (.t 66) (.t 68))::
 J 78 (.ext 1 (.t 77))::
 N (.qq (.t 66) (.t 78) (.t 75))::
 J 79 (.qp [true,true] true (.agg dm) (.t 72) (.t 74))::
 J 80 (.ext 1 (.t 79))::
 N (.qq (.t 72) (.t 80) (.t 76))::[]) (0::
1::
3::
7::
0::
16::
0::
64::
192::
448::
0::
1024::
0::
0::
1023::
17407::
54271::
122879::
253951::
524287::[]) true)
(.seq
(F [J 4 (.mv (B true))] 1)
.ret)))))
def rv:List RV:=[.tmp 4]
theorem enter:En Try.prog 23 81 s rv:=En.mk (c:= Try.f23.body.getD .ret) Try.func23 rfl (by kernel_rfl) (by kernel_rfl) (by kernel_rfl) (by kernel_rfl)
end tree_Tree_put
namespace claim_copied
abbrev f:Nat:=24
def s:cG:=(.seq
(F [J 2 (.mv (.k (.d .ay)))] 1)
(.seq
(F [M 5 0,
 J 6 (.len (.t 5)),
 J 7 (.He 58 10 88 [b8 0,aA 0,aA 0,aA 0,aA 0,b8 0,aA 0,(.d .ay),(.d .ay),b8 0] (.t 6) (.t 6)),
 M 3 7] 4)
(.seq
(F [M 8 3,
 M 9 0,
 J 10 (.copy 58 10 (.t 8) (.t 9))] 3)
(.seq
(.seq
(F [M 11 3,
 J 12 (.len (.t 11)),
 J 13 (.mv (Z 0))] 3)
(.block 0
(.loop
(.seq
(F [J 14 (.bin .lss (.t 13) (.t 12))] 1)
(.seq
(.cond (.t 14)
.skip
(.exit 0))
(.seq
(.block 1
(.seq
(F [M 15 13,
 M 4 15] 2)
(.seq
(F [M 16 3,
 M 17 4,
 M 18 0,
 M 19 4,
 J 20 (.bJ 10 (.t 18) (.t 19)),
 J 21 (.aK 7 (.t 20)),
 J 22 (.load none (.t 21)),
 J 23 (.call (C 38) [(.t 22)]),
 J 24 (.bJ 10 (.t 16) (.t 17)),
 J 25 (.aK 7 (.t 24)),
 N (.store 1 (.t 25) (.t 23))] 11)
(F [M 26 3,
 M 27 4,
 M 28 0,
 M 29 4,
 J 30 (.bJ 10 (.t 28) (.t 29)),
 J 31 (.aK 8 (.t 30)),
 J 32 (.load none (.t 31)),
 J 33 (.call (C 38) [(.t 32)]),
 J 34 (.bJ 10 (.t 26) (.t 27)),
 J 35 (.aK 8 (.t 34)),
 N (.store 1 (.t 35) (.t 33))] 11))))
(F [J 36 (.bin .add (.t 13) (Z 1)),
 M 13 36] 2)))))))
(.seq
(F [M 37 3,
 M 2 37] 2)
.ret)))))
def rv:List RV:=[.tmp 2]
theorem enter:En Try.prog 24 38 s rv:=En.mk (c:= Try.f24.body.getD .ret) Try.func24 rfl (by kernel_rfl) (by kernel_rfl) (by kernel_rfl) (by kernel_rfl)
end claim_copied
namespace tree_Tree_Get
abbrev f:Nat:=25
def s:cG:=(.seq
(F [J 3 (.box 29 (.t 1)),
 J 4 (.alloc 78 [b8 0,aA 0,b8 0,aA 0,b8 0,aA 0,aA 0,b8 0,b8 0,bz 0,i6 0]),
 J 5 (.mv (Z 0))] 3)
(.seq
(.seq
(F [M 8 0,
 J 9 (.call (C 39) [(.t 8)])] 2)
(.cond (.t 9)
(.seq
(F [J 10 (.fZ [b8 0,aA 0,b8 0,aA 0,b8 0,aA 0,aA 0,b8 0,b8 0,bz 0,i6 0] []),
 N (.store 11 (.t 4) (.t 10)),
 J 5 (.mv (Z 1))] 3)
.ret)
.skip))
(.seq
(.eN [M 12 0,
 J 13 (.qH (.t 12)),
 J 14 (.aK 0 (.t 13)),
 J 15 (.load none (.t 14)),
 J 16 (.load (some 2) (.t 3)),
 J 17 (.look [true,true] true (.agg [b8 0,aA 0,b8 0,aA 0,b8 0,aA 0,aA 0,b8 0,b8 0,bz 0,i6 0]) (.t 15) (.t 16) true),
 M 11 17,
 J 18 (.ext 0 (.t 11)),
 J 19 (.ext 1 (.t 11)),
 J 6 (.alloc 78 [b8 0,aA 0,b8 0,aA 0,b8 0,aA 0,aA 0,b8 0,b8 0,bz 0,i6 0]),
 N (.store 11 (.t 6) (.t 18)),
 M 7 19] [0,
1,
3,
7,
0,
31,
63,
127,
127,
0,
767,
2047] true)
(.seq
(.seq
(F [M 20 7,
 J 21 (.not (.t 20))] 2)
(.cond (.t 21)
(.seq
(F [J 22 (.fZ [b8 0,aA 0,b8 0,aA 0,b8 0,aA 0,aA 0,b8 0,b8 0,bz 0,i6 0] []),
 N (.store 11 (.t 4) (.t 22)),
 J 5 (.mv (Z 7))] 3)
.ret)
.skip))
(.seq
(F [J 23 (.load (some 11) (.t 6)),
 N (.store 11 (.t 4) (.t 23)),
 J 5 (.mv (Z 0))] 3)
.ret)))))
def rv:List RV:=[.cell 4 (some 11),.tmp 5]
theorem enter:En Try.prog 25 24 s rv:=En.mk (c:= Try.f25.body.getD .ret) Try.func25 rfl (by kernel_rfl) (by kernel_rfl) (by kernel_rfl) (by kernel_rfl)
end tree_Tree_Get
namespace claim_claims
abbrev f:Nat:=26
def s:cG:=(.seq
(F [J 2 (.box 23 (.t 0)),
 J 3 (.box 35 (.t 1)),
 J 4 (.mv (.k (.d .lV)))] 3)
(.seq
(F [J 10 (.DQ),
 J 5 (.alloc 72 [(.d .nC)]),
 N (.store 1 (.t 5) (.t 10))] 3)
(.seq
(.seq
(F [J 11 (.load none (.t 2)),
 J 12 (.len (.t 11)),
 J 13 (.mv (Z 0))] 3)
(.block 0
(.loop
(.seq
(F [J 14 (.bin .lss (.t 13) (.t 12))] 1)
(.seq
(.cond (.t 14)
.skip
(.exit 0))
(.seq
(.block 1
(.seq
(F [M 15 13,
 J 16 (.bJ 10 (.t 11) (.t 13)),
 J 17 (.load (some 10) (.t 16)),
 J 7 (.alloc 58 [b8 0,aA 0,aA 0,aA 0,aA 0,b8 0,aA 0,(.d .ay),(.d .ay),b8 0]),
 M 6 15,
 N (.store 10 (.t 7) (.t 17))] 6)
(.seq
(F [J 19 (.load none (.t 5)),
 J 20 (.aK 0 (.t 7)),
 J 21 (.load (some 2) (.t 20)),
 J 22 (.look [true,true] true (i6 0) (.t 19) (.t 21) true),
 M 18 22,
 J 23 (.ext 0 (.t 18)),
 J 24 (.ext 1 (.t 18)),
 M 8 23,
 M 9 24] 9)
(.seq
(F [M 25 9,
 J 26 (.not (.t 25))] 2)
(.cond (.t 26)
(F [J 27 (.load none (.t 5)),
 J 28 (.aK 0 (.t 7)),
 J 29 (.load (some 2) (.t 28)),
 M 30 6,
 N (.Aj [true,true] true (.t 27) (.t 29) (.t 30))] 5)
.skip)))))
(F [J 31 (.bin .add (.t 13) (Z 1)),
 M 13 31] 2)))))))
(.seq
(F [J 32 (.xZ (.func 40) [] [(.t 3),(.t 5),(.t 2)]),
 M 4 32] 2)
.ret))))
def rv:List RV:=[.tmp 4]
theorem enter:En Try.prog 26 33 s rv:=En.mk (c:= Try.f26.body.getD .ret) Try.func26 rfl (by kernel_rfl) (by kernel_rfl) (by kernel_rfl) (by kernel_rfl)
end claim_claims
namespace claim_sold
abbrev f:Nat:=27
def s:cG:=(.seq
(F [J 1 (.box 58 (.t 0)),
 J 2 (.alloc 60 [b8 0,aA 0,b8 0,aA 0,aA 0,aA 0,aA 0,(.d .ay)])] 2)
(.seq
(.eN [J 3 (.aK 0 (.t 1)),
 J 4 (.load (some 2) (.t 3)),
 J 5 (.aK 5 (.t 1)),
 J 6 (.load (some 2) (.t 5)),
 J 7 (.aK 2 (.t 1)),
 J 8 (.load none (.t 7)),
 J 9 (.aK 3 (.t 1)),
 J 10 (.load none (.t 9)),
 J 11 (.aK 4 (.t 1)),
 J 12 (.load none (.t 11)),
 J 13 (.aK 7 (.t 1)),
 J 14 (.load none (.t 13)),
 J 15 (.call (C 38) [(.t 14)]),
 J 16 (.fZ [b8 0,aA 0,b8 0,aA 0,aA 0,aA 0,aA 0,(.d .ay)] [(0,2,(.t 4)),(2,2,(.t 6)),(4,1,(.t 8)),(5,1,(.t 10)),(6,1,(.t 12)),(7,1,(.t 15))]),
 N (.store 8 (.t 2) (.t 16))] [0,
1,
0,
4,
0,
16,
0,
64,
0,
256,
0,
1024,
3072,
8191,
16383] true)
.ret))
def rv:List RV:=[.cell 2 (some 8)]
theorem enter:En Try.prog 27 17 s rv:=En.mk (c:= Try.f27.body.getD .ret) Try.func27 rfl (by kernel_rfl) (by kernel_rfl) (by kernel_rfl) (by kernel_rfl)
end claim_sold
namespace line_Total
abbrev f:Nat:=28
def s:cG:=(.seq
(F [J 1 (.box 58 (.t 0)),
 J 2 (.mv (.k (bz 0)))] 2)
(.seq
(F [J 3 (.aK 3 (.t 1)),
 J 4 (.load none (.t 3)),
 J 5 (.conv .u64 (.t 4)),
 J 6 (.aK 4 (.t 1)),
 J 7 (.load none (.t 6)),
 J 8 (.conv .u64 (.t 7)),
 J 9 (.bin .mul (.t 5) (.t 8)),
 M 2 9] 8)
.ret))
def rv:List RV:=[.tmp 2]
theorem enter:En Try.prog 28 10 s rv:=En.mk (c:= Try.f28.body.getD .ret) Try.func28 rfl (by kernel_rfl) (by kernel_rfl) (by kernel_rfl) (by kernel_rfl)
end line_Total
namespace charge_Charge
abbrev f:Nat:=29
def s:cG:=(.seq
(F [J 6 (.box 29 (.t 2)),
 J 8 (.mv (.k (.d .ay))),
 J 9 (.mv (Z 0))] 3)
(.seq
(F [M 18 0,
 J 19 (.load (some 2) (.t 6)),
 J 20 (.call (C 42) [(.t 18),(.t 19)]),
 M 17 20,
 J 21 (.ext 0 (.t 17)),
 J 22 (.ext 1 (.t 17)),
 M 10 21,
 M 11 22] 8)
(.seq
(.seq
(F [M 23 11,
 J 24 (.bin .neq (.t 23) (Z 0))] 2)
(.cond (.t 24)
(.seq
(F [M 25 11,
 J 8 (.mv (.k (.d .ay))),
 M 9 25] 3)
.ret)
.skip))
(.seq
(F [M 26 1,
 J 27 (.call (C 43) [(.t 26)]),
 M 12 27] 3)
(.seq
(.seq
(F [M 29 0,
 M 30 12,
 M 31 10,
 J 32 (.call (C 44) [(.t 29),(.t 30),(.t 31)]),
 M 28 32,
 J 33 (.ext 0 (.t 28)),
 J 34 (.ext 1 (.t 28)),
 J 13 (.alloc 29 [b8 0,aA 0]),
 N (.store 2 (.t 13) (.t 33)),
 M 14 34] 10)
(.seq
(F [M 35 3,
 M 36 14,
 J 37 (.bin .gtr (.t 35) (.t 36))] 3)
(.cond (.t 37)
(.seq
(F [M 38 12,
 J 39 (.call (C 45) [(.t 38)]),
 M 8 39,
 J 9 (.mv (Z 279))] 4)
.ret)
.skip)))
(.seq
(.seq
(F [M 40 10,
 J 41 (.len (.t 40)),
 J 42 (.mv (Z 0))] 3)
(.block 0
(.loop
(.seq
(F [J 43 (.bin .lss (.t 42) (.t 41))] 1)
(.seq
(.cond (.t 43)
.skip
(.exit 0))
(.seq
(.block 1
(.seq
(F [J 44 (.bJ 2 (.t 40) (.t 42)),
 J 45 (.load (some 2) (.t 44)),
 J 16 (.alloc 29 [b8 0,aA 0]),
 N (.store 2 (.t 16) (.t 45))] 4)
(.eN [M 46 12,
 J 47 (.load (some 2) (.t 16)),
 J 48 (.look [true,true] true (bz 0) (.t 46) (.t 47) false),
 M 49 3,
 J 50 (.bin .add (.t 48) (.t 49)),
 J 51 (.qp [true,true] true (bz 0) (.t 46) (.t 47)),
 J 52 (.ext 1 (.t 51)),
 N (.qq (.t 46) (.t 52) (.t 50))] [0,
0,
3,
0,
15,
11,
43,
127] true)))
(F [J 53 (.bin .add (.t 42) (Z 1)),
 M 42 53] 2)))))))
(.seq
(F [M 54 12,
 J 55 (.call (C 45) [(.t 54)]),
 M 8 55,
 J 9 (.mv (Z 0))] 4)
.ret)))))))
def rv:List RV:=[.tmp 8,.tmp 9]
theorem enter:En Try.prog 29 56 s rv:=En.mk (c:= Try.f29.body.getD .ret) Try.func29 rfl (by kernel_rfl) (by kernel_rfl) (by kernel_rfl) (by kernel_rfl)
end charge_Charge
namespace ref21_Same
abbrev f:Nat:=30
def s:cG:=(.seq
(F [J 2 (.box 58 (.t 0)),
 J 3 (.box 58 (.t 1)),
 J 4 (.mv (B false))] 3)
(.seq
(F (J 5 (.aK 0 (.t 2))::
 J 6 (.load (some 2) (.t 5))::
 J 7 (.aK 0 (.t 3))::
 J 8 (.load (some 2) (.t 7))::
 J 9 (.eqv false [true,true] (.t 6) (.t 8))::
 M 10 9::
 H 11 (.aK 2 (.t 2)) 10 true::
 H 12 (.load none (.t 11)) 10 true::
 H 13 (.aK 2 (.t 3)) 10 true::
 H 14 (.load none (.t 13)) 10 true::
 H 15 (.bin .eql (.t 12) (.t 14)) 10 true::
 J 16 (.pick (.t 10) (.t 15) (B false))::
 M 17 16::
 H 18 (.aK 3 (.t 2)) 17 true::
 H 19 (.load none (.t 18)) 17 true::
 H 20 (.aK 3 (.t 3)) 17 true::
 H 21 (.load none (.t 20)) 17 true::
 H 22 (.bin .eql (.t 19) (.t 21)) 17 true::
 J 23 (.pick (.t 17) (.t 22) (B false))::
 M 24 23::
 H 25 (.aK 4 (.t 2)) 24 true::
 H 26 (.load none (.t 25)) 24 true::
 H 27 (.aK 4 (.t 3)) 24 true::
 H 28 (.load none (.t 27)) 24 true::
 H 29 (.bin .eql (.t 26) (.t 28)) 24 true::
 J 30 (.pick (.t 24) (.t 29) (B false))::
 M 31 30::
 H 32 (.aK 5 (.t 2)) 31 true::
 H 33 (.load (some 2) (.t 32)) 31 true::
 H 34 (.aK 5 (.t 3)) 31 true::
 H 35 (.load (some 2) (.t 34)) 31 true::
 H 36 (.eqv false [true,true] (.t 33) (.t 35)) 31 true::
 J 37 (.pick (.t 31) (.t 36) (B false))::
 M 38 37::
 H 39 (.aK 9 (.t 2)) 38 true::
 H 40 (.load none (.t 39)) 38 true::
 H 41 (.aK 9 (.t 3)) 38 true::
 H 42 (.load none (.t 41)) 38 true::
 H 43 (.bin .eql (.t 40) (.t 42)) 38 true::
 J 44 (.pick (.t 38) (.t 43) (B false))::
 M 45 44::
 H 46 (.aK 7 (.t 2)) 45 true::
 H 47 (.load none (.t 46)) 45 true::
 H 48 (.aK 7 (.t 3)) 45 true::
 H 49 (.load none (.t 48)) 45 true::
 H 50 (.call (C 46) [(.t 47),(.t 49)]) 45 true::
 J 51 (.pick (.t 45) (.t 50) (B false))::
 M 52 51::
 H 53 (.aK 8 (.t 2)) 52 true::
 H 54 (.load none (.t 53)) 52 true::
 H 55 (.aK 8 (.t 3)) 52 true::
 H 56 (.load none (.t 55)) 52 true::
 H 57 (.call (C 46) [(.t 54),(.t 56)]) 52 true::
 J 58 (.pick (.t 52) (.t 57) (B false))::
 M 4 58::[]) 55)
.ret))
def rv:List RV:=[.tmp 4]
theorem enter:En Try.prog 30 59 s rv:=En.mk (c:= Try.f30.body.getD .ret) Try.func30 rfl (by kernel_rfl) (by kernel_rfl) (by kernel_rfl) (by kernel_rfl)
end ref21_Same
namespace ref16_Get
abbrev f:Nat:=31
def s:cG:=(.seq
(F [J 3 (.box 29 (.t 1)),
 J 4 (.alloc 78 [b8 0,aA 0,b8 0,aA 0,b8 0,aA 0,aA 0,b8 0,b8 0,bz 0,i6 0]),
 J 5 (.mv (B false))] 3)
(.seq
(F [M 6 0,
 J 7 (.load (some 2) (.t 3)),
 J 8 (.call (C 47) [(.t 6),(.t 7),(Z 10)]),
 J 9 (.ext 0 (.t 8)),
 J 10 (.ext 1 (.t 8)),
 N (.store 11 (.t 4) (.t 9)),
 M 5 10] 7)
.ret))
def rv:List RV:=[.cell 4 (some 11),.tmp 5]
theorem enter:En Try.prog 31 11 s rv:=En.mk (c:= Try.f31.body.getD .ret) Try.func31 rfl (by kernel_rfl) (by kernel_rfl) (by kernel_rfl) (by kernel_rfl)
end ref16_Get
namespace ref22_left
abbrev f:Nat:=32
def s:cG:=(.seq
(F [J 5 (.box 29 (.t 2)),
 J 6 (.mv (.k (bz 0)))] 2)
(.seq
(F [M 11 0,
 J 12 (.load (some 2) (.t 5)),
 J 13 (.call (C 31) [(.t 11),(.t 12)]),
 M 10 13,
 J 14 (.ext 0 (.t 10)),
 J 15 (.ext 1 (.t 10)),
 J 7 (.alloc 78 [b8 0,aA 0,b8 0,aA 0,b8 0,aA 0,aA 0,b8 0,b8 0,bz 0,i6 0]),
 N (.store 11 (.t 7) (.t 14)),
 M 8 15] 9)
(.seq
(F [M 16 1,
 J 17 (.load (some 2) (.t 5)),
 J 18 (.call (C 15) [(.t 16),(.t 17)]),
 M 9 18] 4)
(.seq
(.seq
(F [M 19 9,
 J 20 (.aK 9 (.t 7)),
 J 21 (.load none (.t 20)),
 J 22 (.bin .geq (.t 19) (.t 21))] 4)
(.cond (.t 22)
(.seq
(F [J 6 (.mv (.k (bz 0)))] 1)
.ret)
.skip))
(.seq
(F [J 23 (.aK 9 (.t 7)),
 J 24 (.load none (.t 23)),
 M 25 9,
 J 26 (.bin .sub (.t 24) (.t 25)),
 M 6 26] 5)
.ret)))))
def rv:List RV:=[.tmp 6]
theorem enter:En Try.prog 32 27 s rv:=En.mk (c:= Try.f32.body.getD .ret) Try.func32 rfl (by kernel_rfl) (by kernel_rfl) (by kernel_rfl) (by kernel_rfl)
end ref22_left
namespace ref21_rises
abbrev f:Nat:=33
def s:cG:=(.seq
(F [J 2 (.mv (B false))] 1)
(.seq
(.seq
(F [J 3 (.mv (Z 1))] 1)
(.block 0
(.loop
(.seq
(.seq
(F [M 4 3,
 M 5 0,
 J 6 (.len (.t 5)),
 J 7 (.bin .lss (.t 4) (.t 6))] 4)
(.cond (.t 7)
.skip
(.exit 0)))
(.seq
(.block 1
(.seq
(.eN [M 10 0,
 M 11 3,
 J 12 (.bin .sub (.t 11) (Z 1)),
 J 13 (.bJ 1 (.t 10) (.t 12)),
 J 14 (.load none (.t 13)),
 M 15 0,
 M 16 3,
 J 17 (.bJ 1 (.t 15) (.t 16)),
 J 18 (.load none (.t 17)),
 J 19 (.bin .geq (.t 14) (.t 18))] [0,
0,
2,
7,
15,
0,
0,
96,
224,
511] true)
(.cond (.t 19)
(.seq
(F [J 2 (.mv (B false))] 1)
.ret)
.skip)))
(F [M 8 3,
 J 9 (.bin .add (.t 8) (Z 1)),
 M 3 9] 3))))))
(.seq
(F [J 2 (.mv (B true))] 1)
.ret)))
def rv:List RV:=[.tmp 2]
theorem enter:En Try.prog 33 20 s rv:=En.mk (c:= Try.f33.body.getD .ret) Try.func33 rfl (by kernel_rfl) (by kernel_rfl) (by kernel_rfl) (by kernel_rfl)
end ref21_rises
namespace ref03_with
abbrev f:Nat:=34
def s:cG:=(.seq
(F [J 3 (.box 29 (.t 1)),
 J 4 (.mv (.k (.d .ay)))] 2)
(.seq
(.seq
(F [M 7 0,
 J 8 (.load (some 2) (.t 3)),
 J 9 (.call (C 48) [(.t 7),(.t 8)])] 3)
(.cond (.t 9)
(.seq
(F [M 10 0,
 M 4 10] 2)
.ret)
.skip))
(.seq
(F [J 5 (.mv (.k (.d .ay)))] 1)
(.seq
(F [J 6 (.mv (Z 0))] 1)
(.seq
(.block 0
(.loop
(.seq
(.seq
(.eN [M 11 6,
 M 12 0,
 J 13 (.len (.t 12)),
 J 14 (.bin .lss (.t 11) (.t 13)),
 M 15 14,
 G 16 0 15 true,
 G 17 6 15 true,
 H 18 (.bJ 2 (.t 16) (.t 17)) 15 true,
 H 19 (.load (some 2) (.t 18)) 15 true,
 H 20 (.load (some 2) (.t 3)) 15 true,
 H 21 (.call (C 49) [(.t 19),(.t 20)]) 15 true,
 H 22 (.bin .lss (.t 21) (Z 0)) 15 true,
 J 23 (.pick (.t 15) (.t 22) (B false))] [0,
0,
2,
7,
15,
31,
31,
127,
255,
31,
1023,
2047,
4095] true)
(.cond (.t 23)
.skip
(.exit 0)))
(.block 1
(.seq
(F [M 24 5,
 M 25 0,
 M 26 6,
 J 27 (.bJ 2 (.t 25) (.t 26)),
 J 28 (.load (some 2) (.t 27)),
 J 29 (.jL 29 2 1 [b8 0,aA 0] [(0,2,(.t 28))]),
 J 30 (.app 29 2 8 (.t 24) (.t 29)),
 M 5 30] 8)
(F [M 31 6,
 J 32 (.bin .add (.t 31) (Z 1)),
 M 6 32] 3))))))
(.seq
(F [M 33 5,
 J 34 (.load (some 2) (.t 3)),
 J 35 (.jL 29 2 1 [b8 0,aA 0] [(0,2,(.t 34))]),
 J 36 (.app 29 2 8 (.t 33) (.t 35)),
 M 5 36] 5)
(.seq
(F [M 37 5,
 M 38 0,
 M 39 6,
 J 40 (.slc 2 (.t 38) (some (.t 39)) none),
 J 41 (.app 29 2 8 (.t 37) (.t 40)),
 M 4 41] 6)
.ret)))))))
def rv:List RV:=[.tmp 4]
theorem enter:En Try.prog 34 42 s rv:=En.mk (c:= Try.f34.body.getD .ret) Try.func34 rfl (by kernel_rfl) (by kernel_rfl) (by kernel_rfl) (by kernel_rfl)
end ref03_with
namespace ref23_sameNums
abbrev f:Nat:=35
def s:cG:=(.seq
(F [J 4 (.mv (B false))] 1)
(.seq
(.seq
(F [M 6 0,
 J 7 (.len (.t 6)),
 M 8 1,
 J 9 (.len (.t 8)),
 J 10 (.bin .neq (.t 7) (.t 9))] 5)
(.cond (.t 10)
(.seq
(F [J 4 (.mv (B false))] 1)
.ret)
.skip))
(.seq
(.seq
(F [J 5 (.mv (Z 0))] 1)
(.block 0
(.loop
(.seq
(.seq
(F [M 11 5,
 M 12 0,
 J 13 (.len (.t 12)),
 J 14 (.bin .lss (.t 11) (.t 13))] 4)
(.cond (.t 14)
.skip
(.exit 0)))
(.seq
(.block 1
(.seq
(.eN [M 17 0,
 M 18 5,
 J 19 (.bJ 1 (.t 17) (.t 18)),
 J 20 (.load none (.t 19)),
 M 21 1,
 M 22 5,
 J 23 (.bJ 1 (.t 21) (.t 22)),
 J 24 (.load none (.t 23)),
 J 25 (.bin .neq (.t 20) (.t 24))] [0,
0,
3,
7,
0,
0,
48,
112,
255] true)
(.cond (.t 25)
(.seq
(F [J 4 (.mv (B false))] 1)
.ret)
.skip)))
(F [M 15 5,
 J 16 (.bin .add (.t 15) (Z 1)),
 M 5 16] 3))))))
(.seq
(F [J 4 (.mv (B true))] 1)
.ret))))
def rv:List RV:=[.tmp 4]
theorem enter:En Try.prog 35 26 s rv:=En.mk (c:= Try.f35.body.getD .ret) Try.func35 rfl (by kernel_rfl) (by kernel_rfl) (by kernel_rfl) (by kernel_rfl)
end ref23_sameNums
namespace slices_IndexFunc_Lapi_Op_api_Op
abbrev f:Nat:=36
def s:cG:=(.seq
(F [J 4 (.mv (Z 0))] 1)
(.seq
(.seq
(F [M 6 0,
 J 7 (.len (.t 6)),
 J 8 (.mv (Z 0))] 3)
(.block 0
(.loop
(.seq
(F [J 9 (.bin .lss (.t 8) (.t 7))] 1)
(.seq
(.cond (.t 9)
.skip
(.exit 0))
(.seq
(.block 1
(.seq
(F [M 10 8,
 M 5 10] 2)
(.seq
(F [M 11 1,
 M 12 0,
 M 13 5,
 J 14 (.bJ 29 (.t 12) (.t 13)),
 J 15 (.load (some 29) (.t 14)),
 J 16 (.call (.t 11) [(.t 15)])] 6)
(.cond (.t 16)
(.seq
(F [M 17 5,
 M 4 17] 2)
.ret)
.skip))))
(F [J 18 (.bin .add (.t 8) (Z 1)),
 M 8 18] 2)))))))
(.seq
(F [J 4 (.mv (.k (.d (.int .i64 (-1)))))] 1)
.ret)))
def rv:List RV:=[.tmp 4]
theorem enter:En Try.prog 36 19 s rv:=En.mk (c:= Try.f36.body.getD .ret) Try.func36 rfl (by kernel_rfl) (by kernel_rfl) (by kernel_rfl) (by kernel_rfl)
end slices_IndexFunc_Lapi_Op_api_Op
namespace tree_Tree_Why
abbrev f:Nat:=37
def s:cG:=(.seq
(F [J 2 (.box 41 (.t 0)),
 J 3 (.box 35 (.t 1)),
 J 4 (.mv (Z 0))] 3)
(.seq
(.seq
(F [J 9 (.load none (.t 2)),
 J 10 (.call (C 39) [(.t 9)])] 2)
(.cond (.t 10)
(.seq
(F [J 4 (.mv (Z 1))] 1)
.ret)
.skip))
(.seq
(.eN [J 12 (.load none (.t 2)),
 J 13 (.qH (.t 12)),
 J 14 (.aK 0 (.t 13)),
 J 15 (.load none (.t 14)),
 J 16 (.aK 15 (.t 3)),
 J 17 (.load (some 2) (.t 16)),
 J 18 (.look [true,true] true (.agg [b8 0,aA 0,b8 0,aA 0,b8 0,aA 0,aA 0,b8 0,b8 0,bz 0,i6 0]) (.t 15) (.t 17) true),
 M 11 18,
 J 19 (.ext 0 (.t 11)),
 J 20 (.ext 1 (.t 11)),
 J 5 (.alloc 78 [b8 0,aA 0,b8 0,aA 0,b8 0,aA 0,aA 0,b8 0,b8 0,bz 0,i6 0]),
 J 6 (.alloc 4 [(.d (.bool false))]),
 N (.store 11 (.t 5) (.t 19)),
 N (.store 1 (.t 6) (.t 20))] [0,
1,
3,
7,
0,
16,
63,
127,
255,
255,
0,
0,
3583,
8191] true)
(.seq
(.seq
(F [J 21 (.xZ (.func 50) [] [(.t 3)]),
 J 22 (.fZ [i6 0,(.d .lV)] [(0,1,(Z 2)),(1,1,(.t 21))]),
 J 23 (.xZ (.func 51) [] [(.t 6),(.t 5),(.t 3),(.t 2)]),
 J 24 (.fZ [i6 0,(.d .lV)] [(0,1,(Z 272)),(1,1,(.t 23))]),
 J 25 (.xZ (.func 53) [] [(.t 5),(.t 3)]),
 J 26 (.fZ [i6 0,(.d .lV)] [(0,1,(Z 273)),(1,1,(.t 25))]),
 J 27 (.xZ (.func 54) [] [(.t 5)]),
 J 28 (.fZ [i6 0,(.d .lV)] [(0,1,(Z 274)),(1,1,(.t 27))]),
 J 29 (.xZ (.func 55) [] [(.t 3),(.t 5)]),
 J 30 (.fZ [i6 0,(.d .lV)] [(0,1,(Z 275)),(1,1,(.t 29))]),
 J 31 (.fZ [i6 0,(.d .lV),i6 0,(.d .lV),i6 0,(.d .lV),i6 0,(.d .lV),i6 0,(.d .lV)] [(0,2,(.t 22)),(2,2,(.t 24)),(4,2,(.t 26)),(6,2,(.t 28)),(8,2,(.t 30))]),
 J 32 (.mv (Z 0))] 12)
(.block 0
(.loop
(.seq
(F [J 33 (.bin .lss (.t 32) (Z 5))] 1)
(.seq
(.cond (.t 33)
.skip
(.exit 0))
(.seq
(.block 1
(.seq
(F [J 34 (.index 5 2 true (.t 31) (.t 32)),
 J 8 (.alloc 115 [i6 0,(.d .lV)]),
 N (.store 2 (.t 8) (.t 34))] 3)
(.seq
(F [J 35 (.aK 1 (.t 8)),
 J 36 (.load none (.t 35)),
 J 37 (.call (.t 36) [])] 3)
(.cond (.t 37)
(.seq
(F [J 38 (.aK 0 (.t 8)),
 J 39 (.load none (.t 38)),
 M 4 39] 3)
.ret)
.skip))))
(F [J 40 (.bin .add (.t 32) (Z 1)),
 M 32 40] 2)))))))
(.seq
(F [J 4 (.mv (Z 0))] 1)
.ret)))))
def rv:List RV:=[.tmp 4]
theorem enter:En Try.prog 37 41 s rv:=En.mk (c:= Try.f37.body.getD .ret) Try.func37 rfl (by kernel_rfl) (by kernel_rfl) (by kernel_rfl) (by kernel_rfl)
end tree_Tree_Why
namespace claim_nums
abbrev f:Nat:=38
def s:cG:=(.seq
(F [J 2 (.mv (.k (.d .ay)))] 1)
(.seq
(F [M 4 0,
 J 5 (.len (.t 4)),
 J 6 (.He 27 1 4 [aA 0] (.t 5) (.t 5)),
 M 3 6] 4)
(.seq
(F [M 7 3,
 M 8 0,
 J 9 (.copy 27 1 (.t 7) (.t 8))] 3)
(.seq
(F [M 10 3,
 M 2 10] 2)
.ret))))
def rv:List RV:=[.tmp 2]
theorem enter:En Try.prog 38 11 s rv:=En.mk (c:= Try.f38.body.getD .ret) Try.func38 rfl (by kernel_rfl) (by kernel_rfl) (by kernel_rfl) (by kernel_rfl)
end claim_nums
namespace tree_Tree_none
abbrev f:Nat:=39
def s:cG:=(.seq
(F [J 2 (.mv (B false))] 1)
(.seq
(F [M 3 0,
 J 4 (.ng false 0 (.t 3)),
 M 5 4,
 G 6 0 5 false,
 H 7 (.qH (.t 6)) 5 false,
 H 8 (.aK 0 (.t 7)) 5 false,
 H 9 (.load none (.t 8)) 5 false,
 H 10 (.ng false 1 (.t 9)) 5 false,
 J 11 (.pick (.t 5) (B true) (.t 10)),
 M 2 11] 10)
.ret))
def rv:List RV:=[.tmp 2]
theorem enter:En Try.prog 39 12 s rv:=En.mk (c:= Try.f39.body.getD .ret) Try.func39 rfl (by kernel_rfl) (by kernel_rfl) (by kernel_rfl) (by kernel_rfl)
end tree_Tree_none
namespace claim_claims_1
abbrev f:Nat:=40
def s:cG:=(.seq
(F [J 11 (.aK 28 (.t 1)),
 J 12 (.load none (.t 11)),
 J 13 (.len (.t 12)),
 J 14 (.mv (Z 0))] 4)
(.block 0
(.loop
(.seq
(F [J 15 (.bin .lss (.t 14) (.t 13))] 1)
(.seq
(.cond (.t 15)
.skip
(.exit 0))
(.seq
(.block 1
(.seq
(F [M 16 14,
 J 17 (.bJ 4 (.t 12) (.t 14)),
 J 18 (.load (some 4) (.t 17)),
 J 6 (.alloc 62 [b8 0,aA 0,b8 0,aA 0]),
 M 5 16,
 N (.store 4 (.t 6) (.t 18))] 6)
(.seq
(F [J 20 (.load none (.t 2)),
 J 21 (.aK 0 (.t 6)),
 J 22 (.load (some 2) (.t 21)),
 J 23 (.look [true,true] true (i6 0) (.t 20) (.t 22) true),
 M 19 23,
 J 24 (.ext 0 (.t 19)),
 J 25 (.ext 1 (.t 19)),
 M 7 24,
 M 8 25] 9)
(.seq
(.seq
(F [M 26 8,
 J 27 (.not (.t 26))] 2)
(.cond (.t 27)
(.exit 1)
.skip))
(.seq
(.eN [J 29 (.load none (.t 3)),
 M 30 7,
 J 31 (.bJ 10 (.t 29) (.t 30)),
 J 32 (.load (some 10) (.t 31)),
 J 33 (.aK 2 (.t 6)),
 J 34 (.load (some 2) (.t 33)),
 J 35 (.aK 11 (.t 1)),
 J 36 (.load none (.t 35)),
 J 37 (.call (C 41) [(.t 32),(.t 34),(.t 36)]),
 M 28 37,
 J 38 (.ext 0 (.t 28)),
 J 39 (.ext 1 (.t 28)),
 J 9 (.alloc 58 [b8 0,aA 0,aA 0,aA 0,aA 0,b8 0,aA 0,(.d .ay),(.d .ay),b8 0]),
 N (.store 10 (.t 9) (.t 38)),
 M 10 39] [0,
0,
3,
7,
0,
16,
0,
64,
255,
511,
1023,
1023,
0,
6143,
16383] true)
(.seq
(.seq
(F [M 40 10,
 J 41 (.bin .neq (.t 40) (Z 0))] 2)
(.cond (.t 41)
(.exit 1)
.skip))
(.seq
(F [J 42 (.load none (.t 3)),
 M 43 7,
 J 44 (.load (some 10) (.t 9)),
 J 45 (.bJ 10 (.t 42) (.t 43)),
 N (.store 10 (.t 45) (.t 44))] 5)
(.seq
(F [M 46 0,
 M 47 5,
 M 48 7,
 J 49 (.call (.t 46) [(.t 47),(.t 48)]),
 J 50 (.not (.t 49))] 5)
(.cond (.t 50)
.ret
.skip)))))))))
(F [J 51 (.bin .add (.t 14) (Z 1)),
 M 14 51] 2)))))))
def rv:List RV:=[]
theorem enter:En Try.prog 40 52 s rv:=En.mk (c:= Try.f40.body.getD .ret) Try.func40 rfl (by kernel_rfl) (by kernel_rfl) (by kernel_rfl) (by kernel_rfl)
end claim_claims_1
namespace line_Claim
abbrev f:Nat:=41
def s:cG:=(.seq
(F [J 3 (.box 58 (.t 0)),
 J 4 (.box 29 (.t 1)),
 J 6 (.alloc 58 [b8 0,aA 0,aA 0,aA 0,aA 0,b8 0,aA 0,(.d .ay),(.d .ay),b8 0]),
 J 7 (.mv (Z 0))] 4)
(.seq
(F [J 8 (.load (some 10) (.t 3)),
 J 9 (.call (C 56) [(.t 8)]),
 N (.store 10 (.t 3) (.t 9))] 3)
(.seq
(.seq
(F [J 10 (.load (some 10) (.t 3)),
 J 11 (.load (some 2) (.t 4)),
 M 12 2,
 J 13 (.call (C 57) [(.t 10),(.t 11),(.t 12)]),
 J 14 (.not (.t 13))] 5)
(.cond (.t 14)
(.seq
(F [J 15 (.load (some 10) (.t 3)),
 N (.store 10 (.t 6) (.t 15)),
 J 7 (.mv (Z 278))] 3)
.ret)
.skip))
(.seq
(F [J 16 (.aK 9 (.t 3)),
 N (.store 1 (.t 16) (.k (b8 2)))] 2)
(.seq
(F [J 17 (.load (some 10) (.t 3)),
 N (.store 10 (.t 6) (.t 17)),
 J 7 (.mv (Z 0))] 3)
.ret)))))
def rv:List RV:=[.cell 6 (some 10),.tmp 7]
theorem enter:En Try.prog 41 18 s rv:=En.mk (c:= Try.f41.body.getD .ret) Try.func41 rfl (by kernel_rfl) (by kernel_rfl) (by kernel_rfl) (by kernel_rfl)
end line_Claim
namespace tree_Tree_Chain
abbrev f:Nat:=42
def s:cG:=(.seq
(F [J 3 (.box 29 (.t 1)),
 J 4 (.mv (.k (.d .ay))),
 J 5 (.mv (Z 0))] 3)
(.seq
(.seq
(F [M 11 0,
 J 12 (.load (some 2) (.t 3)),
 J 13 (.call (C 25) [(.t 11),(.t 12)]),
 M 10 13,
 J 14 (.ext 0 (.t 10)),
 J 15 (.ext 1 (.t 10)),
 J 6 (.alloc 78 [b8 0,aA 0,b8 0,aA 0,b8 0,aA 0,aA 0,b8 0,b8 0,bz 0,i6 0]),
 N (.store 11 (.t 6) (.t 14)),
 M 7 15] 9)
(.seq
(F [M 16 7,
 J 17 (.bin .neq (.t 16) (Z 0))] 2)
(.cond (.t 17)
(.seq
(F [M 18 7,
 J 4 (.mv (.k (.d .ay))),
 M 5 18] 3)
.ret)
.skip)))
(.seq
(F [J 8 (.alloc 49 [(.d .ay)])] 1)
(.seq
(.seq
(F [M 19 0,
 J 20 (.load (some 2) (.t 3)),
 J 21 (.call (C 58) [(.t 19),(.t 20)])] 3)
(.block 0
(.tL (.t 21) [22]
(F [J 9 (.alloc 78 [b8 0,aA 0,b8 0,aA 0,b8 0,aA 0,aA 0,b8 0,b8 0,bz 0,i6 0]),
 N (.store 11 (.t 9) (.t 22))] 2)
(.block 1
(F [J 23 (.load none (.t 8)),
 J 24 (.aK 0 (.t 9)),
 J 25 (.load (some 2) (.t 24)),
 J 26 (.jL 29 2 1 [b8 0,aA 0] [(0,2,(.t 25))]),
 J 27 (.app 29 2 8 (.t 23) (.t 26)),
 N (.store 1 (.t 8) (.t 27))] 6)))))
(.seq
(F [J 28 (.load none (.t 8)),
 M 4 28,
 J 5 (.mv (Z 0))] 3)
.ret)))))
def rv:List RV:=[.tmp 4,.tmp 5]
theorem enter:En Try.prog 42 29 s rv:=En.mk (c:= Try.f42.body.getD .ret) Try.func42 rfl (by kernel_rfl) (by kernel_rfl) (by kernel_rfl) (by kernel_rfl)
end tree_Tree_Chain
namespace charge_spendsOf
abbrev f:Nat:=43
def s:cG:=(.seq
(F [J 2 (.mv (.k (.d .nC)))] 1)
(.seq
(F [J 8 (.DQ),
 M 3 8] 2)
(.seq
(.seq
(F [M 9 0,
 J 10 (.len (.t 9)),
 J 11 (.mv (Z 0))] 3)
(.block 0
(.loop
(.seq
(F [J 12 (.bin .lss (.t 11) (.t 10))] 1)
(.seq
(.cond (.t 12)
.skip
(.exit 0))
(.seq
(.block 1
(.seq
(F [J 13 (.bJ 3 (.t 9) (.t 11)),
 J 14 (.load (some 3) (.t 13)),
 J 5 (.alloc 65 [b8 0,aA 0,bz 0]),
 N (.store 3 (.t 5) (.t 14))] 4)
(.seq
(F [M 16 3,
 J 17 (.aK 0 (.t 5)),
 J 18 (.load (some 2) (.t 17)),
 J 19 (.look [true,true] true (bz 0) (.t 16) (.t 18) true),
 M 15 19,
 J 20 (.ext 0 (.t 15)),
 J 21 (.ext 1 (.t 15)),
 M 6 20,
 M 7 21] 9)
(.seq
(F [M 22 7,
 J 23 (.not (.t 22))] 2)
(.cond (.t 23)
(F [M 24 3,
 J 25 (.aK 0 (.t 5)),
 J 26 (.load (some 2) (.t 25)),
 J 27 (.aK 2 (.t 5)),
 J 28 (.load none (.t 27)),
 N (.Aj [true,true] true (.t 24) (.t 26) (.t 28))] 6)
.skip)))))
(F [J 29 (.bin .add (.t 11) (Z 1)),
 M 11 29] 2)))))))
(.seq
(F [M 30 3,
 M 2 30] 2)
.ret))))
def rv:List RV:=[.tmp 2]
theorem enter:En Try.prog 43 31 s rv:=En.mk (c:= Try.f43.body.getD .ret) Try.func43 rfl (by kernel_rfl) (by kernel_rfl) (by kernel_rfl) (by kernel_rfl)
end charge_spendsOf
namespace charge_tight
abbrev f:Nat:=44
def s:cG:=(.seq
(F [J 3 (.box 41 (.t 0)),
 J 4 (.box 106 (.t 1)),
 J 6 (.alloc 29 [b8 0,aA 0]),
 J 7 (.mv (.k (bz 0)))] 4)
(.seq
(F [J 12 (.xZ (.func 59) [] [(.t 3),(.t 4)]),
 M 8 12] 2)
(.seq
(F [M 13 2,
 J 14 (.bJ 2 (.t 13) (Z 0)),
 J 15 (.load (some 2) (.t 14)),
 J 9 (.alloc 29 [b8 0,aA 0]),
 N (.store 2 (.t 9) (.t 15))] 5)
(.seq
(.seq
(F [M 16 2,
 J 17 (.len (.t 16)),
 J 18 (.mv (Z 0))] 3)
(.block 0
(.loop
(.seq
(F [J 19 (.bin .lss (.t 18) (.t 17))] 1)
(.seq
(.cond (.t 19)
.skip
(.exit 0))
(.seq
(.block 1
(.seq
(F [J 20 (.bJ 2 (.t 16) (.t 18)),
 J 21 (.load (some 2) (.t 20)),
 J 11 (.alloc 29 [b8 0,aA 0]),
 N (.store 2 (.t 11) (.t 21))] 4)
(.seq
(.eN [M 22 8,
 J 23 (.load (some 2) (.t 11)),
 J 24 (.call (.t 22) [(.t 23)]),
 M 25 8,
 J 26 (.load (some 2) (.t 9)),
 J 27 (.call (.t 25) [(.t 26)]),
 J 28 (.bin .lss (.t 24) (.t 27))] [0,
0,
3,
0,
0,
31,
63] true)
(.cond (.t 28)
(F [J 29 (.load (some 2) (.t 11)),
 N (.store 2 (.t 9) (.t 29))] 2)
.skip))))
(F [J 30 (.bin .add (.t 18) (Z 1)),
 M 18 30] 2)))))))
(.seq
(.eN [J 31 (.load (some 2) (.t 9)),
 M 32 8,
 J 33 (.load (some 2) (.t 9)),
 J 34 (.call (.t 32) [(.t 33)]),
 N (.store 2 (.t 6) (.t 31)),
 M 7 34] [0,
0,
0,
6,
15,
31] true)
.ret)))))
def rv:List RV:=[.cell 6 (some 2),.tmp 7]
theorem enter:En Try.prog 44 35 s rv:=En.mk (c:= Try.f44.body.getD .ret) Try.func44 rfl (by kernel_rfl) (by kernel_rfl) (by kernel_rfl) (by kernel_rfl)
end charge_tight
namespace charge_spends_list
abbrev f:Nat:=45
def s:cG:=(.seq
(F [J 2 (.mv (.k (.d .ay)))] 1)
(.seq
(F [J 3 (.alloc 125 [(.d .ay)])] 1)
(.seq
(.seq
(F [M 9 0,
 J 10 (.call (C 60) [(.t 9)])] 2)
(.block 0
(.tL (.t 10) [11,12]
(.seq
(F [J 4 (.alloc 29 [b8 0,aA 0]),
 N (.store 2 (.t 4) (.t 11))] 2)
(F [M 5 12] 1))
(.block 1
(.seq
(F [M 13 5,
 J 14 (.bin .gtr (.t 13) (.k (bz 0)))] 2)
(.cond (.t 14)
(F [J 15 (.load none (.t 3)),
 J 16 (.load (some 2) (.t 4)),
 M 17 5,
 J 18 (.fZ [b8 0,aA 0,bz 0] [(0,2,(.t 16)),(2,1,(.t 17))]),
 J 19 (.fZ [b8 0,aA 0,bz 0] [(0,3,(.t 18))]),
 J 20 (.jL 130 3 1 [b8 0,aA 0,bz 0] [(0,3,(.t 19))]),
 J 21 (.app 130 3 16 (.t 15) (.t 20)),
 N (.store 1 (.t 3) (.t 21))] 8)
.skip))))))
(.seq
(F [J 22 (.load none (.t 3)),
 J 23 (.call (C 61) [(.t 22),(C 62)])] 2)
(.seq
(F [J 6 (.mv (.k (.d .ay)))] 1)
(.seq
(.seq
(F [J 24 (.load none (.t 3)),
 J 25 (.len (.t 24)),
 J 26 (.mv (Z 0))] 3)
(.block 2
(.loop
(.seq
(F [J 27 (.bin .lss (.t 26) (.t 25))] 1)
(.seq
(.cond (.t 27)
.skip
(.exit 2))
(.seq
(.block 3
(.seq
(F [J 28 (.bJ 3 (.t 24) (.t 26)),
 J 29 (.load (some 3) (.t 28)),
 J 8 (.alloc 130 [b8 0,aA 0,bz 0]),
 N (.store 3 (.t 8) (.t 29))] 4)
(F [M 30 6,
 J 31 (.aK 0 (.t 8)),
 J 32 (.load (some 3) (.t 31)),
 J 33 (.jL 65 3 1 [b8 0,aA 0,bz 0] [(0,3,(.t 32))]),
 J 34 (.app 65 3 16 (.t 30) (.t 33)),
 M 6 34] 6)))
(F [J 35 (.bin .add (.t 26) (Z 1)),
 M 26 35] 2)))))))
(.seq
(F [M 36 6,
 M 2 36] 2)
.ret)))))))
def rv:List RV:=[.tmp 2]
theorem enter:En Try.prog 45 37 s rv:=En.mk (c:= Try.f45.body.getD .ret) Try.func45 rfl (by kernel_rfl) (by kernel_rfl) (by kernel_rfl) (by kernel_rfl)
end charge_spends_list
namespace ref21_sameNums
abbrev f:Nat:=46
def s:cG:=(.seq
(F [J 4 (.mv (B false))] 1)
(.seq
(.seq
(F [M 6 0,
 J 7 (.len (.t 6)),
 M 8 1,
 J 9 (.len (.t 8)),
 J 10 (.bin .neq (.t 7) (.t 9))] 5)
(.cond (.t 10)
(.seq
(F [J 4 (.mv (B false))] 1)
.ret)
.skip))
(.seq
(.seq
(F [J 5 (.mv (Z 0))] 1)
(.block 0
(.loop
(.seq
(.seq
(F [M 11 5,
 M 12 0,
 J 13 (.len (.t 12)),
 J 14 (.bin .lss (.t 11) (.t 13))] 4)
(.cond (.t 14)
.skip
(.exit 0)))
(.seq
(.block 1
(.seq
(.eN [M 17 0,
 M 18 5,
 J 19 (.bJ 1 (.t 17) (.t 18)),
 J 20 (.load none (.t 19)),
 M 21 1,
 M 22 5,
 J 23 (.bJ 1 (.t 21) (.t 22)),
 J 24 (.load none (.t 23)),
 J 25 (.bin .neq (.t 20) (.t 24))] [0,
0,
3,
7,
0,
0,
48,
112,
255] true)
(.cond (.t 25)
(.seq
(F [J 4 (.mv (B false))] 1)
.ret)
.skip)))
(F [M 15 5,
 J 16 (.bin .add (.t 15) (Z 1)),
 M 5 16] 3))))))
(.seq
(F [J 4 (.mv (B true))] 1)
.ret))))
def rv:List RV:=[.tmp 4]
theorem enter:En Try.prog 46 26 s rv:=En.mk (c:= Try.f46.body.getD .ret) Try.func46 rfl (by kernel_rfl) (by kernel_rfl) (by kernel_rfl) (by kernel_rfl)
end ref21_sameNums
namespace ref16_get
abbrev f:Nat:=47
def s:cG:=(.seq
(F [J 4 (.box 29 (.t 1)),
 J 6 (.alloc 78 [b8 0,aA 0,b8 0,aA 0,b8 0,aA 0,aA 0,b8 0,b8 0,bz 0,i6 0]),
 J 7 (.mv (B false))] 3)
(.seq
(F [M 13 0,
 J 14 (.load (some 2) (.t 4)),
 J 15 (.call (C 63) [(.t 13),(.t 14)]),
 M 12 15,
 J 16 (.ext 0 (.t 12)),
 J 17 (.ext 1 (.t 12)),
 J 8 (.alloc 35 dm),
 N (.store 29 (.t 8) (.t 16)),
 M 9 17] 9)
(.seq
(.seq
(F [M 18 9,
 J 19 (.not (.t 18)),
 M 20 19,
 G 21 2 20 false,
 H 22 (.bin .eql (.t 21) (Z 0)) 20 false,
 J 23 (.pick (.t 20) (B true) (.t 22))] 6)
(.cond (.t 23)
(.seq
(F [J 24 (.fZ [b8 0,aA 0,b8 0,aA 0,b8 0,aA 0,aA 0,b8 0,b8 0,bz 0,i6 0] []),
 N (.store 11 (.t 6) (.t 24)),
 J 7 (.mv (B false))] 3)
.ret)
.skip))
(.seq
(.seq
(F [J 25 (.aK 14 (.t 8)),
 J 26 (.load none (.t 25)),
 J 27 (.bin .eql (.t 26) (.k (b8 0)))] 3)
(.cond (.t 27)
(.seq
(.eN [J 28 (.load (some 2) (.t 4)),
 J 29 (.load (some 2) (.t 4)),
 J 30 (.aK 11 (.t 8)),
 J 31 (.load none (.t 30)),
 J 32 (.fZ [b8 0,aA 0,b8 0,aA 0,b8 0,aA 0,aA 0,b8 0,b8 0,bz 0,i6 0] [(0,2,(.t 28)),(2,2,(.t 29)),(6,1,(.t 31)),(7,1,(.k (b8 7))),(8,1,(.k (b8 8))),(9,1,(.k (bz 1099511627776)))]),
 J 33 (.aK 12 (.t 8)),
 J 34 (.load (some 2) (.t 33)),
 J 35 (.load (some 2) (.t 4)),
 J 36 (.eqv false [true,true] (.t 34) (.t 35)),
 N (.store 11 (.t 6) (.t 32)),
 M 7 36] [0,
0,
0,
4,
15,
0,
32,
0,
224,
31,
1023] true)
.ret)
.skip))
(.seq
(F [M 38 0,
 J 39 (.load (some 29) (.t 8)),
 M 40 2,
 J 41 (.call (C 64) [(.t 38),(.t 39),(.t 40)]),
 M 37 41,
 J 42 (.ext 0 (.t 37)),
 J 43 (.ext 1 (.t 37)),
 J 10 (.alloc 78 [b8 0,aA 0,b8 0,aA 0,b8 0,aA 0,aA 0,b8 0,b8 0,bz 0,i6 0]),
 N (.store 11 (.t 10) (.t 42)),
 M 11 43] 10)
(.seq
(.seq
(F [M 44 11,
 J 45 (.bin .neq (.t 44) (Z 0))] 2)
(.cond (.t 45)
(.seq
(F [J 46 (.fZ [b8 0,aA 0,b8 0,aA 0,b8 0,aA 0,aA 0,b8 0,b8 0,bz 0,i6 0] []),
 N (.store 11 (.t 6) (.t 46)),
 J 7 (.mv (B false))] 3)
.ret)
.skip))
(.seq
(F (J 47 (.load (some 2) (.t 4))::
 J 48 (.aK 12 (.t 8))::
 J 49 (.load (some 2) (.t 48))::
 J 50 (.aK 15 (.t 8))::
 J 51 (.load (some 2) (.t 50))::
 J 52 (.aK 17 (.t 8))::
 J 53 (.load none (.t 52))::
 J 54 (.aK 18 (.t 8))::
 J 55 (.load none (.t 54))::
 J 56 (.aK 19 (.t 8))::
 J 57 (.load none (.t 56))::
 J 58 (.aK 20 (.t 8))::
 J 59 (.load none (.t 58))::
 J 60 (.aK 10 (.t 10))::
 J 61 (.load none (.t 60))::
 J 62 (.bin .add (.t 61) (Z 1))::
 J 63 (.fZ [b8 0,aA 0,b8 0,aA 0,b8 0,aA 0,aA 0,b8 0,b8 0,bz 0,i6 0] [(0,2,(.t 47)),(2,2,(.t 49)),(4,2,(.t 51)),(6,1,(.t 53)),(7,1,(.t 55)),(8,1,(.t 57)),(9,1,(.t 59)),(10,1,(.t 62))])::
 N (.store 11 (.t 6) (.t 63))::
 J 7 (.mv (B true))::[]) 19)
.ret)))))))
def rv:List RV:=[.cell 6 (some 11),.tmp 7]
theorem enter:En Try.prog 47 64 s rv:=En.mk (c:= Try.f47.body.getD .ret) Try.func47 rfl (by kernel_rfl) (by kernel_rfl) (by kernel_rfl) (by kernel_rfl)
end ref16_get
namespace ref03_In
abbrev f:Nat:=48
def s:cG:=(.seq
(F [J 3 (.box 29 (.t 1)),
 J 4 (.mv (B false))] 2)
(.seq
(.seq
(F [J 5 (.mv (Z 0))] 1)
(.block 0
(.loop
(.seq
(.seq
(F [M 6 5,
 M 7 0,
 J 8 (.len (.t 7)),
 J 9 (.bin .lss (.t 6) (.t 8))] 4)
(.cond (.t 9)
.skip
(.exit 0)))
(.seq
(.block 1
(.seq
(.eN [M 12 0,
 M 13 5,
 J 14 (.bJ 2 (.t 12) (.t 13)),
 J 15 (.load (some 2) (.t 14)),
 J 16 (.load (some 2) (.t 3)),
 J 17 (.eqv false [true,true] (.t 15) (.t 16))] [0,
0,
3,
7,
0,
31] true)
(.cond (.t 17)
(.seq
(F [J 4 (.mv (B true))] 1)
.ret)
.skip)))
(F [M 10 5,
 J 11 (.bin .add (.t 10) (Z 1)),
 M 5 11] 3))))))
(.seq
(F [J 4 (.mv (B false))] 1)
.ret)))
def rv:List RV:=[.tmp 4]
theorem enter:En Try.prog 48 18 s rv:=En.mk (c:= Try.f48.body.getD .ret) Try.func48 rfl (by kernel_rfl) (by kernel_rfl) (by kernel_rfl) (by kernel_rfl)
end ref03_In
namespace ref03_Compare
abbrev f:Nat:=49
def s:cG:=(.seq
(F [J 2 (.box 29 (.t 0)),
 J 3 (.box 29 (.t 1)),
 J 4 (.mv (Z 0))] 3)
(.seq
(.eN (J 7 (.aK 0 (.t 2))::
 J 8 (.load none (.t 7))::
 J 9 (.conv .i64 (.t 8))::
 J 10 (.bin .mul (.t 9) (Z 8589934592))::
 J 11 (.aK 1 (.t 2))::
 J 12 (.load none (.t 11))::
 J 13 (.conv .i64 (.t 12))::
 J 14 (.bin .add (.t 10) (.t 13))::
 J 15 (.aK 0 (.t 3))::
 J 16 (.load none (.t 15))::
 J 17 (.conv .i64 (.t 16))::
 J 18 (.bin .mul (.t 17) (Z 8589934592))::
 J 19 (.aK 1 (.t 3))::
 J 20 (.load none (.t 19))::
 J 21 (.conv .i64 (.t 20))::
 J 22 (.bin .add (.t 18) (.t 21))::
 M 5 14::
 M 6 22::[]) (0::
1::
3::
7::
0::
16::
48::
127::
0::
256::
768::
1792::
0::
4096::
12288::
32512::
255::
131071::[]) true)
(.seq
(.seq
(F [M 23 5,
 M 24 6,
 J 25 (.bin .lss (.t 23) (.t 24))] 3)
(.cond (.t 25)
(.seq
(F [J 4 (.mv (.k (.d (.int .i64 (-1)))))] 1)
.ret)
.skip))
(.seq
(.seq
(F [M 26 5,
 M 27 6,
 J 28 (.bin .gtr (.t 26) (.t 27))] 3)
(.cond (.t 28)
(.seq
(F [J 4 (.mv (Z 1))] 1)
.ret)
.skip))
(.seq
(F [J 4 (.mv (Z 0))] 1)
.ret)))))
def rv:List RV:=[.tmp 4]
theorem enter:En Try.prog 49 29 s rv:=En.mk (c:= Try.f49.body.getD .ret) Try.func49 rfl (by kernel_rfl) (by kernel_rfl) (by kernel_rfl) (by kernel_rfl)
end ref03_Compare
namespace tree_Tree_Why_1
abbrev f:Nat:=50
def s:cG:=(.seq
(F [J 1 (.mv (B false))] 1)
(.seq
(F [J 2 (.aK 14 (.t 0)),
 J 3 (.load none (.t 2)),
 J 4 (.bin .neq (.t 3) (.k (b8 1))),
 M 1 4] 4)
.ret))
def rv:List RV:=[.tmp 1]
theorem enter:En Try.prog 50 5 s rv:=En.mk (c:= Try.f50.body.getD .ret) Try.func50 rfl (by kernel_rfl) (by kernel_rfl) (by kernel_rfl) (by kernel_rfl)
end tree_Tree_Why_1
namespace tree_Tree_Why_2
abbrev f:Nat:=51
def s:cG:=(.seq
(F [J 4 (.mv (B false))] 1)
(.seq
(.eN (J 5 (.load none (.t 0))::
 J 6 (.not (.t 5))::
 M 7 6::
 H 8 (.aK 2 (.t 1)) 7 false::
 H 9 (.load (some 2) (.t 8)) 7 false::
 H 10 (.aK 12 (.t 2)) 7 false::
 H 11 (.load (some 2) (.t 10)) 7 false::
 H 12 (.eqv true [true,true] (.t 9) (.t 11)) 7 false::
 J 13 (.pick (.t 7) (B true) (.t 12))::
 M 14 13::
 H 15 (.load none (.t 3)) 14 false::
 H 16 (.qH (.t 15)) 14 false::
 H 17 (.aK 1 (.t 16)) 14 false::
 H 18 (.load none (.t 17)) 14 false::
 H 19 (.aK 15 (.t 2)) 14 false::
 H 20 (.load (some 2) (.t 19)) 14 false::
 H 21 (.look [true,true] true (.agg dm) (.t 18) (.t 20) false) 14 false::
 H 22 (.load (some 29) (.t 2)) 14 false::
 H 23 (.call (C 52) [(.t 21),(.t 22)]) 14 false::
 H 24 (.not (.t 23)) 14 false::
 J 25 (.pick (.t 14) (B true) (.t 24))::
 M 4 25::[]) (0::
1::
3::
7::
15::
7::
39::
127::
255::
511::
1023::
2047::
4095::
8191::
1023::
17407::
65535::
1023::
262143::
524287::
1048575::
2097151::[]) true)
.ret))
def rv:List RV:=[.tmp 4]
theorem enter:En Try.prog 51 26 s rv:=En.mk (c:= Try.f51.body.getD .ret) Try.func51 rfl (by kernel_rfl) (by kernel_rfl) (by kernel_rfl) (by kernel_rfl)
end tree_Tree_Why_2
namespace order_Before
abbrev f:Nat:=52
def s:cG:=(.seq
(F [J 2 (.box 35 (.t 0)),
 J 3 (.box 35 (.t 1)),
 J 4 (.mv (B false))] 3)
(.seq
(F [J 5 (.aK 2 (.t 3)),
 J 6 (.load (some 8) (.t 5)),
 J 7 (.aK 0 (.t 2)),
 J 8 (.load (some 2) (.t 7)),
 J 9 (.call (C 65) [(.t 6),(.t 8)]),
 M 4 9] 6)
.ret))
def rv:List RV:=[.tmp 4]
theorem enter:En Try.prog 52 10 s rv:=En.mk (c:= Try.f52.body.getD .ret) Try.func52 rfl (by kernel_rfl) (by kernel_rfl) (by kernel_rfl) (by kernel_rfl)
end order_Before
namespace tree_Tree_Why_3
abbrev f:Nat:=53
def s:cG:=(.seq
(F [J 2 (.mv (B false))] 1)
(.seq
(F [J 3 (.aK 6 (.t 0)),
 J 4 (.load none (.t 3)),
 J 5 (.aK 11 (.t 1)),
 J 6 (.load none (.t 5)),
 J 7 (.bin .neq (.t 4) (.t 6)),
 M 2 7] 6)
.ret))
def rv:List RV:=[.tmp 2]
theorem enter:En Try.prog 53 8 s rv:=En.mk (c:= Try.f53.body.getD .ret) Try.func53 rfl (by kernel_rfl) (by kernel_rfl) (by kernel_rfl) (by kernel_rfl)
end tree_Tree_Why_3
namespace tree_Tree_Why_4
abbrev f:Nat:=54
def s:cG:=(.seq
(F [J 1 (.mv (B false))] 1)
(.seq
(F [J 2 (.aK 7 (.t 0)),
 J 3 (.load none (.t 2)),
 J 4 (.bin .and (.t 3) (.k (b8 1))),
 J 5 (.bin .eql (.t 4) (.k (b8 0))),
 M 1 5] 5)
.ret))
def rv:List RV:=[.tmp 1]
theorem enter:En Try.prog 54 6 s rv:=En.mk (c:= Try.f54.body.getD .ret) Try.func54 rfl (by kernel_rfl) (by kernel_rfl) (by kernel_rfl) (by kernel_rfl)
end tree_Tree_Why_4
namespace tree_Tree_Why_5
abbrev f:Nat:=55
def s:cG:=(.seq
(F [J 2 (.mv (B false))] 1)
(.seq
(F (J 3 (.aK 18 (.t 0))::
 J 4 (.load none (.t 3))::
 J 5 (.bin .eql (.t 4) (.k (b8 0)))::
 M 6 5::
 H 7 (.aK 18 (.t 0)) 6 false::
 H 8 (.load none (.t 7)) 6 false::
 H 9 (.aK 7 (.t 1)) 6 false::
 H 10 (.load none (.t 9)) 6 false::
 H 11 (.bin .andNot (.t 8) (.t 10)) 6 false::
 H 12 (.bin .neq (.t 11) (.k (b8 0))) 6 false::
 J 13 (.pick (.t 6) (B true) (.t 12))::
 M 14 13::
 H 15 (.aK 17 (.t 0)) 14 false::
 H 16 (.load none (.t 15)) 14 false::
 H 17 (.bin .eql (.t 16) (.k (aA 0))) 14 false::
 J 18 (.pick (.t 14) (B true) (.t 17))::
 M 19 18::
 H 20 (.aK 19 (.t 0)) 19 false::
 H 21 (.load none (.t 20)) 19 false::
 H 22 (.aK 8 (.t 1)) 19 false::
 H 23 (.load none (.t 22)) 19 false::
 H 24 (.bin .geq (.t 21) (.t 23)) 19 false::
 J 25 (.pick (.t 19) (B true) (.t 24))::
 M 26 25::
 H 27 (.aK 20 (.t 0)) 26 false::
 H 28 (.load none (.t 27)) 26 false::
 H 29 (.aK 9 (.t 1)) 26 false::
 H 30 (.load none (.t 29)) 26 false::
 H 31 (.bin .gtr (.t 28) (.t 30)) 26 false::
 J 32 (.pick (.t 26) (B true) (.t 31))::
 M 2 32::[]) 31)
.ret))
def rv:List RV:=[.tmp 2]
theorem enter:En Try.prog 55 33 s rv:=En.mk (c:= Try.f55.body.getD .ret) Try.func55 rfl (by kernel_rfl) (by kernel_rfl) (by kernel_rfl) (by kernel_rfl)
end tree_Tree_Why_5
namespace line_copied
abbrev f:Nat:=56
def s:cG:=(.seq
(F [J 1 (.box 58 (.t 0)),
 J 2 (.alloc 58 [b8 0,aA 0,aA 0,aA 0,aA 0,b8 0,aA 0,(.d .ay),(.d .ay),b8 0])] 2)
(.seq
(.eN [J 3 (.aK 7 (.t 1)),
 J 4 (.load none (.t 3)),
 J 5 (.call (C 66) [(.t 4)]),
 J 6 (.aK 8 (.t 1)),
 J 7 (.load none (.t 6)),
 J 8 (.call (C 66) [(.t 7)]),
 J 9 (.aK 7 (.t 1)),
 N (.store 1 (.t 9) (.t 5)),
 J 10 (.aK 8 (.t 1)),
 N (.store 1 (.t 10) (.t 8))] [0,
1,
3,
0,
8,
31,
31,
127,
255,
511] true)
(.seq
(F [J 11 (.load (some 10) (.t 1)),
 N (.store 10 (.t 2) (.t 11))] 2)
.ret)))
def rv:List RV:=[.cell 2 (some 10)]
theorem enter:En Try.prog 56 12 s rv:=En.mk (c:= Try.f56.body.getD .ret) Try.func56 rfl (by kernel_rfl) (by kernel_rfl) (by kernel_rfl) (by kernel_rfl)
end line_copied
namespace line_May
abbrev f:Nat:=57
def s:cG:=(.seq
(F [J 3 (.box 58 (.t 0)),
 J 4 (.box 29 (.t 1)),
 J 5 (.box 27 (.t 2)),
 J 6 (.mv (B false))] 4)
(.seq
(F (J 7 (.aK 9 (.t 3))::
 J 8 (.load none (.t 7))::
 J 9 (.bin .eql (.t 8) (.k (b8 0)))::
 M 10 9::
 H 11 (.aK 5 (.t 3)) 10 true::
 H 12 (.load (some 2) (.t 11)) 10 true::
 H 13 (.load (some 2) (.t 4)) 10 true::
 H 14 (.eqv false [true,true] (.t 12) (.t 13)) 10 true::
 J 15 (.pick (.t 10) (.t 14) (B false))::
 M 16 15::
 H 17 (.aK 8 (.t 3)) 16 true::
 H 18 (.load none (.t 17)) 16 true::
 H 19 (.len (.t 18)) 16 true::
 H 20 (.bin .eql (.t 19) (Z 0)) 16 true::
 J 21 (.pick (.t 16) (.t 20) (B false))::
 M 22 21::
 H 23 (.aK 7 (.t 3)) 22 true::
 H 24 (.load none (.t 23)) 22 true::
 H 25 (.xZ (.func 68) [] [(.t 5)]) 22 true::
 H 26 (.call (C 67) [(.t 24),(.t 25)]) 22 true::
 J 27 (.pick (.t 22) (.t 26) (B false))::
 M 6 27::[]) 22)
.ret))
def rv:List RV:=[.tmp 6]
theorem enter:En Try.prog 57 28 s rv:=En.mk (c:= Try.f57.body.getD .ret) Try.func57 rfl (by kernel_rfl) (by kernel_rfl) (by kernel_rfl) (by kernel_rfl)
end line_May
namespace tree_Tree_up
abbrev f:Nat:=58
def s:cG:=(.seq
(F [J 2 (.box 41 (.t 0)),
 J 3 (.box 29 (.t 1)),
 J 4 (.mv (.k (.d .lV)))] 3)
(.seq
(F [J 5 (.xZ (.func 69) [] [(.t 2),(.t 3)]),
 M 4 5] 2)
.ret))
def rv:List RV:=[.tmp 4]
theorem enter:En Try.prog 58 6 s rv:=En.mk (c:= Try.f58.body.getD .ret) Try.func58 rfl (by kernel_rfl) (by kernel_rfl) (by kernel_rfl) (by kernel_rfl)
end tree_Tree_up
namespace charge_tight_1
abbrev f:Nat:=59
def s:cG:=(.seq
(F [J 3 (.box 29 (.t 0)),
 J 4 (.mv (.k (bz 0)))] 2)
(.seq
(F [J 8 (.load none (.t 1)),
 J 9 (.load (some 2) (.t 3)),
 J 10 (.call (C 25) [(.t 8),(.t 9)]),
 M 7 10,
 J 11 (.ext 0 (.t 7)),
 J 12 (.ext 1 (.t 7)),
 J 5 (.alloc 78 [b8 0,aA 0,b8 0,aA 0,b8 0,aA 0,aA 0,b8 0,b8 0,bz 0,i6 0]),
 N (.store 11 (.t 5) (.t 11)),
 M 6 12] 9)
(.seq
(.eN [J 13 (.aK 9 (.t 5)),
 J 14 (.load none (.t 13)),
 J 15 (.aK 9 (.t 5)),
 J 16 (.load none (.t 15)),
 J 17 (.load none (.t 2)),
 J 18 (.load (some 2) (.t 3)),
 J 19 (.look [true,true] true (bz 0) (.t 17) (.t 18) false),
 J 20 (.mn (.t 16) (.t 19)),
 J 21 (.bin .sub (.t 14) (.t 20)),
 M 4 21] [0,
1,
0,
4,
0,
0,
48,
124,
255,
511] true)
.ret)))
def rv:List RV:=[.tmp 4]
theorem enter:En Try.prog 59 22 s rv:=En.mk (c:= Try.f59.body.getD .ret) Try.func59 rfl (by kernel_rfl) (by kernel_rfl) (by kernel_rfl) (by kernel_rfl)
end charge_tight_1
namespace maps_All_charge_spends_api_Dot_uint64
abbrev f:Nat:=60
def s:cG:=(.seq
(F [J 1 (.box 106 (.t 0)),
 J 2 (.mv (.k (.d .lV)))] 2)
(.seq
(F [J 3 (.xZ (.func 70) [] [(.t 1)]),
 M 2 3] 2)
.ret))
def rv:List RV:=[.tmp 2]
theorem enter:En Try.prog 60 4 s rv:=En.mk (c:= Try.f60.body.getD .ret) Try.func60 rfl (by kernel_rfl) (by kernel_rfl) (by kernel_rfl) (by kernel_rfl)
end maps_All_charge_spends_api_Dot_uint64
namespace charge_pair_compare
abbrev f:Nat:=62
def s:cG:=(.seq
(F [J 2 (.box 130 (.t 0)),
 J 3 (.box 130 (.t 1)),
 J 4 (.mv (Z 0))] 3)
(.seq
(F [J 5 (.aK 0 (.t 2)),
 J 6 (.aK 0 (.t 5)),
 J 7 (.load (some 2) (.t 6)),
 J 8 (.aK 0 (.t 3)),
 J 9 (.aK 0 (.t 8)),
 J 10 (.load (some 2) (.t 9)),
 J 11 (.call (C 73) [(.t 7),(.t 10)]),
 M 4 11] 8)
.ret))
def rv:List RV:=[.tmp 4]
theorem enter:En Try.prog 62 12 s rv:=En.mk (c:= Try.f62.body.getD .ret) Try.func62 rfl (by kernel_rfl) (by kernel_rfl) (by kernel_rfl) (by kernel_rfl)
end charge_pair_compare
namespace ref10_Find
abbrev f:Nat:=63
def s:cG:=(.seq
(F [J 3 (.box 29 (.t 1)),
 J 4 (.alloc 35 dm),
 J 5 (.mv (B false))] 3)
(.seq
(.seq
(F [J 6 (.mv (Z 0))] 1)
(.block 0
(.loop
(.seq
(.seq
(F [M 7 6,
 M 8 0,
 J 9 (.len (.t 8)),
 J 10 (.bin .lss (.t 7) (.t 9))] 4)
(.cond (.t 10)
.skip
(.exit 0)))
(.seq
(.block 1
(.seq
(.eN [M 13 0,
 M 14 6,
 J 15 (.bJ 29 (.t 13) (.t 14)),
 J 16 (.aK 0 (.t 15)),
 J 17 (.load (some 2) (.t 16)),
 J 18 (.load (some 2) (.t 3)),
 J 19 (.eqv false [true,true] (.t 17) (.t 18))] [0,
0,
3,
7,
15,
0,
63] true)
(.cond (.t 19)
(.seq
(F [M 20 0,
 M 21 6,
 J 22 (.bJ 29 (.t 20) (.t 21)),
 J 23 (.load (some 29) (.t 22)),
 N (.store 29 (.t 4) (.t 23)),
 J 5 (.mv (B true))] 6)
.ret)
.skip)))
(F [M 11 6,
 J 12 (.bin .add (.t 11) (Z 1)),
 M 6 12] 3))))))
(.seq
(F [J 24 (.fZ dm []),
 N (.store 29 (.t 4) (.t 24)),
 J 5 (.mv (B false))] 3)
.ret)))
def rv:List RV:=[.cell 4 (some 29),.tmp 5]
theorem enter:En Try.prog 63 25 s rv:=En.mk (c:= Try.f63.body.getD .ret) Try.func63 rfl (by kernel_rfl) (by kernel_rfl) (by kernel_rfl) (by kernel_rfl)
end ref10_Find
namespace ref16_why
abbrev f:Nat:=64
def s:cG:=(.seq
(F [J 4 (.box 35 (.t 1)),
 J 6 (.alloc 78 [b8 0,aA 0,b8 0,aA 0,b8 0,aA 0,aA 0,b8 0,b8 0,bz 0,i6 0]),
 J 7 (.mv (Z 0))] 3)
(.seq
(.seq
(F [J 12 (.aK 14 (.t 4)),
 J 13 (.load none (.t 12)),
 J 14 (.bin .neq (.t 13) (.k (b8 1)))] 3)
(.cond (.t 14)
(.seq
(F [J 15 (.fZ [b8 0,aA 0,b8 0,aA 0,b8 0,aA 0,aA 0,b8 0,b8 0,bz 0,i6 0] []),
 N (.store 11 (.t 6) (.t 15)),
 J 7 (.mv (Z 2))] 3)
.ret)
.skip))
(.seq
(F [M 17 0,
 J 18 (.aK 15 (.t 4)),
 J 19 (.load (some 2) (.t 18)),
 M 20 2,
 J 21 (.bin .sub (.t 20) (Z 1)),
 J 22 (.call (C 47) [(.t 17),(.t 19),(.t 21)]),
 M 16 22,
 J 23 (.ext 0 (.t 16)),
 J 24 (.ext 1 (.t 16)),
 J 8 (.alloc 78 [b8 0,aA 0,b8 0,aA 0,b8 0,aA 0,aA 0,b8 0,b8 0,bz 0,i6 0]),
 N (.store 11 (.t 8) (.t 23)),
 M 9 24] 12)
(.seq
(F [M 26 0,
 J 27 (.aK 15 (.t 4)),
 J 28 (.load (some 2) (.t 27)),
 J 29 (.call (C 63) [(.t 26),(.t 28)]),
 M 25 29,
 J 30 (.ext 0 (.t 25)),
 J 31 (.ext 1 (.t 25)),
 J 10 (.alloc 35 dm),
 N (.store 29 (.t 10) (.t 30)),
 M 11 31] 10)
(.seq
(.seq
(F [M 32 9,
 J 33 (.not (.t 32)),
 M 34 33,
 H 35 (.aK 2 (.t 8)) 34 false,
 H 36 (.load (some 2) (.t 35)) 34 false,
 H 37 (.aK 12 (.t 4)) 34 false,
 H 38 (.load (some 2) (.t 37)) 34 false,
 H 39 (.eqv true [true,true] (.t 36) (.t 38)) 34 false,
 J 40 (.pick (.t 34) (B true) (.t 39)),
 M 41 40,
 H 42 (.load (some 29) (.t 10)) 41 false,
 H 43 (.load (some 29) (.t 4)) 41 false,
 H 44 (.call (C 74) [(.t 42),(.t 43)]) 41 false,
 H 45 (.not (.t 44)) 41 false,
 J 46 (.pick (.t 41) (B true) (.t 45))] 15)
(.cond (.t 46)
(.seq
(F [J 47 (.load (some 11) (.t 8)),
 N (.store 11 (.t 6) (.t 47)),
 J 7 (.mv (Z 272))] 3)
.ret)
.skip))
(.seq
(.seq
(F [J 48 (.aK 6 (.t 8)),
 J 49 (.load none (.t 48)),
 J 50 (.aK 11 (.t 4)),
 J 51 (.load none (.t 50)),
 J 52 (.bin .neq (.t 49) (.t 51))] 5)
(.cond (.t 52)
(.seq
(F [J 53 (.load (some 11) (.t 8)),
 N (.store 11 (.t 6) (.t 53)),
 J 7 (.mv (Z 273))] 3)
.ret)
.skip))
(.seq
(.seq
(F [J 54 (.aK 7 (.t 8)),
 J 55 (.load none (.t 54)),
 J 56 (.call (C 75) [(.t 55),(.k (b8 1))]),
 J 57 (.not (.t 56))] 4)
(.cond (.t 57)
(.seq
(F [J 58 (.load (some 11) (.t 8)),
 N (.store 11 (.t 6) (.t 58)),
 J 7 (.mv (Z 274))] 3)
.ret)
.skip))
(.seq
(.seq
(F (J 59 (.aK 18 (.t 4))::
 J 60 (.load none (.t 59))::
 J 61 (.aK 7 (.t 8))::
 J 62 (.load none (.t 61))::
 J 63 (.call (C 76) [(.t 60),(.t 62)])::
 J 64 (.not (.t 63))::
 M 65 64::
 H 66 (.aK 17 (.t 4)) 65 false::
 H 67 (.load none (.t 66)) 65 false::
 H 68 (.bin .eql (.t 67) (.k (aA 0))) 65 false::
 J 69 (.pick (.t 65) (B true) (.t 68))::
 M 70 69::
 H 71 (.aK 19 (.t 4)) 70 false::
 H 72 (.load none (.t 71)) 70 false::
 H 73 (.aK 8 (.t 8)) 70 false::
 H 74 (.load none (.t 73)) 70 false::
 H 75 (.bin .geq (.t 72) (.t 74)) 70 false::
 J 76 (.pick (.t 70) (B true) (.t 75))::
 M 77 76::
 H 78 (.aK 20 (.t 4)) 77 false::
 H 79 (.load none (.t 78)) 77 false::
 H 80 (.aK 9 (.t 8)) 77 false::
 H 81 (.load none (.t 80)) 77 false::
 H 82 (.bin .gtr (.t 79) (.t 81)) 77 false::
 J 83 (.pick (.t 77) (B true) (.t 82))::[]) 25)
(.cond (.t 83)
(.seq
(F [J 84 (.load (some 11) (.t 8)),
 N (.store 11 (.t 6) (.t 84)),
 J 7 (.mv (Z 275))] 3)
.ret)
.skip))
(.seq
(F [J 85 (.load (some 11) (.t 8)),
 N (.store 11 (.t 6) (.t 85)),
 J 7 (.mv (Z 0))] 3)
.ret)))))))))
def rv:List RV:=[.cell 6 (some 11),.tmp 7]
theorem enter:En Try.prog 64 86 s rv:=En.mk (c:= Try.f64.body.getD .ret) Try.func64 rfl (by kernel_rfl) (by kernel_rfl) (by kernel_rfl) (by kernel_rfl)
end ref16_why
namespace vector_Covers
abbrev f:Nat:=65
def s:cG:=(.seq
(F [J 2 (.box 31 (.t 0)),
 J 3 (.box 29 (.t 1)),
 J 4 (.mv (B false))] 3)
(.seq
(.eN [J 5 (.load (some 2) (.t 3)),
 J 6 (.call (C 77) [(.t 5)]),
 M 7 6,
 H 8 (.aK 0 (.t 3)) 7 true,
 H 9 (.load none (.t 8)) 7 true,
 H 10 (.Bx 8 1 (.t 2) (.t 9)) 7 true,
 H 11 (.load none (.t 10)) 7 true,
 H 12 (.aK 1 (.t 3)) 7 true,
 H 13 (.load none (.t 12)) 7 true,
 H 14 (.bin .geq (.t 11) (.t 13)) 7 true,
 J 15 (.pick (.t 7) (.t 14) (B false)),
 M 4 15] [0,
1,
3,
7,
15,
31,
63,
7,
135,
511,
1023,
2047] true)
.ret))
def rv:List RV:=[.tmp 4]
theorem enter:En Try.prog 65 16 s rv:=En.mk (c:= Try.f65.body.getD .ret) Try.func65 rfl (by kernel_rfl) (by kernel_rfl) (by kernel_rfl) (by kernel_rfl)
end vector_Covers
namespace slices_Clone_Luint32_uint32
abbrev f:Nat:=66
def s:cG:=(.seq
(F [J 2 (.mv (.k (.d .ay)))] 1)
(.seq
(.seq
(F [M 3 0,
 J 4 (.ng false 3 (.t 3))] 2)
(.cond (.t 4)
(.seq
(F [J 2 (.mv (.k (.d .ay)))] 1)
.ret)
.skip))
(.seq
(F [J 5 (.jL 27 1 0 [] []),
 M 6 0,
 J 7 (.app 27 1 4 (.t 5) (.t 6)),
 M 2 7] 4)
.ret)))
def rv:List RV:=[.tmp 2]
theorem enter:En Try.prog 66 8 s rv:=En.mk (c:= Try.f66.body.getD .ret) Try.func66 rfl (by kernel_rfl) (by kernel_rfl) (by kernel_rfl) (by kernel_rfl)
end slices_Clone_Luint32_uint32
namespace slices_ContainsFunc_Luint32_uint32
abbrev f:Nat:=67
def s:cG:=(.seq
(F [J 4 (.mv (B false))] 1)
(.seq
(F [M 5 0,
 M 6 1,
 J 7 (.call (C 78) [(.t 5),(.t 6)]),
 J 8 (.bin .geq (.t 7) (Z 0)),
 M 4 8] 5)
.ret))
def rv:List RV:=[.tmp 4]
theorem enter:En Try.prog 67 9 s rv:=En.mk (c:= Try.f67.body.getD .ret) Try.func67 rfl (by kernel_rfl) (by kernel_rfl) (by kernel_rfl) (by kernel_rfl)
end slices_ContainsFunc_Luint32_uint32
namespace line_May_1
abbrev f:Nat:=68
def s:cG:=(.seq
(F [J 3 (.mv (B false))] 1)
(.seq
(F [M 4 0,
 J 5 (.load none (.t 1)),
 J 6 (.bin .neq (.t 4) (.t 5)),
 M 3 6] 4)
.ret))
def rv:List RV:=[.tmp 3]
theorem enter:En Try.prog 68 7 s rv:=En.mk (c:= Try.f68.body.getD .ret) Try.func68 rfl (by kernel_rfl) (by kernel_rfl) (by kernel_rfl) (by kernel_rfl)
end line_May_1
namespace tree_Tree_up_1
abbrev f:Nat:=69
def s:cG:=(.seq
(.eN [J 7 (.load none (.t 1)),
 J 8 (.qH (.t 7)),
 J 9 (.aK 0 (.t 8)),
 J 10 (.load none (.t 9)),
 J 11 (.load (some 2) (.t 2)),
 J 12 (.look [true,true] true (.agg [b8 0,aA 0,b8 0,aA 0,b8 0,aA 0,aA 0,b8 0,b8 0,bz 0,i6 0]) (.t 10) (.t 11) true),
 M 6 12,
 J 13 (.ext 0 (.t 6)),
 J 14 (.ext 1 (.t 6)),
 J 4 (.alloc 78 [b8 0,aA 0,b8 0,aA 0,b8 0,aA 0,aA 0,b8 0,b8 0,bz 0,i6 0]),
 N (.store 11 (.t 4) (.t 13)),
 M 5 14] [0,
1,
3,
7,
0,
31,
63,
127,
127,
0,
767,
2047] true)
(.block 0
(.loop
(.seq
(.seq
(F [M 15 5,
 M 16 15,
 G 17 0 16 true,
 H 18 (.load (some 11) (.t 4)) 16 true,
 H 19 (.call (.t 17) [(.t 18)]) 16 true,
 J 20 (.pick (.t 16) (.t 19) (B false)),
 M 21 20,
 H 22 (.aK 10 (.t 4)) 21 true,
 H 23 (.load none (.t 22)) 21 true,
 H 24 (.bin .gtr (.t 23) (Z 0)) 21 true,
 J 25 (.pick (.t 21) (.t 24) (B false))] 11)
(.cond (.t 25)
.skip
(.exit 0)))
(.seq
(.block 1
(.eN [J 27 (.load none (.t 1)),
 J 28 (.qH (.t 27)),
 J 29 (.aK 0 (.t 28)),
 J 30 (.load none (.t 29)),
 J 31 (.aK 4 (.t 4)),
 J 32 (.load (some 2) (.t 31)),
 J 33 (.look [true,true] true (.agg [b8 0,aA 0,b8 0,aA 0,b8 0,aA 0,aA 0,b8 0,b8 0,bz 0,i6 0]) (.t 30) (.t 32) true),
 M 26 33,
 J 34 (.ext 0 (.t 26)),
 J 35 (.ext 1 (.t 26)),
 N (.store 11 (.t 4) (.t 34)),
 M 5 35] [0,
1,
3,
7,
0,
16,
63,
127,
255,
255,
511,
2047] true))
(.seq
(F [J 36 (.load (some 11) (.t 4))] 1)
(F [J 4 (.alloc 78 [b8 0,aA 0,b8 0,aA 0,b8 0,aA 0,aA 0,b8 0,b8 0,bz 0,i6 0]),
 N (.store 11 (.t 4) (.t 36))] 2)))))))
def rv:List RV:=[]
theorem enter:En Try.prog 69 37 s rv:=En.mk (c:= Try.f69.body.getD .ret) Try.func69 rfl (by kernel_rfl) (by kernel_rfl) (by kernel_rfl) (by kernel_rfl)
end tree_Tree_up_1
namespace maps_All_charge_spends_api_Dot_uint64_1
abbrev f:Nat:=70
def s:cG:=(.seq
(F [J 5 (.load none (.t 1)),
 J 6 (.rD (.t 5))] 2)
(.block 0
(.loop
(.seq
(F [J 7 (.nh (.t 6)),
 J 8 (.ext 0 (.t 7))] 2)
(.seq
(.cond (.t 8)
.skip
(.exit 0))
(.block 1
(.seq
(F [J 9 (.uY (.t 6)),
 J 10 (.ext 0 (.t 9)),
 J 11 (.ext 1 (.t 9)),
 J 3 (.alloc 29 [b8 0,aA 0]),
 N (.store 2 (.t 3) (.t 10)),
 M 4 11] 6)
(.seq
(F [M 12 0,
 J 13 (.load (some 2) (.t 3)),
 M 14 4,
 J 15 (.call (.t 12) [(.t 13),(.t 14)]),
 J 16 (.not (.t 15))] 5)
(.cond (.t 16)
.ret
.skip)))))))))
def rv:List RV:=[]
theorem enter:En Try.prog 70 17 s rv:=En.mk (c:= Try.f70.body.getD .ret) Try.func70 rfl (by kernel_rfl) (by kernel_rfl) (by kernel_rfl) (by kernel_rfl)
end maps_All_charge_spends_api_Dot_uint64_1
namespace dot_Compare
abbrev f:Nat:=73
def s:cG:=(.seq
(F [J 2 (.box 29 (.t 0)),
 J 3 (.box 29 (.t 1)),
 J 4 (.mv (Z 0))] 3)
(.seq
(.eN [J 5 (.aK 0 (.t 2)),
 J 6 (.load none (.t 5)),
 J 7 (.aK 0 (.t 3)),
 J 8 (.load none (.t 7)),
 J 9 (.call (C 90) [(.t 6),(.t 8)]),
 J 10 (.aK 1 (.t 2)),
 J 11 (.load none (.t 10)),
 J 12 (.aK 1 (.t 3)),
 J 13 (.load none (.t 12)),
 J 14 (.call (C 91) [(.t 11),(.t 13)]),
 J 15 (.jL 3 1 2 [i6 0,i6 0] [(0,1,(.t 9)),(1,1,(.t 14))]),
 J 16 (.call (C 89) [(.t 15)]),
 M 4 16] [0,
1,
0,
4,
15,
0,
32,
0,
128,
511,
1023,
2047,
4095] true)
.ret))
def rv:List RV:=[.tmp 4]
theorem enter:En Try.prog 73 17 s rv:=En.mk (c:= Try.f73.body.getD .ret) Try.func73 rfl (by kernel_rfl) (by kernel_rfl) (by kernel_rfl) (by kernel_rfl)
end dot_Compare
namespace ref10_Before
abbrev f:Nat:=74
def s:cG:=(.seq
(F [J 2 (.box 35 (.t 0)),
 J 3 (.box 35 (.t 1)),
 J 4 (.mv (B false))] 3)
(.seq
(F [J 5 (.aK 2 (.t 3)),
 J 6 (.load (some 8) (.t 5)),
 J 7 (.aK 0 (.t 2)),
 J 8 (.load (some 2) (.t 7)),
 J 9 (.call (C 92) [(.t 6),(.t 8)]),
 M 4 9] 6)
.ret))
def rv:List RV:=[.tmp 4]
theorem enter:En Try.prog 74 10 s rv:=En.mk (c:= Try.f74.body.getD .ret) Try.func74 rfl (by kernel_rfl) (by kernel_rfl) (by kernel_rfl) (by kernel_rfl)
end ref10_Before
namespace ref16_has
abbrev f:Nat:=75
def s:cG:=(.seq
(F [J 4 (.mv (B false))] 1)
(.seq
(F [M 5 0,
 M 6 1,
 J 7 (.bin .quo (.t 5) (.t 6)),
 J 8 (.bin .rem (.t 7) (.k (b8 2))),
 J 9 (.bin .eql (.t 8) (.k (b8 1))),
 M 4 9] 6)
.ret))
def rv:List RV:=[.tmp 4]
theorem enter:En Try.prog 75 10 s rv:=En.mk (c:= Try.f75.body.getD .ret) Try.func75 rfl (by kernel_rfl) (by kernel_rfl) (by kernel_rfl) (by kernel_rfl)
end ref16_has
namespace ref16_within
abbrev f:Nat:=76
def s:cG:=(.seq
(F [J 4 (.mv (B false))] 1)
(.seq
(.seq
(F [M 6 0,
 J 7 (.bin .eql (.t 6) (.k (b8 0)))] 2)
(.cond (.t 7)
(.seq
(F [J 4 (.mv (B false))] 1)
.ret)
.skip))
(.seq
(.seq
(F [J 5 (.mv (Z 1))] 1)
(.block 0
(.loop
(.seq
(.seq
(F [M 8 5,
 J 9 (.bin .lss (.t 8) (Z 256))] 2)
(.cond (.t 9)
.skip
(.exit 0)))
(.seq
(.block 1
(.seq
(F [M 12 0,
 M 13 5,
 J 14 (.conv .u8 (.t 13)),
 J 15 (.call (C 75) [(.t 12),(.t 14)]),
 M 16 15,
 G 17 1 16 true,
 G 18 5 16 true,
 H 19 (.conv .u8 (.t 18)) 16 true,
 H 20 (.call (C 75) [(.t 17),(.t 19)]) 16 true,
 H 21 (.not (.t 20)) 16 true,
 J 22 (.pick (.t 16) (.t 21) (B false))] 11)
(.cond (.t 22)
(.seq
(F [J 4 (.mv (B false))] 1)
.ret)
.skip)))
(F [M 10 5,
 J 11 (.bin .mul (Z 2) (.t 10)),
 M 5 11] 3))))))
(.seq
(F [J 4 (.mv (B true))] 1)
.ret))))
def rv:List RV:=[.tmp 4]
theorem enter:En Try.prog 76 23 s rv:=En.mk (c:= Try.f76.body.getD .ret) Try.func76 rfl (by kernel_rfl) (by kernel_rfl) (by kernel_rfl) (by kernel_rfl)
end ref16_within
namespace dot_May
abbrev f:Nat:=77
def s:cG:=(.seq
(F [J 1 (.box 29 (.t 0)),
 J 2 (.mv (B false))] 2)
(.seq
(F [J 3 (.aK 0 (.t 1)),
 J 4 (.load none (.t 3)),
 J 5 (.bin .lss (.t 4) (.k (b8 8))),
 M 6 5,
 H 7 (.aK 1 (.t 1)) 6 true,
 H 8 (.load none (.t 7)) 6 true,
 H 9 (.bin .gtr (.t 8) (.k (aA 0))) 6 true,
 J 10 (.pick (.t 6) (.t 9) (B false)),
 M 2 10] 9)
.ret))
def rv:List RV:=[.tmp 2]
theorem enter:En Try.prog 77 11 s rv:=En.mk (c:= Try.f77.body.getD .ret) Try.func77 rfl (by kernel_rfl) (by kernel_rfl) (by kernel_rfl) (by kernel_rfl)
end dot_May
namespace slices_IndexFunc_Luint32_uint32
abbrev f:Nat:=78
def s:cG:=(.seq
(F [J 4 (.mv (Z 0))] 1)
(.seq
(.seq
(F [M 6 0,
 J 7 (.len (.t 6)),
 J 8 (.mv (Z 0))] 3)
(.block 0
(.loop
(.seq
(F [J 9 (.bin .lss (.t 8) (.t 7))] 1)
(.seq
(.cond (.t 9)
.skip
(.exit 0))
(.seq
(.block 1
(.seq
(F [M 10 8,
 M 5 10] 2)
(.seq
(F [M 11 1,
 M 12 0,
 M 13 5,
 J 14 (.bJ 1 (.t 12) (.t 13)),
 J 15 (.load none (.t 14)),
 J 16 (.call (.t 11) [(.t 15)])] 6)
(.cond (.t 16)
(.seq
(F [M 17 5,
 M 4 17] 2)
.ret)
.skip))))
(F [J 18 (.bin .add (.t 8) (Z 1)),
 M 8 18] 2)))))))
(.seq
(F [J 4 (.mv (.k (.d (.int .i64 (-1)))))] 1)
.ret)))
def rv:List RV:=[.tmp 4]
theorem enter:En Try.prog 78 19 s rv:=En.mk (c:= Try.f78.body.getD .ret) Try.func78 rfl (by kernel_rfl) (by kernel_rfl) (by kernel_rfl) (by kernel_rfl)
end slices_IndexFunc_Luint32_uint32
namespace cmp_Or_int
abbrev f:Nat:=89
def s:cG:=(.seq
(F [J 2 (.mv (Z 0))] 1)
(.seq
(F [J 3 (.mv (Z 0))] 1)
(.seq
(.seq
(F [M 6 0,
 J 7 (.len (.t 6)),
 J 8 (.mv (Z 0))] 3)
(.block 0
(.loop
(.seq
(F [J 9 (.bin .lss (.t 8) (.t 7))] 1)
(.seq
(.cond (.t 9)
.skip
(.exit 0))
(.seq
(.block 1
(.seq
(F [J 10 (.bJ 1 (.t 6) (.t 8)),
 J 11 (.load none (.t 10)),
 M 5 11] 3)
(.seq
(F [M 12 5,
 M 13 3,
 J 14 (.bin .neq (.t 12) (.t 13))] 3)
(.cond (.t 14)
(.seq
(F [M 15 5,
 M 2 15] 2)
.ret)
.skip))))
(F [J 16 (.bin .add (.t 8) (Z 1)),
 M 8 16] 2)))))))
(.seq
(F [M 17 3,
 M 2 17] 2)
.ret))))
def rv:List RV:=[.tmp 2]
theorem enter:En Try.prog 89 18 s rv:=En.mk (c:= Try.f89.body.getD .ret) Try.func89 rfl (by kernel_rfl) (by kernel_rfl) (by kernel_rfl) (by kernel_rfl)
end cmp_Or_int
namespace cmp_Compare_uint8
abbrev f:Nat:=90
def s:cG:=(.seq
(F [J 4 (.mv (Z 0))] 1)
(.seq
(F [M 7 0,
 J 8 (.call (C 98) [(.t 7)]),
 M 5 8] 3)
(.seq
(F [M 9 1,
 J 10 (.call (C 98) [(.t 9)]),
 M 6 10] 3)
(.seq
(.seq
(F [M 11 5] 1)
(.cond (.t 11)
(.seq
(.seq
(F [M 12 6] 1)
(.cond (.t 12)
(.seq
(F [J 4 (.mv (Z 0))] 1)
.ret)
.skip))
(.seq
(F [J 4 (.mv (.k (.d (.int .i64 (-1)))))] 1)
.ret))
.skip))
(.seq
(.seq
(F [M 13 6] 1)
(.cond (.t 13)
(.seq
(F [J 4 (.mv (Z 1))] 1)
.ret)
.skip))
(.seq
(.seq
(F [M 14 0,
 M 15 1,
 J 16 (.bin .lss (.t 14) (.t 15))] 3)
(.cond (.t 16)
(.seq
(F [J 4 (.mv (.k (.d (.int .i64 (-1)))))] 1)
.ret)
.skip))
(.seq
(.seq
(F [M 17 0,
 M 18 1,
 J 19 (.bin .gtr (.t 17) (.t 18))] 3)
(.cond (.t 19)
(.seq
(F [J 4 (.mv (Z 1))] 1)
.ret)
.skip))
(.seq
(F [J 4 (.mv (Z 0))] 1)
.ret))))))))
def rv:List RV:=[.tmp 4]
theorem enter:En Try.prog 90 20 s rv:=En.mk (c:= Try.f90.body.getD .ret) Try.func90 rfl (by kernel_rfl) (by kernel_rfl) (by kernel_rfl) (by kernel_rfl)
end cmp_Compare_uint8
namespace cmp_Compare_uint32
abbrev f:Nat:=91
def s:cG:=(.seq
(F [J 4 (.mv (Z 0))] 1)
(.seq
(F [M 7 0,
 J 8 (.call (C 99) [(.t 7)]),
 M 5 8] 3)
(.seq
(F [M 9 1,
 J 10 (.call (C 99) [(.t 9)]),
 M 6 10] 3)
(.seq
(.seq
(F [M 11 5] 1)
(.cond (.t 11)
(.seq
(.seq
(F [M 12 6] 1)
(.cond (.t 12)
(.seq
(F [J 4 (.mv (Z 0))] 1)
.ret)
.skip))
(.seq
(F [J 4 (.mv (.k (.d (.int .i64 (-1)))))] 1)
.ret))
.skip))
(.seq
(.seq
(F [M 13 6] 1)
(.cond (.t 13)
(.seq
(F [J 4 (.mv (Z 1))] 1)
.ret)
.skip))
(.seq
(.seq
(F [M 14 0,
 M 15 1,
 J 16 (.bin .lss (.t 14) (.t 15))] 3)
(.cond (.t 16)
(.seq
(F [J 4 (.mv (.k (.d (.int .i64 (-1)))))] 1)
.ret)
.skip))
(.seq
(.seq
(F [M 17 0,
 M 18 1,
 J 19 (.bin .gtr (.t 17) (.t 18))] 3)
(.cond (.t 19)
(.seq
(F [J 4 (.mv (Z 1))] 1)
.ret)
.skip))
(.seq
(F [J 4 (.mv (Z 0))] 1)
.ret))))))))
def rv:List RV:=[.tmp 4]
theorem enter:En Try.prog 91 20 s rv:=En.mk (c:= Try.f91.body.getD .ret) Try.func91 rfl (by kernel_rfl) (by kernel_rfl) (by kernel_rfl) (by kernel_rfl)
end cmp_Compare_uint32
namespace ref04_Covers
abbrev f:Nat:=92
def s:cG:=(.seq
(F [J 2 (.box 31 (.t 0)),
 J 3 (.box 29 (.t 1)),
 J 4 (.mv (B false))] 3)
(.seq
(.eN [J 5 (.load (some 2) (.t 3)),
 J 6 (.call (C 100) [(.t 5)]),
 M 7 6,
 H 8 (.aK 1 (.t 3)) 7 true,
 H 9 (.load none (.t 8)) 7 true,
 H 10 (.aK 0 (.t 3)) 7 true,
 H 11 (.load none (.t 10)) 7 true,
 H 12 (.Bx 8 1 (.t 2) (.t 11)) 7 true,
 H 13 (.load none (.t 12)) 7 true,
 H 14 (.bin .leq (.t 9) (.t 13)) 7 true,
 J 15 (.pick (.t 7) (.t 14) (B false)),
 M 4 15] [0,
1,
3,
7,
15,
7,
39,
103,
231,
511,
1023,
2047] true)
.ret))
def rv:List RV:=[.tmp 4]
theorem enter:En Try.prog 92 16 s rv:=En.mk (c:= Try.f92.body.getD .ret) Try.func92 rfl (by kernel_rfl) (by kernel_rfl) (by kernel_rfl) (by kernel_rfl)
end ref04_Covers
namespace cmp_isNaN_uint8
abbrev f:Nat:=98
def s:cG:=(.seq
(F [J 2 (.mv (B false))] 1)
(.seq
(F [M 3 0,
 M 4 0,
 J 5 (.bin .neq (.t 3) (.t 4)),
 M 2 5] 4)
.ret))
def rv:List RV:=[.tmp 2]
theorem enter:En Try.prog 98 6 s rv:=En.mk (c:= Try.f98.body.getD .ret) Try.func98 rfl (by kernel_rfl) (by kernel_rfl) (by kernel_rfl) (by kernel_rfl)
end cmp_isNaN_uint8
namespace cmp_isNaN_uint32
abbrev f:Nat:=99
def s:cG:=(.seq
(F [J 2 (.mv (B false))] 1)
(.seq
(F [M 3 0,
 M 4 0,
 J 5 (.bin .neq (.t 3) (.t 4)),
 M 2 5] 4)
.ret))
def rv:List RV:=[.tmp 2]
theorem enter:En Try.prog 99 6 s rv:=En.mk (c:= Try.f99.body.getD .ret) Try.func99 rfl (by kernel_rfl) (by kernel_rfl) (by kernel_rfl) (by kernel_rfl)
end cmp_isNaN_uint32
namespace ref03_May
abbrev f:Nat:=100
def s:cG:=(.seq
(F [J 1 (.box 29 (.t 0)),
 J 2 (.mv (B false))] 2)
(.seq
(F [J 3 (.aK 0 (.t 1)),
 J 4 (.load none (.t 3)),
 J 5 (.bin .leq (.t 4) (.k (b8 7))),
 M 6 5,
 H 7 (.aK 1 (.t 1)) 6 true,
 H 8 (.load none (.t 7)) 6 true,
 H 9 (.bin .geq (.t 8) (.k (aA 1))) 6 true,
 J 10 (.pick (.t 6) (.t 9) (B false)),
 M 2 10] 9)
.ret))
def rv:List RV:=[.tmp 2]
theorem enter:En Try.prog 100 11 s rv:=En.mk (c:= Try.f100.body.getD .ret) Try.func100 rfl (by kernel_rfl) (by kernel_rfl) (by kernel_rfl) (by kernel_rfl)
end ref03_May
end Go.Proofs.Ytefjaphfnkbbkaa
