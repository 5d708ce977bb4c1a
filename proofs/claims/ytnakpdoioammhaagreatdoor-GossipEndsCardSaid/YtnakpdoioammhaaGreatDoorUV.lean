/-
 The code of the functions in the small form, by program (gen.py); each is checked against the translation by the kernel.
-/
import Derived.Test.YtnakpdoioammhaaGreatDoorChecked
import Derived.Test.YtnakpdoioammhaaGreatDoorU7
set_option linter.unusedVariables false
set_option linter.unusedSimpArgs false
set_option linter.unusedSectionVars false
namespace Go.Proofs.YtnakpdoioammhaaGreatDoor
open Go.Sl Go.Sl.Co Go.Proofs
theorem mixed: Tryz.prog.follows .mixedOrders=true:=by kernel_rfl
abbrev Hq:Nat:=3
abbrev FF:Nat:=4
abbrev xS:Nat:=5
abbrev iZ:Nat:=22
abbrev i_:Nat:=23
abbrev A7:Nat:=32
abbrev nM:Nat:=34
abbrev s8:Nat:=47
abbrev mA:Nat:=49
abbrev cA:Nat:=51
abbrev gd:Nat:=97
abbrev iB:Nat:=130
namespace law14_GossipEnds
abbrev f:Nat:=3
def s:cr:=(.seq
(F [J 5 (.box 23 (.t 2)),
 J 6 (.mv (B false))] 2)
(.seq
(.seq
(F [M 22 0,
 J 23 (.call (C 4) [(.t 22)]),
 M 24 23,
 G 25 0 24 false,
 G 26 1 24 false,
 H 27 (.call (C 5) [(.t 25),(.t 26)]) 24 false,
 H 28 (.bin .neq (.t 27) (Z 0)) 24 false,
 J 29 (.pick (.t 24) (B true) (.t 28))] 8)
(.cond (.t 29)
(.seq
(F [J 30 (.call (C 6) []),
 M 6 30] 2)
.ret)
.skip))
(.seq
(F [M 31 0,
 J 32 (.call (C 7) [(.t 31)]),
 M 7 32] 3)
(.seq
(F [J 8 (.mv (Z 0))] 1)
(.seq
(.seq
(F [M 33 7,
 J 34 (.len (.t 33)),
 J 35 (.bin .gtr (.t 34) (Z 0))] 3)
(.cond (.t 35)
(F [J 36 (.kR 2 1 (.t 5) (Z 0)),
 J 37 (.load none (.t 36)),
 J 38 (.conv .i64 (.t 37)),
 M 39 7,
 J 40 (.len (.t 39)),
 J 41 (.bin .rem (.t 38) (.t 40)),
 M 8 41] 7)
.skip))
(.seq
(F [J 42 (.kR 2 1 (.t 5) (Z 1)),
 J 43 (.load none (.t 42)),
 J 44 (.conv .i64 (.t 43)),
 J 45 (.bin .rem (.t 44) (Z 64)),
 J 46 (.bin .add (Z 1) (.t 45)),
 M 9 46] 6)
(.seq
(.seq
(F [M 47 7,
 J 48 (.len (.t 47)),
 M 49 0,
 J 50 (.len (.t 49)),
 J 51 (.bin .neq (.t 48) (.t 50))] 5)
(.cond (.t 51)
(.seq
(F [J 6 (.mv (B false))] 1)
.ret)
.skip))
(.seq
(F [M 53 1,
 J 54 (.ec z8 []),
 J 55 (.call (C 8) [(.t 53),(.t 54)]),
 M 52 55,
 J 56 (.ext 0 (.t 52)),
 J 57 (.ext 1 (.t 52)),
 M 10 56,
 M 11 57] 8)
(.seq
(.seq
(F [M 58 11,
 J 59 (.bin .neq (.t 58) (Z 0)),
 M 60 59,
 G 61 10 60 false,
 H 62 (.me false 0 (.t 61)) 60 false,
 J 63 (.pick (.t 60) (B true) (.t 62))] 6)
(.cond (.t 63)
(.seq
(F [J 6 (.mv (B false))] 1)
.ret)
.skip))
(.seq
(F [M 65 10,
 M 66 7,
 M 67 8,
 J 68 (.slc 29 (.t 66) none (some (.t 67))),
 J 69 (.call (C 9) [(.t 65),(.t 68)]),
 M 64 69,
 J 70 (.ext 0 (.t 64)),
 J 71 (.ext 1 (.t 64)),
 M 12 70,
 M 13 71] 10)
(.seq
(.seq
(F [M 72 13,
 J 73 (.bin .neq (.t 72) (Z 0)),
 M 74 73,
 G 75 12 74 false,
 H 76 (.len (.t 75)) 74 false,
 G 77 8 74 false,
 H 78 (.bin .neq (.t 76) (.t 77)) 74 false,
 J 79 (.pick (.t 74) (B true) (.t 78))] 8)
(.cond (.t 79)
(.seq
(F [J 6 (.mv (B false))] 1)
.ret)
.skip))
(.seq
(F [M 80 0,
 J 81 (.len (.t 80)),
 M 82 8,
 J 83 (.bin .sub (.t 81) (.t 82)),
 M 84 9,
 J 85 (.call (C 10) [(.t 83),(.t 84)]),
 M 14 85] 7)
(.seq
(.seq
(F [J 15 (.mv (Z 0))] 1)
(.block 0
(.loop
(.seq
(.seq
(F [M 86 15,
 M 87 14,
 J 88 (.bin .lss (.t 86) (.t 87))] 3)
(.cond (.t 88)
.skip
(.exit 0)))
(.seq
(.block 1
(.seq
(F [M 92 0,
 M 93 10,
 J 94 (.call (C 12) [(.t 93)]),
 M 95 9,
 J 96 (.call (C 11) [(.k (b8 0)),(.k (b8 1)),(.t 92),(.t 94),(.t 95)]),
 M 91 96,
 J 97 (.ext 0 (.t 91)),
 J 98 (.ext 1 (.t 91)),
 J 16 (.alloc 39 [b8 0,b8 0,b8 0,aJ 0,aJ 0,aJ 0,aJ 0,aJ 0,aJ 0,aJ 0,aJ 0,(.d .aY)]),
 N (.store 12 (.t 16) (.t 97)),
 M 17 98] 11)
(.seq
(.seq
(F [M 99 17,
 J 100 (.bin .neq (.t 99) (Z 0))] 2)
(.cond (.t 100)
(.seq
(F [J 6 (.mv (B false))] 1)
.ret)
.skip))
(.seq
(F [M 102 10,
 J 103 (.bp 11 (.t 16)),
 J 104 (.load none (.t 103)),
 J 105 (.call (C 9) [(.t 102),(.t 104)]),
 M 101 105,
 J 106 (.ext 0 (.t 101)),
 J 107 (.ext 1 (.t 101)),
 M 18 106,
 M 19 107] 9)
(.seq
(.seq
(F (M 108 19::
 J 109 (.bin .neq (.t 108) (Z 0))::
 M 110 109::
 G 111 18 110 false::
 H 112 (.bp 11 (.t 16)) 110 false::
 H 113 (.load none (.t 112)) 110 false::
 H 114 (.call (C 13) [(.t 111),(.t 113)]) 110 false::
 H 115 (.not (.t 114)) 110 false::
 J 116 (.pick (.t 110) (B true) (.t 115))::
 M 117 116::
 G 118 18 117 false::
 H 119 (.len (.t 118)) 117 false::
 G 120 9 117 false::
 G 121 0 117 false::
 H 122 (.len (.t 121)) 117 false::
 G 123 8 117 false::
 H 124 (.bin .sub (.t 122) (.t 123)) 117 false::
 H 125 (.mn (.t 120) (.t 124)) 117 false::
 H 126 (.bin .neq (.t 119) (.t 125)) 117 false::
 J 127 (.pick (.t 117) (B true) (.t 126))::[]) 20)
(.cond (.t 127)
(.seq
(F [J 6 (.mv (B false))] 1)
.ret)
.skip))
(F [M 128 8,
 M 129 18,
 J 130 (.len (.t 129)),
 J 131 (.bin .add (.t 128) (.t 130)),
 M 8 131] 5))))))
(F [M 89 15,
 J 90 (.bin .add (.t 89) (Z 1)),
 M 15 90] 3))))))
(.seq
(F [M 133 0,
 M 134 10,
 J 135 (.call (C 12) [(.t 134)]),
 M 136 9,
 J 137 (.call (C 11) [(.k (b8 0)),(.k (b8 1)),(.t 133),(.t 135),(.t 136)]),
 M 132 137,
 J 138 (.ext 0 (.t 132)),
 J 139 (.ext 1 (.t 132)),
 J 20 (.alloc 39 [b8 0,b8 0,b8 0,aJ 0,aJ 0,aJ 0,aJ 0,aJ 0,aJ 0,aJ 0,aJ 0,(.d .aY)]),
 N (.store 12 (.t 20) (.t 138)),
 M 21 139] 11)
(.seq
(F (M 140 21::
 J 141 (.bin .eql (.t 140) (Z 0))::
 M 142 141::
 H 143 (.bp 11 (.t 20)) 142 true::
 H 144 (.load none (.t 143)) 142 true::
 H 145 (.len (.t 144)) 142 true::
 H 146 (.bin .eql (.t 145) (Z 0)) 142 true::
 J 147 (.pick (.t 142) (.t 146) (B false))::
 M 148 147::
 G 149 8 148 true::
 G 150 0 148 true::
 H 151 (.len (.t 150)) 148 true::
 H 152 (.bin .eql (.t 149) (.t 151)) 148 true::
 J 153 (.pick (.t 148) (.t 152) (B false))::
 M 154 153::
 G 155 10 154 true::
 H 156 (.call (C 12) [(.t 155)]) 154 true::
 G 157 0 154 true::
 H 158 (.call (C 14) [(.t 157)]) 154 true::
 H 159 (.eqv false [true,true,true,true,true,true,true,true] (.t 156) (.t 158)) 154 true::
 J 160 (.pick (.t 154) (.t 159) (B false))::
 M 161 160::
 H 162 (.call (C 6) []) 161 true::
 J 163 (.pick (.t 161) (.t 162) (B false))::
 M 6 163::[]) 25)
.ret)))))))))))))))
def rv:List RV:=[.tmp 6]
theorem enter:En Tryz.prog 3 164 s rv:=En.mk (c:= Tryz.f3.body.getD .ret) Tryz.func3 rfl (by kernel_rfl) (by kernel_rfl) (by kernel_rfl) (by kernel_rfl)
end law14_GossipEnds
namespace law14_great
abbrev f:Nat:=4
def s:cr:=(.seq
(F [J 2 (.mv (B false))] 1)
(.seq
(F [J 3 (.mv (Z 0))] 1)
(.seq
(.seq
(F [J 4 (.mv (Z 0))] 1)
(.block 0
(.loop
(.seq
(.seq
(F [M 5 4,
 M 6 0,
 J 7 (.len (.t 6)),
 J 8 (.bin .lss (.t 5) (.t 7))] 4)
(.cond (.t 8)
.skip
(.exit 0)))
(.seq
(.block 1
(F [M 11 3,
 M 12 0,
 M 13 4,
 J 14 (.aW 29 (.t 12) (.t 13)),
 J 15 (.bp 28 (.t 14)),
 J 16 (.load none (.t 15)),
 J 17 (.len (.t 16)),
 J 18 (.bin .add (.t 11) (.t 17)),
 M 3 18] 9))
(F [M 9 4,
 J 10 (.bin .add (.t 9) (Z 1)),
 M 4 10] 3))))))
(.seq
(F [M 19 0,
 J 20 (.len (.t 19)),
 J 21 (.bin .gtr (.t 20) (Z 120)),
 M 22 21,
 G 23 3 22 false,
 H 24 (.bin .gtr (.t 23) (Z 300)) 22 false,
 J 25 (.pick (.t 22) (B true) (.t 24)),
 M 2 25] 8)
.ret))))
def rv:List RV:=[.tmp 2]
theorem enter:En Tryz.prog 4 26 s rv:=En.mk (c:= Tryz.f4.body.getD .ret) Tryz.func4 rfl (by kernel_rfl) (by kernel_rfl) (by kernel_rfl) (by kernel_rfl)
end law14_great
namespace order_History
abbrev f:Nat:=5
def s:cr:=(.seq
(F [J 4 (.mv (Z 0))] 1)
(.seq
(.seq
(F [M 11 1,
 J 12 (.bin .lss (.t 11) (Z 1)),
 M 13 12,
 G 14 1 13 false,
 H 15 (.bin .gtr (.t 14) (Z 8)) 13 false,
 J 16 (.pick (.t 13) (B true) (.t 15))] 6)
(.cond (.t 16)
(.seq
(F [J 4 (.mv (Z 2))] 1)
.ret)
.skip))
(.seq
(.seq
(F [M 17 0,
 J 18 (.len (.t 17)),
 J 19 (.mv (Z 0))] 3)
(.block 0
(.loop
(.seq
(F [J 20 (.bin .lss (.t 19) (.t 18))] 1)
(.seq
(.cond (.t 20)
.skip
(.exit 0))
(.seq
(.block 1
(.seq
(F [J 21 (.aW 29 (.t 17) (.t 19)),
 J 22 (.load (some 29) (.t 21)),
 J 6 (.alloc 51 cn),
 N (.store 29 (.t 6) (.t 22))] 4)
(.seq
(F [J 23 (.load (some 29) (.t 6)),
 M 24 1,
 J 25 (.call (C 15) [(.t 23),(.t 24)]),
 J 26 (.bin .neq (.t 25) (Z 0))] 4)
(.cond (.t 26)
(.seq
(F [J 4 (.mv (Z 5))] 1)
.ret)
.skip))))
(F [J 27 (.bin .add (.t 19) (Z 1)),
 M 19 27] 2)))))))
(.seq
(F [M 28 0,
 J 29 (.call (C 16) [(.t 28)]),
 M 30 0,
 J 31 (.call (C 14) [(.t 30)]),
 J 7 (.alloc 55 [(.d .aY),(.d .ir)]),
 J 8 (.alloc 34 z8),
 N (.store 2 (.t 7) (.t 29)),
 N (.store 8 (.t 8) (.t 31))] 8)
(.seq
(.seq
(F [J 32 (.bp 1 (.t 7)),
 J 33 (.load none (.t 32)),
 J 34 (.yu (.t 33)),
 M 35 0,
 J 36 (.len (.t 35)),
 J 37 (.bin .neq (.t 34) (.t 36)),
 M 38 37,
 H 39 (.load (some 8) (.t 8)) 38 false,
 H 40 (.call (C 17) [(.t 39)]) 38 false,
 G 41 0 38 false,
 H 42 (.len (.t 41)) 38 false,
 H 43 (.conv .u64 (.t 42)) 38 false,
 H 44 (.bin .neq (.t 40) (.t 43)) 38 false,
 J 45 (.pick (.t 38) (B true) (.t 44))] 14)
(.cond (.t 45)
(.seq
(F [J 4 (.mv (Z 9))] 1)
.ret)
.skip))
(.seq
(.seq
(F [M 46 0,
 J 47 (.len (.t 46)),
 J 48 (.mv (Z 0))] 3)
(.block 2
(.loop
(.seq
(F [J 49 (.bin .lss (.t 48) (.t 47))] 1)
(.seq
(.cond (.t 49)
.skip
(.exit 2))
(.seq
(.block 3
(.seq
(F [J 50 (.aW 29 (.t 46) (.t 48)),
 J 51 (.load (some 29) (.t 50)),
 J 10 (.alloc 51 cn),
 N (.store 29 (.t 10) (.t 51))] 4)
(.seq
(F [J 52 (.load (some 2) (.t 7)),
 J 53 (.load (some 29) (.t 10)),
 J 54 (.load (some 8) (.t 8)),
 J 55 (.call (C 18) [(.t 52),(.t 53),(.t 54)]),
 J 56 (.not (.t 55))] 5)
(.cond (.t 56)
(.seq
(F [J 4 (.mv (Z 9))] 1)
.ret)
.skip))))
(F [J 57 (.bin .add (.t 48) (Z 1)),
 M 48 57] 2)))))))
(.seq
(F [J 4 (.mv (Z 0))] 1)
.ret)))))))
def rv:List RV:=[.tmp 4]
theorem enter:En Tryz.prog 5 58 s rv:=En.mk (c:= Tryz.f5.body.getD .ret) Tryz.func5 rfl (by kernel_rfl) (by kernel_rfl) (by kernel_rfl) (by kernel_rfl)
end order_History
namespace law14_head
abbrev f:Nat:=6
def s:cr:=(.seq
(F [J 0 (.mv (B false))] 1)
(.seq
(F [J 8 (.call (C 19) []),
 M 1 8] 2)
(.seq
(F [M 10 1,
 J 11 (.ec z8 []),
 J 12 (.call (C 11) [(.k (b8 0)),(.k (b8 1)),(.t 10),(.t 11),(Z 2)]),
 M 9 12,
 J 13 (.ext 0 (.t 9)),
 J 14 (.ext 1 (.t 9)),
 J 2 (.alloc 39 [b8 0,b8 0,b8 0,aJ 0,aJ 0,aJ 0,aJ 0,aJ 0,aJ 0,aJ 0,aJ 0,(.d .aY)]),
 N (.store 12 (.t 2) (.t 13)),
 M 3 14] 9)
(.seq
(F [M 16 1,
 J 17 (.ec z8 []),
 J 18 (.call (C 11) [(.k (b8 0)),(.k (b8 0)),(.t 16),(.t 17),(Z 2)]),
 M 15 18,
 J 19 (.ext 0 (.t 15)),
 J 20 (.ext 1 (.t 15)),
 J 4 (.alloc 39 [b8 0,b8 0,b8 0,aJ 0,aJ 0,aJ 0,aJ 0,aJ 0,aJ 0,aJ 0,aJ 0,(.d .aY)]),
 N (.store 12 (.t 4) (.t 19)),
 M 5 20] 9)
(.seq
(F [M 22 1,
 J 23 (.ec z8 []),
 J 24 (.call (C 11) [(.k (b8 0)),(.k (b8 1)),(.t 22),(.t 23),(Z 65)]),
 M 21 24,
 J 25 (.ext 0 (.t 21)),
 J 26 (.ext 1 (.t 21)),
 J 6 (.alloc 39 [b8 0,b8 0,b8 0,aJ 0,aJ 0,aJ 0,aJ 0,aJ 0,aJ 0,aJ 0,aJ 0,(.d .aY)]),
 N (.store 12 (.t 6) (.t 25)),
 M 7 26] 9)
(.seq
(.c7 (M 27 1::
 J 28 (.ec z8 [(0,1,(.k (aJ 1)))])::
 J 29 (.call (C 20) [(.t 27),(.t 28)])::
 M 30 1::
 J 31 (.aW 29 (.t 30) (Z 2))::
 J 32 (.load (some 29) (.t 31))::
 M 33 1::
 J 34 (.aW 29 (.t 33) (Z 0))::
 J 35 (.load (some 29) (.t 34))::
 J 36 (.nV 51 29 2 [b8 0,aJ 0,aJ 0,aJ 0,aJ 0,aJ 0,aJ 0,aJ 0,aJ 0,aJ 0,b_ 0,aJ 0,b8 0,aJ 0,b8 0,b8 0,aJ 0,aJ 0,b8 0,b8 0,b_ 0,b8 0,aJ 0,b8 0,aJ 0,aJ 0,aJ 0,aJ 0,(.d .aY),b8 0,aJ 0,aJ 0,aJ 0,aJ 0,aJ 0,aJ 0,aJ 0,aJ 0,aJ 0,b_ 0,aJ 0,b8 0,aJ 0,b8 0,b8 0,aJ 0,aJ 0,b8 0,b8 0,b_ 0,b8 0,aJ 0,b8 0,aJ 0,aJ 0,aJ 0,aJ 0,(.d .aY)] [(0,29,(.t 32)),(29,29,(.t 35))])::
 J 37 (.call (C 13) [(.t 29),(.t 36)])::
 M 38 37::
 G 39 1 38 true::
 H 40 (.ec z8 [(0,1,(.k (aJ 2))),(1,1,(.k (aJ 1)))]) 38 true::
 H 41 (.call (C 20) [(.t 39),(.t 40)]) 38 true::
 H 42 (.len (.t 41)) 38 true::
 H 43 (.bin .eql (.t 42) (Z 0)) 38 true::
 J 44 (.pick (.t 38) (.t 43) (B false))::
 M 45 44::
 G 46 3 45 true::
 H 47 (.bin .eql (.t 46) (Z 0)) 45 true::
 J 48 (.pick (.t 45) (.t 47) (B false))::
 M 49 48::
 H 50 (.load (some 12) (.t 2)) 49 true::
 H 51 (.ec z8 [(0,1,(.k (aJ 2))),(1,1,(.k (aJ 1)))]) 49 true::
 G 52 1 49 true::
 H 53 (.slc 29 (.t 52) (some (Z 1)) none) 49 true::
 H 54 (.ec [b8 0,b8 0,b8 0,aJ 0,aJ 0,aJ 0,aJ 0,aJ 0,aJ 0,aJ 0,aJ 0,(.d .aY)] [(0,1,(.k (b8 1))),(2,1,(.k (b8 1))),(3,8,(.t 51)),(11,1,(.t 53))]) 49 true::
 H 55 (.call (C 21) [(.t 50),(.t 54)]) 49 true::
 J 56 (.pick (.t 49) (.t 55) (B false))::
 M 57 56::
 G 58 5 57 true::
 H 59 (.bin .eql (.t 58) (Z 2)) 57 true::
 J 60 (.pick (.t 57) (.t 59) (B false))::
 M 61 60::
 G 62 7 61 true::
 H 63 (.bin .eql (.t 62) (Z 2)) 61 true::
 J 64 (.pick (.t 61) (.t 63) (B false))::
 M 65 64::
 H 66 (.call (C 10) [(Z 5),(Z 2)]) 65 true::
 H 67 (.bin .eql (.t 66) (Z 3)) 65 true::
 J 68 (.pick (.t 65) (.t 67) (B false))::
 M 69 68::
 H 70 (.call (C 10) [(Z 4),(Z 2)]) 69 true::
 H 71 (.bin .eql (.t 70) (Z 2)) 69 true::
 J 72 (.pick (.t 69) (.t 71) (B false))::
 M 73 72::
 H 74 (.call (C 10) [(.k (.d (.int .i64 (-1)))),(Z 2)]) 73 true::
 H 75 (.bin .eql (.t 74) (Z 0)) 73 true::
 J 76 (.pick (.t 73) (.t 75) (B false))::
 M 77 76::
 H 78 (.call (C 10) [(Z 3),(Z 0)]) 77 true::
 H 79 (.bin .eql (.t 78) (Z 3)) 77 true::
 J 80 (.pick (.t 77) (.t 79) (B false))::
 M 0 80::[]) (0::
0::
3::
0::
8::
24::
0::
64::
192::
504::
1023::
2047::
4095::
4095::
16383::
32767::
65535::
131071::
262143::
524287::
1048575::
2097151::
4194303::
8388607::
8388607::
8388607::
41943039::
125829119::
268435455::
536870911::
1073741823::
2147483647::
4294967295::
8589934591::
17179869183::
34359738367::
68719476735::
137438953471::
274877906943::
549755813887::
1099511627775::
2199023255551::
4398046511103::
8796093022207::
17592186044415::
35184372088831::
70368744177663::
140737488355327::
281474976710655::
562949953421311::
1125899906842623::
2251799813685247::
4503599627370495::
9007199254740991::
18014398509481983::[]) true)
.ret))))))
def rv:List RV:=[.tmp 0]
theorem enter:En Tryz.prog 6 81 s rv:=En.mk (c:= Tryz.f6.body.getD .ret) Tryz.func6 rfl (by kernel_rfl) (by kernel_rfl) (by kernel_rfl) (by kernel_rfl)
end law14_head
namespace order_Sort
abbrev f:Nat:=7
def s:cr:=(.seq
(F [J 2 (.mv (.k (.d .aY)))] 1)
(.seq
(F [M 7 0,
 J 8 (.call (C 16) [(.t 7)]),
 J 3 (.alloc 55 [(.d .aY),(.d .ir)]),
 N (.store 2 (.t 3) (.t 8))] 4)
(.seq
(F [J 4 (.mv (.k (.d .aY)))] 1)
(.seq
(.seq
(.c7 [J 9 (.load (some 2) (.t 3)),
 J 10 (.call (C 23) [(.t 9)]),
 J 11 (.load (some 2) (.t 3)),
 J 12 (.yt (.func 24) [(.t 11)] []),
 J 13 (.call (C 22) [(.t 10),(.t 12)]),
 J 14 (.len (.t 13)),
 J 15 (.mv (Z 0))] [0,
1,
0,
4,
15,
31,
0] true)
(.block 0
(.loop
(.seq
(F [J 16 (.bin .lss (.t 15) (.t 14))] 1)
(.seq
(.cond (.t 16)
.skip
(.exit 0))
(.seq
(.block 1
(.seq
(F [J 17 (.aW 1 (.t 13) (.t 15)),
 J 18 (.load none (.t 17)),
 M 6 18] 3)
(F [M 19 4,
 M 20 0,
 M 21 6,
 J 22 (.aW 29 (.t 20) (.t 21)),
 J 23 (.load (some 29) (.t 22)),
 J 24 (.nV 51 29 1 cn [(0,29,(.t 23))]),
 J 25 (.app 51 29 144 (.t 19) (.t 24)),
 M 4 25] 8)))
(F [J 26 (.bin .add (.t 15) (Z 1)),
 M 15 26] 2)))))))
(.seq
(F [M 27 4,
 M 2 27] 2)
.ret)))))
def rv:List RV:=[.tmp 2]
theorem enter:En Tryz.prog 7 28 s rv:=En.mk (c:= Tryz.f7.body.getD .ret) Tryz.func7 rfl (by kernel_rfl) (by kernel_rfl) (by kernel_rfl) (by kernel_rfl)
end order_Sort
namespace buffer_New
abbrev f:Nat:=8
def s:cr:=(.seq
(F [J 3 (.box 34 (.t 1)),
 J 4 (.mv (.k (.d .uo))),
 J 5 (.mv (Z 0))] 3)
(.seq
(.seq
(F [M 6 0,
 J 7 (.bin .lss (.t 6) (Z 1)),
 M 8 7,
 G 9 0 8 false,
 H 10 (.bin .gtr (.t 9) (Z 8)) 8 false,
 J 11 (.pick (.t 8) (B true) (.t 10)),
 M 12 11,
 G 13 0 12 false,
 H 14 (.yq 8 1 (.t 3) (some (.t 13)) none) 12 false,
 H 15 (.call (C 25) [(.t 14),(C 26)]) 12 false,
 J 16 (.pick (.t 12) (B true) (.t 15))] 11)
(.cond (.t 16)
(.seq
(F [J 4 (.mv (.k (.d .uo))),
 J 5 (.mv (Z 2))] 2)
.ret)
.skip))
(.seq
(F [M 17 0,
 J 18 (.load (some 8) (.t 3)),
 J 19 (.ED),
 J 20 (.ec [i6 0,aJ 0,aJ 0,aJ 0,aJ 0,aJ 0,aJ 0,aJ 0,aJ 0,(.d .ir)] [(0,1,(.t 17)),(1,8,(.t 18)),(9,1,(.t 19))]),
 J 21 (.box 72 (.t 20)),
 M 4 21,
 J 5 (.mv (Z 0))] 7)
.ret)))
def rv:List RV:=[.tmp 4,.tmp 5]
theorem enter:En Tryz.prog 8 22 s rv:=En.mk (c:= Tryz.f8.body.getD .ret) Tryz.func8 rfl (by kernel_rfl) (by kernel_rfl) (by kernel_rfl) (by kernel_rfl)
end buffer_New
namespace buffer_Buffer_Put
abbrev f:Nat:=9
def s:cr:=(.seq
(F [J 2 (.box 29 (.t 0)),
 J 4 (.mv (.k (.d .aY))),
 J 5 (.mv (Z 0))] 3)
(.seq
(.block 0
(.seq
(F [J 15 (.load none (.t 2)),
 J 16 (.call (C 27) [(.t 15)]),
 M 14 16] 3)
(.cond (.t 14)
(.seq
(F [J 4 (.mv (.k (.d .aY))),
 J 5 (.mv (Z 1))] 2)
.ret)
(.seq
(F [M 18 1,
 J 19 (.yt (.func 29) [] [(.t 2)]),
 J 20 (.call (C 28) [(.t 18),(.t 19)]),
 M 17 20] 4)
(.cond (.t 17)
(.seq
(F [J 4 (.mv (.k (.d .aY))),
 J 5 (.mv (Z 5))] 2)
.ret)
.skip)))))
(.seq
(.seq
(F [M 21 1,
 J 22 (.len (.t 21)),
 J 23 (.mv (Z 0))] 3)
(.block 1
(.loop
(.seq
(F [J 24 (.bin .lss (.t 23) (.t 22))] 1)
(.seq
(.cond (.t 24)
.skip
(.exit 1))
(.seq
(.block 2
(.seq
(F [J 25 (.aW 29 (.t 21) (.t 23)),
 J 26 (.load (some 29) (.t 25)),
 J 7 (.alloc 51 cn),
 N (.store 29 (.t 7) (.t 26))] 4)
(.seq
(.c7 [J 28 (.load none (.t 2)),
 J 29 (.gR (.t 28)),
 J 30 (.bp 9 (.t 29)),
 J 31 (.load none (.t 30)),
 J 32 (.bp 0 (.t 7)),
 J 33 (.load (some 2) (.t 32)),
 J 34 (.look [true,true] true (.agg cn) (.t 31) (.t 33) true),
 M 27 34,
 J 35 (.ext 0 (.t 27)),
 J 36 (.ext 1 (.t 27)),
 J 8 (.alloc 51 cn),
 N (.store 29 (.t 8) (.t 35)),
 M 9 36] [0,
1,
3,
7,
0,
16,
63,
127,
255,
255,
0,
1535,
4095] true)
(.seq
(.c7 [M 37 9,
 J 38 (.not (.t 37)),
 M 39 38,
 H 40 (.load none (.t 2)) 39 true,
 H 41 (.gR (.t 40)) 39 true,
 H 42 (.bp 1 (.t 41)) 39 true,
 H 43 (.load (some 8) (.t 42)) 39 true,
 H 44 (.bp 0 (.t 7)) 39 true,
 H 45 (.load (some 2) (.t 44)) 39 true,
 H 46 (.call (C 30) [(.t 43),(.t 45)]) 39 true,
 H 47 (.not (.t 46)) 39 true,
 J 48 (.pick (.t 39) (.t 47) (B false))] [0,
1,
3,
7,
15,
31,
63,
7,
135,
511,
1023,
2047] true)
(.cond (.t 48)
(.c7 [J 49 (.load none (.t 2)),
 J 50 (.gR (.t 49)),
 J 51 (.bp 9 (.t 50)),
 J 52 (.load none (.t 51)),
 J 53 (.bp 0 (.t 7)),
 J 54 (.load (some 2) (.t 53)),
 J 55 (.load (some 29) (.t 7)),
 J 56 (.call (C 31) [(.t 55)]),
 N (.ur [true,true] true (.t 52) (.t 54) (.t 56))] [0,
1,
3,
7,
0,
16,
0,
64,
255] true)
.skip)))))
(F [J 57 (.bin .add (.t 23) (Z 1)),
 M 23 57] 2)))))))
(.seq
(F [J 58 (.yt (.func 32) [] [(.t 2)]),
 M 10 58] 2)
(.seq
(F [J 11 (.mv (.k (.d .aY)))] 1)
(.seq
(.seq
(F [M 60 10,
 J 61 (.call (.t 60) []),
 M 59 61,
 J 62 (.ext 0 (.t 59)),
 J 63 (.ext 1 (.t 59)),
 J 12 (.alloc 51 cn),
 N (.store 29 (.t 12) (.t 62)),
 M 13 63] 8)
(.block 3
(.loop
(.seq
(.seq
(F [M 64 13] 1)
(.cond (.t 64)
.skip
(.exit 3)))
(.seq
(.block 4
(.seq
(.c7 [J 70 (.load none (.t 2)),
 J 71 (.gR (.t 70)),
 J 72 (.bp 9 (.t 71)),
 J 73 (.load none (.t 72)),
 J 74 (.bp 0 (.t 12)),
 J 75 (.load (some 2) (.t 74)),
 N (.z_ [true,true] true (.t 73) (.t 75))] [0,
1,
3,
7,
0,
16,
63] true)
(.seq
(.c7 [J 76 (.load none (.t 2)),
 J 77 (.bp 0 (.t 12)),
 J 78 (.bp 0 (.t 77)),
 J 79 (.load none (.t 78)),
 J 80 (.bp 0 (.t 12)),
 J 81 (.bp 1 (.t 80)),
 J 82 (.load none (.t 81)),
 J 83 (.gR (.t 76)),
 J 84 (.bp 1 (.t 83)),
 J 85 (.kR 8 1 (.t 84) (.t 79)),
 N (.store 1 (.t 85) (.t 82))] [0,
0,
2,
6,
0,
16,
48,
1,
129,
511,
1023] true)
(F [M 86 11,
 J 87 (.load (some 29) (.t 12)),
 J 88 (.nV 51 29 1 cn [(0,29,(.t 87))]),
 J 89 (.app 51 29 144 (.t 86) (.t 88)),
 M 11 89] 5))))
(.seq
(.seq
(F [J 90 (.load (some 29) (.t 12))] 1)
(F [J 12 (.alloc 51 cn),
 N (.store 29 (.t 12) (.t 90))] 2))
(F [M 66 10,
 J 67 (.call (.t 66) []),
 M 65 67,
 J 68 (.ext 0 (.t 65)),
 J 69 (.ext 1 (.t 65)),
 N (.store 29 (.t 12) (.t 68)),
 M 13 69] 7)))))))
(.seq
(F [M 91 11,
 M 4 91,
 J 5 (.mv (Z 0))] 3)
.ret)))))))
def rv:List RV:=[.tmp 4,.tmp 5]
theorem enter:En Tryz.prog 9 92 s rv:=En.mk (c:= Tryz.f9.body.getD .ret) Tryz.func9 rfl (by kernel_rfl) (by kernel_rfl) (by kernel_rfl) (by kernel_rfl)
end buffer_Buffer_Put
namespace gossip_Rounds
abbrev f:Nat:=10
def s:cr:=(.seq
(F [J 4 (.mv (Z 0))] 1)
(.seq
(.block 0
(.seq
(F [M 6 0,
 J 7 (.bin .leq (.t 6) (Z 0)),
 M 5 7] 3)
(.cond (.t 5)
(.seq
(F [J 4 (.mv (Z 0))] 1)
.ret)
(.seq
(F [M 9 1,
 J 10 (.bin .leq (.t 9) (Z 0)),
 M 8 10] 3)
(.cond (.t 8)
(.seq
(F [M 11 0,
 M 4 11] 2)
.ret)
.skip)))))
(.seq
(F [M 12 0,
 J 13 (.bin .sub (.t 12) (Z 1)),
 M 14 1,
 J 15 (.bin .quo (.t 13) (.t 14)),
 J 16 (.bin .add (.t 15) (Z 1)),
 M 4 16] 6)
.ret)))
def rv:List RV:=[.tmp 4]
theorem enter:En Tryz.prog 10 17 s rv:=En.mk (c:= Tryz.f10.body.getD .ret) Tryz.func10 rfl (by kernel_rfl) (by kernel_rfl) (by kernel_rfl) (by kernel_rfl)
end gossip_Rounds
namespace gossip_Delta
abbrev f:Nat:=11
def s:cr:=(.seq
(F [J 8 (.box 34 (.t 3)),
 J 9 (.box 3 (.t 4)),
 J 10 (.alloc 39 [b8 0,b8 0,b8 0,aJ 0,aJ 0,aJ 0,aJ 0,aJ 0,aJ 0,aJ 0,aJ 0,(.d .aY)]),
 J 11 (.mv (Z 0))] 4)
(.seq
(F [M 16 0,
 M 17 1,
 M 18 2,
 J 19 (.call (C 14) [(.t 18)]),
 J 20 (.ec [b8 0,b8 0,b8 0,aJ 0,aJ 0,aJ 0,aJ 0,aJ 0,aJ 0,aJ 0,aJ 0,(.d .aY)] [(0,1,(.k (b8 1))),(1,1,(.t 16)),(2,1,(.t 17)),(3,8,(.t 19))]),
 J 21 (.call (C 36) [(.t 20),(Z 2)]),
 M 15 21,
 J 22 (.ext 0 (.t 15)),
 J 23 (.ext 1 (.t 15)),
 J 12 (.alloc 39 [b8 0,b8 0,b8 0,aJ 0,aJ 0,aJ 0,aJ 0,aJ 0,aJ 0,aJ 0,aJ 0,(.d .aY)]),
 N (.store 12 (.t 12) (.t 22)),
 M 13 23] 12)
(.seq
(.block 0
(.seq
(F [M 25 13,
 J 26 (.bin .neq (.t 25) (Z 0)),
 M 24 26] 3)
(.cond (.t 24)
(.seq
(F [J 27 (.load (some 12) (.t 12)),
 M 28 13,
 N (.store 12 (.t 10) (.t 27)),
 M 11 28] 4)
.ret)
(.seq
(F [J 30 (.load none (.t 9)),
 J 31 (.bin .lss (.t 30) (Z 1)),
 M 32 31,
 H 33 (.load none (.t 9)) 32 false,
 H 34 (.bin .gtr (.t 33) (Z 64)) 32 false,
 J 35 (.pick (.t 32) (B true) (.t 34)),
 M 29 35] 7)
(.cond (.t 29)
(.seq
(F [J 36 (.ec [b8 0,b8 0,b8 0,aJ 0,aJ 0,aJ 0,aJ 0,aJ 0,aJ 0,aJ 0,aJ 0,(.d .aY)] []),
 N (.store 12 (.t 10) (.t 36)),
 J 11 (.mv (Z 2))] 3)
.ret)
.skip)))))
(.seq
(.seq
(F [M 37 2,
 J 38 (.load (some 8) (.t 8)),
 J 39 (.call (C 37) [(.t 37),(.t 38)])] 3)
(.block 1
(.qn (.t 39) [40]
(F [J 14 (.alloc 51 cn),
 N (.store 29 (.t 14) (.t 40))] 2)
(.block 2
(.seq
(.seq
(F [J 41 (.bp 11 (.t 12)),
 J 42 (.load none (.t 41)),
 J 43 (.len (.t 42)),
 J 44 (.load none (.t 9)),
 J 45 (.bin .eql (.t 43) (.t 44))] 5)
(.cond (.t 45)
(.exit 1)
.skip))
(F [J 46 (.bp 11 (.t 12)),
 J 47 (.load none (.t 46)),
 J 48 (.load (some 29) (.t 14)),
 J 49 (.nV 51 29 1 cn [(0,29,(.t 48))]),
 J 50 (.app 51 29 144 (.t 47) (.t 49)),
 J 51 (.bp 11 (.t 12)),
 N (.store 1 (.t 51) (.t 50))] 7))))))
(.seq
(F [J 52 (.load (some 12) (.t 12)),
 J 53 (.call (C 36) [(.t 52),(Z 3)]),
 J 54 (.ext 0 (.t 53)),
 J 55 (.ext 1 (.t 53)),
 N (.store 12 (.t 10) (.t 54)),
 M 11 55] 6)
.ret)))))
def rv:List RV:=[.cell 10 (some 12),.tmp 11]
theorem enter:En Tryz.prog 11 56 s rv:=En.mk (c:= Tryz.f11.body.getD .ret) Tryz.func11 rfl (by kernel_rfl) (by kernel_rfl) (by kernel_rfl) (by kernel_rfl)
end gossip_Delta
namespace buffer_Buffer_Has
abbrev f:Nat:=12
def s:cr:=(.seq
(F [J 2 (.alloc 34 z8)] 1)
(.seq
(.seq
(F [M 3 0,
 J 4 (.call (C 27) [(.t 3)])] 2)
(.cond (.t 4)
(.seq
(F [J 5 (.ec z8 []),
 N (.store 8 (.t 2) (.t 5))] 2)
.ret)
.skip))
(.seq
(F [M 6 0,
 J 7 (.gR (.t 6)),
 J 8 (.bp 1 (.t 7)),
 J 9 (.load (some 8) (.t 8)),
 N (.store 8 (.t 2) (.t 9))] 5)
.ret)))
def rv:List RV:=[.cell 2 (some 8)]
theorem enter:En Tryz.prog 12 10 s rv:=En.mk (c:= Tryz.f12.body.getD .ret) Tryz.func12 rfl (by kernel_rfl) (by kernel_rfl) (by kernel_rfl) (by kernel_rfl)
end buffer_Buffer_Has
namespace ref05_SameAll
abbrev f:Nat:=13
def s:cr:=(.seq
(F [J 4 (.mv (B false))] 1)
(.seq
(.seq
(F [M 6 0,
 J 7 (.len (.t 6)),
 M 8 1,
 J 9 (.len (.t 8)),
 J 10 (.bin .neq (.t 7) (.t 9))] 5)
(.cond (.t 10)
(.seq
(F [J 4 (.mv (B false))] 1)
.ret)
.skip))
(.seq
(.seq
(F [J 5 (.mv (Z 0))] 1)
(.block 0
(.loop
(.seq
(.seq
(F [M 11 5,
 M 12 0,
 J 13 (.len (.t 12)),
 J 14 (.bin .lss (.t 11) (.t 13))] 4)
(.cond (.t 14)
.skip
(.exit 0)))
(.seq
(.block 1
(.seq
(.c7 [M 17 0,
 M 18 5,
 J 19 (.aW 29 (.t 17) (.t 18)),
 J 20 (.load (some 29) (.t 19)),
 M 21 1,
 M 22 5,
 J 23 (.aW 29 (.t 21) (.t 22)),
 J 24 (.load (some 29) (.t 23)),
 J 25 (.call (C 38) [(.t 20),(.t 24)]),
 J 26 (.not (.t 25))] [0,
0,
3,
7,
0,
0,
48,
112,
255,
511] true)
(.cond (.t 26)
(.seq
(F [J 4 (.mv (B false))] 1)
.ret)
.skip)))
(F [M 15 5,
 J 16 (.bin .add (.t 15) (Z 1)),
 M 5 16] 3))))))
(.seq
(F [J 4 (.mv (B true))] 1)
.ret))))
def rv:List RV:=[.tmp 4]
theorem enter:En Tryz.prog 13 27 s rv:=En.mk (c:= Tryz.f13.body.getD .ret) Tryz.func13 rfl (by kernel_rfl) (by kernel_rfl) (by kernel_rfl) (by kernel_rfl)
end ref05_SameAll
namespace order_Known
abbrev f:Nat:=14
def s:cr:=(.seq
(F [J 2 (.alloc 34 z8)] 1)
(.seq
(F [J 3 (.alloc 34 z8)] 1)
(.seq
(.seq
(F [M 6 0,
 J 7 (.len (.t 6)),
 J 8 (.mv (Z 0))] 3)
(.block 0
(.loop
(.seq
(F [J 9 (.bin .lss (.t 8) (.t 7))] 1)
(.seq
(.cond (.t 9)
.skip
(.exit 0))
(.seq
(.block 1
(.seq
(F [J 10 (.aW 29 (.t 6) (.t 8)),
 J 11 (.load (some 29) (.t 10)),
 J 5 (.alloc 51 cn),
 N (.store 29 (.t 5) (.t 11))] 4)
(.seq
(F [J 12 (.bp 0 (.t 5)),
 J 13 (.bp 0 (.t 12)),
 J 14 (.load none (.t 13)),
 J 15 (.conv .i64 (.t 14)),
 J 16 (.bin .lss (.t 15) (Z 8))] 5)
(.cond (.t 16)
(.c7 [J 17 (.bp 0 (.t 5)),
 J 18 (.bp 0 (.t 17)),
 J 19 (.load none (.t 18)),
 J 20 (.bp 0 (.t 5)),
 J 21 (.bp 0 (.t 20)),
 J 22 (.load none (.t 21)),
 J 23 (.kR 8 1 (.t 3) (.t 22)),
 J 24 (.load none (.t 23)),
 J 25 (.bp 0 (.t 5)),
 J 26 (.bp 1 (.t 25)),
 J 27 (.load none (.t 26)),
 J 28 (.mx (.t 24) (.t 27)),
 J 29 (.kR 8 1 (.t 3) (.t 19)),
 N (.store 1 (.t 29) (.t 28))] [0,
1,
3,
0,
8,
24,
56,
120,
0,
256,
768,
2040,
4095,
8191] true)
.skip))))
(F [J 30 (.bin .add (.t 8) (Z 1)),
 M 8 30] 2)))))))
(.seq
(F [J 31 (.load (some 8) (.t 3)),
 N (.store 8 (.t 2) (.t 31))] 2)
.ret))))
def rv:List RV:=[.cell 2 (some 8)]
theorem enter:En Tryz.prog 14 32 s rv:=En.mk (c:= Tryz.f14.body.getD .ret) Tryz.func14 rfl (by kernel_rfl) (by kernel_rfl) (by kernel_rfl) (by kernel_rfl)
end order_Known
namespace op_Check
abbrev f:Nat:=15
def s:cr:=(.seq
(F [J 2 (.box 51 (.t 0)),
 J 4 (.mv (Z 0))] 2)
(.seq
(.block 0
(.seq
(F [M 6 1,
 J 7 (.bin .lss (.t 6) (Z 1)),
 M 8 7,
 G 9 1 8 false,
 H 10 (.bin .gtr (.t 9) (Z 8)) 8 false,
 J 11 (.pick (.t 8) (B true) (.t 10)),
 M 5 11] 7)
(.cond (.t 5)
(.seq
(F [J 4 (.mv (Z 2))] 1)
.ret)
(.seq
(.c7 (J 13 (.load (some 29) (.t 2))::
 M 14 1::
 J 15 (.call (C 39) [(.t 13),(.t 14)])::
 J 16 (.not (.t 15))::
 M 17 16::
 H 18 (.load (some 29) (.t 2)) 17 false::
 H 19 (.call (C 41) [(.t 18)]) 17 false::
 H 20 (.load (some 29) (.t 2)) 17 false::
 H 21 (.call (C 40) [(.t 19),(.t 20)]) 17 false::
 H 22 (.not (.t 21)) 17 false::
 J 23 (.pick (.t 17) (B true) (.t 22))::
 M 24 23::
 H 25 (.load (some 29) (.t 2)) 24 false::
 H 26 (.call (C 42) [(.t 25)]) 24 false::
 H 27 (.not (.t 26)) 24 false::
 J 28 (.pick (.t 24) (B true) (.t 27))::
 M 12 28::[]) (0::
0::
3::
7::
15::
31::
63::
31::
255::
511::
1023::
2047::
4095::
8191::
16383::
32767::
65535::[]) true)
(.cond (.t 12)
(.seq
(F [J 4 (.mv (Z 5))] 1)
.ret)
.skip)))))
(.seq
(F [J 4 (.mv (Z 0))] 1)
.ret)))
def rv:List RV:=[.tmp 4]
theorem enter:En Tryz.prog 15 29 s rv:=En.mk (c:= Tryz.f15.body.getD .ret) Tryz.func15 rfl (by kernel_rfl) (by kernel_rfl) (by kernel_rfl) (by kernel_rfl)
end op_Check
namespace order_indexOf
abbrev f:Nat:=16
def s:cr:=(.seq
(F [J 2 (.alloc 55 [(.d .aY),(.d .ir)])] 1)
(.seq
(F [M 8 0,
 J 9 (.ED),
 J 10 (.ec [(.d .aY),(.d .ir)] [(0,1,(.t 8)),(1,1,(.t 9))]),
 J 3 (.alloc 55 [(.d .aY),(.d .ir)]),
 N (.store 2 (.t 3) (.t 10))] 5)
(.seq
(.seq
(F [M 11 0,
 J 12 (.len (.t 11)),
 J 13 (.mv (Z 0))] 3)
(.block 0
(.loop
(.seq
(F [J 14 (.bin .lss (.t 13) (.t 12))] 1)
(.seq
(.cond (.t 14)
.skip
(.exit 0))
(.seq
(.block 1
(.seq
(F [M 15 13,
 J 16 (.aW 29 (.t 11) (.t 13)),
 J 17 (.load (some 29) (.t 16)),
 J 5 (.alloc 51 cn),
 M 4 15,
 N (.store 29 (.t 5) (.t 17))] 6)
(.seq
(F [J 19 (.bp 1 (.t 3)),
 J 20 (.load none (.t 19)),
 J 21 (.bp 0 (.t 5)),
 J 22 (.load (some 2) (.t 21)),
 J 23 (.look [true,true] true (i6 0) (.t 20) (.t 22) true),
 M 18 23,
 J 24 (.ext 0 (.t 18)),
 J 25 (.ext 1 (.t 18)),
 M 6 24,
 M 7 25] 10)
(.seq
(F [M 26 7,
 J 27 (.not (.t 26))] 2)
(.cond (.t 27)
(F [J 28 (.bp 1 (.t 3)),
 J 29 (.load none (.t 28)),
 J 30 (.bp 0 (.t 5)),
 J 31 (.load (some 2) (.t 30)),
 M 32 4,
 N (.ur [true,true] true (.t 29) (.t 31) (.t 32))] 6)
.skip)))))
(F [J 33 (.bin .add (.t 13) (Z 1)),
 M 13 33] 2)))))))
(.seq
(F [J 34 (.load (some 2) (.t 3)),
 N (.store 2 (.t 2) (.t 34))] 2)
.ret))))
def rv:List RV:=[.cell 2 (some 2)]
theorem enter:En Tryz.prog 16 35 s rv:=En.mk (c:= Tryz.f16.body.getD .ret) Tryz.func16 rfl (by kernel_rfl) (by kernel_rfl) (by kernel_rfl) (by kernel_rfl)
end order_indexOf
namespace vector_Count
abbrev f:Nat:=17
def s:cr:=(.seq
(F [J 1 (.box 34 (.t 0)),
 J 2 (.mv (.k (b_ 0)))] 2)
(.seq
(F [J 3 (.mv (.k (b_ 0)))] 1)
(.seq
(.seq
(F [J 6 (.load (some 8) (.t 1)),
 J 7 (.mv (Z 0))] 2)
(.block 0
(.loop
(.seq
(F [J 8 (.bin .lss (.t 7) (Z 8))] 1)
(.seq
(.cond (.t 8)
.skip
(.exit 0))
(.seq
(.block 1
(.seq
(F [J 9 (.index 8 1 false (.t 6) (.t 7)),
 M 5 9] 2)
(F [M 10 3,
 M 11 5,
 J 12 (.conv .u64 (.t 11)),
 J 13 (.bin .add (.t 10) (.t 12)),
 M 3 13] 5)))
(F [J 14 (.bin .add (.t 7) (Z 1)),
 M 7 14] 2)))))))
(.seq
(F [M 15 3,
 M 2 15] 2)
.ret))))
def rv:List RV:=[.tmp 2]
theorem enter:En Tryz.prog 17 16 s rv:=En.mk (c:= Tryz.f17.body.getD .ret) Tryz.func17 rfl (by kernel_rfl) (by kernel_rfl) (by kernel_rfl) (by kernel_rfl)
end vector_Count
namespace order_index_fits
abbrev f:Nat:=18
def s:cr:=(.seq
(F [J 3 (.box 55 (.t 0)),
 J 4 (.box 51 (.t 1)),
 J 5 (.box 34 (.t 2)),
 J 6 (.mv (B false))] 4)
(.seq
(F [J 7 (.load (some 8) (.t 5)),
 J 8 (.bp 2 (.t 4)),
 J 9 (.load (some 8) (.t 8)),
 J 10 (.call (C 43) [(.t 7),(.t 9)]),
 M 11 10,
 H 12 (.bp 0 (.t 3)) 11 true,
 H 13 (.load none (.t 12)) 11 true,
 H 14 (.yt (.func 44) [] [(.t 4)]) 11 true,
 H 15 (.call (C 28) [(.t 13),(.t 14)]) 11 true,
 H 16 (.not (.t 15)) 11 true,
 J 17 (.pick (.t 11) (.t 16) (B false)),
 M 6 17] 12)
.ret))
def rv:List RV:=[.tmp 6]
theorem enter:En Tryz.prog 18 18 s rv:=En.mk (c:= Tryz.f18.body.getD .ret) Tryz.func18 rfl (by kernel_rfl) (by kernel_rfl) (by kernel_rfl) (by kernel_rfl)
end order_index_fits
namespace law14_three
abbrev f:Nat:=19
def s:cr:=(.seq
(F [J 0 (.mv (.k (.d .aY)))] 1)
(.seq
(F [J 4 (.ec [b8 0,aJ 0] [(1,1,(.k (aJ 1)))]),
 J 5 (.ec [b8 0,aJ 0] [(1,1,(.k (aJ 1)))]),
 J 6 (.ec cn [(0,2,(.t 4)),(10,1,(.k (b_ 1))),(11,1,(.k (aJ 1))),(12,2,(.t 5))]),
 J 1 (.alloc 51 cn),
 N (.store 29 (.t 1) (.t 6))] 5)
(.seq
(F [J 7 (.ec [b8 0,aJ 0] [(0,1,(.k (b8 1))),(1,1,(.k (aJ 1)))]),
 J 8 (.ec z8 [(0,1,(.k (aJ 1)))]),
 J 9 (.ec [b8 0,aJ 0] [(0,1,(.k (b8 1))),(1,1,(.k (aJ 1)))]),
 J 10 (.ec cn [(0,2,(.t 7)),(2,8,(.t 8)),(10,1,(.k (b_ 2))),(11,1,(.k (aJ 1))),(12,2,(.t 9))]),
 J 2 (.alloc 51 cn),
 N (.store 29 (.t 2) (.t 10))] 6)
(.seq
(F [J 11 (.ec [b8 0,aJ 0] [(1,1,(.k (aJ 2)))]),
 J 12 (.ec z8 [(0,1,(.k (aJ 1))),(1,1,(.k (aJ 1)))]),
 J 13 (.ec [b8 0,aJ 0] [(1,1,(.k (aJ 2)))]),
 J 14 (.ec cn [(0,2,(.t 11)),(2,8,(.t 12)),(10,1,(.k (b_ 3))),(11,1,(.k (aJ 1))),(12,2,(.t 13))]),
 J 3 (.alloc 51 cn),
 N (.store 29 (.t 3) (.t 14))] 6)
(.seq
(F [J 15 (.load (some 29) (.t 3)),
 J 16 (.load (some 29) (.t 1)),
 J 17 (.load (some 29) (.t 2)),
 J 18 (.nV 51 29 3 [b8 0,aJ 0,aJ 0,aJ 0,aJ 0,aJ 0,aJ 0,aJ 0,aJ 0,aJ 0,b_ 0,aJ 0,b8 0,aJ 0,b8 0,b8 0,aJ 0,aJ 0,b8 0,b8 0,b_ 0,b8 0,aJ 0,b8 0,aJ 0,aJ 0,aJ 0,aJ 0,(.d .aY),b8 0,aJ 0,aJ 0,aJ 0,aJ 0,aJ 0,aJ 0,aJ 0,aJ 0,aJ 0,b_ 0,aJ 0,b8 0,aJ 0,b8 0,b8 0,aJ 0,aJ 0,b8 0,b8 0,b_ 0,b8 0,aJ 0,b8 0,aJ 0,aJ 0,aJ 0,aJ 0,(.d .aY),b8 0,aJ 0,aJ 0,aJ 0,aJ 0,aJ 0,aJ 0,aJ 0,aJ 0,aJ 0,b_ 0,aJ 0,b8 0,aJ 0,b8 0,b8 0,aJ 0,aJ 0,b8 0,b8 0,b_ 0,b8 0,aJ 0,b8 0,aJ 0,aJ 0,aJ 0,aJ 0,(.d .aY)] [(0,29,(.t 15)),(29,29,(.t 16)),(58,29,(.t 17))]),
 M 0 18] 5)
.ret)))))
def rv:List RV:=[.tmp 0]
theorem enter:En Tryz.prog 19 19 s rv:=En.mk (c:= Tryz.f19.body.getD .ret) Tryz.func19 rfl (by kernel_rfl) (by kernel_rfl) (by kernel_rfl) (by kernel_rfl)
end law14_three
namespace gossip_Lacks
abbrev f:Nat:=20
def s:cr:=(.seq
(F [J 3 (.box 34 (.t 1)),
 J 4 (.mv (.k (.d .aY)))] 2)
(.seq
(F [M 5 0,
 J 6 (.load (some 8) (.t 3)),
 J 7 (.call (C 37) [(.t 5),(.t 6)]),
 J 8 (.call (C 46) [(.t 7)]),
 M 4 8] 5)
.ret))
def rv:List RV:=[.tmp 4]
theorem enter:En Tryz.prog 20 9 s rv:=En.mk (c:= Tryz.f20.body.getD .ret) Tryz.func20 rfl (by kernel_rfl) (by kernel_rfl) (by kernel_rfl) (by kernel_rfl)
end gossip_Lacks
namespace ref06_Same
abbrev f:Nat:=21
def s:cr:=(.seq
(F [J 2 (.box 39 (.t 0)),
 J 3 (.box 39 (.t 1)),
 J 4 (.mv (B false))] 3)
(.seq
(F (J 5 (.bp 0 (.t 2))::
 J 6 (.load none (.t 5))::
 J 7 (.bp 0 (.t 3))::
 J 8 (.load none (.t 7))::
 J 9 (.bin .eql (.t 6) (.t 8))::
 M 10 9::
 H 11 (.bp 1 (.t 2)) 10 true::
 H 12 (.load none (.t 11)) 10 true::
 H 13 (.bp 1 (.t 3)) 10 true::
 H 14 (.load none (.t 13)) 10 true::
 H 15 (.bin .eql (.t 12) (.t 14)) 10 true::
 J 16 (.pick (.t 10) (.t 15) (B false))::
 M 17 16::
 H 18 (.bp 2 (.t 2)) 17 true::
 H 19 (.load none (.t 18)) 17 true::
 H 20 (.bp 2 (.t 3)) 17 true::
 H 21 (.load none (.t 20)) 17 true::
 H 22 (.bin .eql (.t 19) (.t 21)) 17 true::
 J 23 (.pick (.t 17) (.t 22) (B false))::
 M 24 23::
 H 25 (.bp 3 (.t 2)) 24 true::
 H 26 (.load (some 8) (.t 25)) 24 true::
 H 27 (.bp 3 (.t 3)) 24 true::
 H 28 (.load (some 8) (.t 27)) 24 true::
 H 29 (.eqv false [true,true,true,true,true,true,true,true] (.t 26) (.t 28)) 24 true::
 J 30 (.pick (.t 24) (.t 29) (B false))::
 M 31 30::
 H 32 (.bp 11 (.t 2)) 31 true::
 H 33 (.load none (.t 32)) 31 true::
 H 34 (.bp 11 (.t 3)) 31 true::
 H 35 (.load none (.t 34)) 31 true::
 H 36 (.call (C 13) [(.t 33),(.t 35)]) 31 true::
 J 37 (.pick (.t 31) (.t 36) (B false))::
 M 4 37::[]) 34)
.ret))
def rv:List RV:=[.tmp 4]
theorem enter:En Tryz.prog 21 38 s rv:=En.mk (c:= Tryz.f21.body.getD .ret) Tryz.func21 rfl (by kernel_rfl) (by kernel_rfl) (by kernel_rfl) (by kernel_rfl)
end ref06_Same
namespace slices_SortedFunc_int
abbrev f:Nat:=22
def s:cr:=(.seq
(F [J 4 (.mv (.k (.d .aY)))] 1)
(.seq
(F [M 6 0,
 J 7 (.call (C 47) [(.t 6)]),
 M 5 7] 3)
(.seq
(F [M 8 5,
 M 9 1,
 J 10 (.call (C 48) [(.t 8),(.t 9)])] 3)
(.seq
(F [M 11 5,
 M 4 11] 2)
.ret))))
def rv:List RV:=[.tmp 4]
theorem enter:En Tryz.prog 22 12 s rv:=En.mk (c:= Tryz.f22.body.getD .ret) Tryz.func22 rfl (by kernel_rfl) (by kernel_rfl) (by kernel_rfl) (by kernel_rfl)
end slices_SortedFunc_int
namespace order_index_once
abbrev f:Nat:=23
def s:cr:=(.seq
(F [J 1 (.box 55 (.t 0)),
 J 2 (.mv (.k (.d .uq)))] 2)
(.seq
(F [J 3 (.yt (.func 49) [] [(.t 1)]),
 M 2 3] 2)
.ret))
def rv:List RV:=[.tmp 2]
theorem enter:En Tryz.prog 23 4 s rv:=En.mk (c:= Tryz.f23.body.getD .ret) Tryz.func23 rfl (by kernel_rfl) (by kernel_rfl) (by kernel_rfl) (by kernel_rfl)
end order_index_once
namespace order_index_compare
abbrev f:Nat:=24
def s:cr:=(.seq
(F [J 3 (.box 55 (.t 0)),
 J 6 (.mv (Z 0))] 2)
(.seq
(.c7 [J 7 (.bp 0 (.t 3)),
 J 8 (.load none (.t 7)),
 M 9 1,
 J 10 (.aW 29 (.t 8) (.t 9)),
 J 11 (.load (some 29) (.t 10)),
 J 12 (.bp 0 (.t 3)),
 J 13 (.load none (.t 12)),
 M 14 2,
 J 15 (.aW 29 (.t 13) (.t 14)),
 J 16 (.load (some 29) (.t 15)),
 J 17 (.call (C 50) [(.t 11),(.t 16)]),
 M 6 17] [0,
1,
0,
7,
15,
0,
32,
0,
224,
480,
1023,
2047] true)
.ret))
def rv:List RV:=[.tmp 6]
theorem enter:En Tryz.prog 24 18 s rv:=En.mk (c:= Tryz.f24.body.getD .ret) Tryz.func24 rfl (by kernel_rfl) (by kernel_rfl) (by kernel_rfl) (by kernel_rfl)
end order_index_compare
namespace slices_ContainsFunc_Luint32_uint32
abbrev f:Nat:=25
def s:cr:=(.seq
(F [J 4 (.mv (B false))] 1)
(.seq
(F [M 5 0,
 M 6 1,
 J 7 (.call (C 51) [(.t 5),(.t 6)]),
 J 8 (.bin .geq (.t 7) (Z 0)),
 M 4 8] 5)
.ret))
def rv:List RV:=[.tmp 4]
theorem enter:En Tryz.prog 25 9 s rv:=En.mk (c:= Tryz.f25.body.getD .ret) Tryz.func25 rfl (by kernel_rfl) (by kernel_rfl) (by kernel_rfl) (by kernel_rfl)
end slices_ContainsFunc_Luint32_uint32
namespace buffer_New_1
abbrev f:Nat:=26
def s:cr:=(.seq
(F [J 2 (.mv (B false))] 1)
(.seq
(F [M 3 0,
 J 4 (.bin .gtr (.t 3) (.k (aJ 0))),
 M 2 4] 3)
.ret))
def rv:List RV:=[.tmp 2]
theorem enter:En Tryz.prog 26 5 s rv:=En.mk (c:= Tryz.f26.body.getD .ret) Tryz.func26 rfl (by kernel_rfl) (by kernel_rfl) (by kernel_rfl) (by kernel_rfl)
end buffer_New_1
namespace buffer_Buffer_none
abbrev f:Nat:=27
def s:cr:=(.seq
(F [J 2 (.mv (B false))] 1)
(.seq
(F [M 3 0,
 J 4 (.me false 0 (.t 3)),
 M 5 4,
 G 6 0 5 false,
 H 7 (.gR (.t 6)) 5 false,
 H 8 (.bp 9 (.t 7)) 5 false,
 H 9 (.load none (.t 8)) 5 false,
 H 10 (.me false 1 (.t 9)) 5 false,
 J 11 (.pick (.t 5) (B true) (.t 10)),
 M 2 11] 10)
.ret))
def rv:List RV:=[.tmp 2]
theorem enter:En Tryz.prog 27 12 s rv:=En.mk (c:= Tryz.f27.body.getD .ret) Tryz.func27 rfl (by kernel_rfl) (by kernel_rfl) (by kernel_rfl) (by kernel_rfl)
end buffer_Buffer_none
namespace slices_ContainsFunc_Lapi_Op_api_Op
abbrev f:Nat:=28
def s:cr:=(.seq
(F [J 4 (.mv (B false))] 1)
(.seq
(F [M 5 0,
 M 6 1,
 J 7 (.call (C 34) [(.t 5),(.t 6)]),
 J 8 (.bin .geq (.t 7) (Z 0)),
 M 4 8] 5)
.ret))
def rv:List RV:=[.tmp 4]
theorem enter:En Tryz.prog 28 9 s rv:=En.mk (c:= Tryz.f28.body.getD .ret) Tryz.func28 rfl (by kernel_rfl) (by kernel_rfl) (by kernel_rfl) (by kernel_rfl)
end slices_ContainsFunc_Lapi_Op_api_Op
namespace buffer_Buffer_Put_1
abbrev f:Nat:=29
def s:cr:=(.seq
(F [J 2 (.box 51 (.t 0)),
 J 3 (.mv (B false))] 2)
(.seq
(.c7 [J 4 (.load (some 29) (.t 2)),
 J 5 (.load none (.t 1)),
 J 6 (.gR (.t 5)),
 J 7 (.bp 0 (.t 6)),
 J 8 (.load none (.t 7)),
 J 9 (.call (C 15) [(.t 4),(.t 8)]),
 J 10 (.bin .neq (.t 9) (Z 0)),
 M 3 10] [0,
0,
2,
6,
14,
31,
63,
127] true)
.ret))
def rv:List RV:=[.tmp 3]
theorem enter:En Tryz.prog 29 11 s rv:=En.mk (c:= Tryz.f29.body.getD .ret) Tryz.func29 rfl (by kernel_rfl) (by kernel_rfl) (by kernel_rfl) (by kernel_rfl)
end buffer_Buffer_Put_1
namespace vector_Covers
abbrev f:Nat:=30
def s:cr:=(.seq
(F [J 2 (.box 34 (.t 0)),
 J 3 (.box 47 (.t 1)),
 J 4 (.mv (B false))] 3)
(.seq
(.c7 [J 5 (.load (some 2) (.t 3)),
 J 6 (.call (C 52) [(.t 5)]),
 M 7 6,
 H 8 (.bp 0 (.t 3)) 7 true,
 H 9 (.load none (.t 8)) 7 true,
 H 10 (.kR 8 1 (.t 2) (.t 9)) 7 true,
 H 11 (.load none (.t 10)) 7 true,
 H 12 (.bp 1 (.t 3)) 7 true,
 H 13 (.load none (.t 12)) 7 true,
 H 14 (.bin .geq (.t 11) (.t 13)) 7 true,
 J 15 (.pick (.t 7) (.t 14) (B false)),
 M 4 15] [0,
1,
3,
7,
15,
31,
63,
7,
135,
511,
1023,
2047] true)
.ret))
def rv:List RV:=[.tmp 4]
theorem enter:En Tryz.prog 30 16 s rv:=En.mk (c:= Tryz.f30.body.getD .ret) Tryz.func30 rfl (by kernel_rfl) (by kernel_rfl) (by kernel_rfl) (by kernel_rfl)
end vector_Covers
namespace buffer_own
abbrev f:Nat:=31
def s:cr:=(.seq
(F [J 1 (.box 51 (.t 0)),
 J 2 (.alloc 51 cn)] 2)
(.seq
(F [J 3 (.bp 28 (.t 1)),
 J 4 (.load none (.t 3)),
 J 5 (.call (C 53) [(.t 4)]),
 J 6 (.bp 28 (.t 1)),
 N (.store 1 (.t 6) (.t 5))] 5)
(.seq
(F [J 7 (.load (some 29) (.t 1)),
 N (.store 29 (.t 2) (.t 7))] 2)
.ret)))
def rv:List RV:=[.cell 2 (some 29)]
theorem enter:En Tryz.prog 31 8 s rv:=En.mk (c:= Tryz.f31.body.getD .ret) Tryz.func31 rfl (by kernel_rfl) (by kernel_rfl) (by kernel_rfl) (by kernel_rfl)
end buffer_own
namespace buffer_Buffer_Put_2
abbrev f:Nat:=32
def s:cr:=(.seq
(F [J 1 (.alloc 51 cn),
 J 2 (.mv (B false))] 2)
(.seq
(F [J 5 (.load none (.t 0)),
 J 6 (.call (C 33) [(.t 5)]),
 M 3 6] 3)
(.seq
(F [M 7 3,
 J 8 (.load none (.t 0)),
 J 9 (.yt (.func 35) [(.t 8)] []),
 J 10 (.call (C 34) [(.t 7),(.t 9)]),
 M 4 10] 5)
(.seq
(.seq
(F [M 11 4,
 J 12 (.bin .lss (.t 11) (Z 0))] 2)
(.cond (.t 12)
(.seq
(F [J 13 (.ec cn []),
 N (.store 29 (.t 1) (.t 13)),
 J 2 (.mv (B false))] 3)
.ret)
.skip))
(.seq
(F [M 14 3,
 M 15 4,
 J 16 (.aW 29 (.t 14) (.t 15)),
 J 17 (.load (some 29) (.t 16)),
 N (.store 29 (.t 1) (.t 17)),
 J 2 (.mv (B true))] 6)
.ret)))))
def rv:List RV:=[.cell 1 (some 29),.tmp 2]
theorem enter:En Tryz.prog 32 18 s rv:=En.mk (c:= Tryz.f32.body.getD .ret) Tryz.func32 rfl (by kernel_rfl) (by kernel_rfl) (by kernel_rfl) (by kernel_rfl)
end buffer_Buffer_Put_2
namespace buffer_Buffer_all
abbrev f:Nat:=33
def s:cr:=(.seq
(F [J 2 (.mv (.k (.d .aY)))] 1)
(.seq
(F [M 3 0,
 J 4 (.gR (.t 3)),
 J 5 (.bp 9 (.t 4)),
 J 6 (.load none (.t 5)),
 J 7 (.call (C 55) [(.t 6)]),
 J 8 (.call (C 54) [(.t 7),(C 50)]),
 M 2 8] 7)
.ret))
def rv:List RV:=[.tmp 2]
theorem enter:En Tryz.prog 33 9 s rv:=En.mk (c:= Tryz.f33.body.getD .ret) Tryz.func33 rfl (by kernel_rfl) (by kernel_rfl) (by kernel_rfl) (by kernel_rfl)
end buffer_Buffer_all
namespace slices_IndexFunc_Lapi_Op_api_Op
abbrev f:Nat:=34
def s:cr:=(.seq
(F [J 4 (.mv (Z 0))] 1)
(.seq
(.seq
(F [M 6 0,
 J 7 (.len (.t 6)),
 J 8 (.mv (Z 0))] 3)
(.block 0
(.loop
(.seq
(F [J 9 (.bin .lss (.t 8) (.t 7))] 1)
(.seq
(.cond (.t 9)
.skip
(.exit 0))
(.seq
(.block 1
(.seq
(F [M 10 8,
 M 5 10] 2)
(.seq
(F [M 11 1,
 M 12 0,
 M 13 5,
 J 14 (.aW 29 (.t 12) (.t 13)),
 J 15 (.load (some 29) (.t 14)),
 J 16 (.call (.t 11) [(.t 15)])] 6)
(.cond (.t 16)
(.seq
(F [M 17 5,
 M 4 17] 2)
.ret)
.skip))))
(F [J 18 (.bin .add (.t 8) (Z 1)),
 M 8 18] 2)))))))
(.seq
(F [J 4 (.mv (.k (.d (.int .i64 (-1)))))] 1)
.ret)))
def rv:List RV:=[.tmp 4]
theorem enter:En Tryz.prog 34 19 s rv:=En.mk (c:= Tryz.f34.body.getD .ret) Tryz.func34 rfl (by kernel_rfl) (by kernel_rfl) (by kernel_rfl) (by kernel_rfl)
end slices_IndexFunc_Lapi_Op_api_Op
namespace buffer_Buffer_may
abbrev f:Nat:=35
def s:cr:=(.seq
(F [J 3 (.box 51 (.t 1)),
 J 4 (.mv (B false))] 2)
(.seq
(.c7 [M 8 0,
 J 9 (.gR (.t 8)),
 J 10 (.bp 1 (.t 9)),
 J 11 (.load (some 8) (.t 10)),
 J 12 (.bp 0 (.t 3)),
 J 13 (.bp 0 (.t 12)),
 J 14 (.load none (.t 13)),
 J 15 (.call (C 56) [(.t 11),(.t 14)]),
 M 7 15,
 J 16 (.ext 0 (.t 7)),
 J 17 (.ext 1 (.t 7)),
 J 5 (.alloc 47 [b8 0,aJ 0]),
 N (.store 2 (.t 5) (.t 16)),
 M 6 17] [0,
1,
3,
7,
0,
16,
48,
127,
255,
511,
511,
0,
3071,
8191] true)
(.seq
(.c7 (M 18 6::
 J 19 (.bin .eql (.t 18) (Z 0))::
 M 20 19::
 H 21 (.load (some 2) (.t 5)) 20 true::
 H 22 (.bp 0 (.t 3)) 20 true::
 H 23 (.load (some 2) (.t 22)) 20 true::
 H 24 (.eqv false [true,true] (.t 21) (.t 23)) 20 true::
 J 25 (.pick (.t 20) (.t 24) (B false))::
 M 26 25::
 G 27 0 26 true::
 H 28 (.gR (.t 27)) 26 true::
 H 29 (.bp 1 (.t 28)) 26 true::
 H 30 (.load (some 8) (.t 29)) 26 true::
 H 31 (.bp 2 (.t 3)) 26 true::
 H 32 (.load (some 8) (.t 31)) 26 true::
 H 33 (.call (C 43) [(.t 30),(.t 32)]) 26 true::
 J 34 (.pick (.t 26) (.t 33) (B false))::
 M 4 34::[]) (0::
1::
3::
7::
7::
23::
63::
127::
255::
511::
1023::
2047::
4095::
511::
8703::
32767::
65535::
131071::[]) true)
.ret)))
def rv:List RV:=[.tmp 4]
theorem enter:En Tryz.prog 35 35 s rv:=En.mk (c:= Tryz.f35.body.getD .ret) Tryz.func35 rfl (by kernel_rfl) (by kernel_rfl) (by kernel_rfl) (by kernel_rfl)
end buffer_Buffer_may
namespace gossip_may
abbrev f:Nat:=36
def s:cr:=(.seq
(F [J 2 (.box 39 (.t 0)),
 J 4 (.alloc 39 [b8 0,b8 0,b8 0,aJ 0,aJ 0,aJ 0,aJ 0,aJ 0,aJ 0,aJ 0,aJ 0,(.d .aY)]),
 J 5 (.mv (Z 0))] 3)
(.seq
(.seq
(F [J 6 (.load (some 12) (.t 2)),
 J 7 (.call (C 57) [(.t 6)]),
 J 8 (.not (.t 7))] 3)
(.cond (.t 8)
(.seq
(F [J 9 (.ec [b8 0,b8 0,b8 0,aJ 0,aJ 0,aJ 0,aJ 0,aJ 0,aJ 0,aJ 0,aJ 0,(.d .aY)] []),
 M 10 1,
 N (.store 12 (.t 4) (.t 9)),
 M 5 10] 4)
.ret)
.skip))
(.seq
(F [J 11 (.load (some 12) (.t 2)),
 N (.store 12 (.t 4) (.t 11)),
 J 5 (.mv (Z 0))] 3)
.ret)))
def rv:List RV:=[.cell 4 (some 12),.tmp 5]
theorem enter:En Tryz.prog 36 12 s rv:=En.mk (c:= Tryz.f36.body.getD .ret) Tryz.func36 rfl (by kernel_rfl) (by kernel_rfl) (by kernel_rfl) (by kernel_rfl)
end gossip_may
namespace gossip_lacked
abbrev f:Nat:=37
def s:cr:=(.seq
(F [J 2 (.box 22 (.t 0)),
 J 3 (.box 34 (.t 1)),
 J 4 (.mv (.k (.d .uq)))] 3)
(.seq
(F [J 5 (.yt (.func 58) [] [(.t 2),(.t 3)]),
 M 4 5] 2)
.ret))
def rv:List RV:=[.tmp 4]
theorem enter:En Tryz.prog 37 6 s rv:=En.mk (c:= Tryz.f37.body.getD .ret) Tryz.func37 rfl (by kernel_rfl) (by kernel_rfl) (by kernel_rfl) (by kernel_rfl)
end gossip_lacked
namespace ref05_Same
abbrev f:Nat:=38
def s:cr:=(.seq
(F [J 2 (.box 51 (.t 0)),
 J 3 (.box 51 (.t 1)),
 J 4 (.mv (B false))] 3)
(.seq
(.seq
(F [J 6 (.bp 28 (.t 2)),
 J 7 (.load none (.t 6)),
 J 8 (.len (.t 7)),
 J 9 (.bp 28 (.t 3)),
 J 10 (.load none (.t 9)),
 J 11 (.len (.t 10)),
 J 12 (.bin .neq (.t 8) (.t 11))] 7)
(.cond (.t 12)
(.seq
(F [J 4 (.mv (B false))] 1)
.ret)
.skip))
(.seq
(.seq
(F [J 5 (.mv (Z 0))] 1)
(.block 0
(.loop
(.seq
(.seq
(F [M 13 5,
 J 14 (.bp 28 (.t 2)),
 J 15 (.load none (.t 14)),
 J 16 (.len (.t 15)),
 J 17 (.bin .lss (.t 13) (.t 16))] 5)
(.cond (.t 17)
.skip
(.exit 0)))
(.seq
(.block 1
(.seq
(.c7 [J 20 (.bp 28 (.t 2)),
 J 21 (.load none (.t 20)),
 M 22 5,
 J 23 (.aW 4 (.t 21) (.t 22)),
 J 24 (.load (some 4) (.t 23)),
 J 25 (.bp 28 (.t 3)),
 J 26 (.load none (.t 25)),
 M 27 5,
 J 28 (.aW 4 (.t 26) (.t 27)),
 J 29 (.load (some 4) (.t 28)),
 J 30 (.eqv true [true,true,true,true] (.t 24) (.t 29))] [0,
1,
0,
7,
15,
0,
32,
0,
224,
480,
1023] true)
(.cond (.t 30)
(.seq
(F [J 4 (.mv (B false))] 1)
.ret)
.skip)))
(F [M 18 5,
 J 19 (.bin .add (.t 18) (Z 1)),
 M 5 19] 3))))))
(.seq
(F (J 31 (.bp 0 (.t 2))::
 J 32 (.load (some 2) (.t 31))::
 J 33 (.bp 0 (.t 3))::
 J 34 (.load (some 2) (.t 33))::
 J 35 (.eqv false [true,true] (.t 32) (.t 34))::
 M 36 35::
 H 37 (.bp 2 (.t 2)) 36 true::
 H 38 (.load (some 8) (.t 37)) 36 true::
 H 39 (.bp 2 (.t 3)) 36 true::
 H 40 (.load (some 8) (.t 39)) 36 true::
 H 41 (.eqv false [true,true,true,true,true,true,true,true] (.t 38) (.t 40)) 36 true::
 J 42 (.pick (.t 36) (.t 41) (B false))::
 M 43 42::
 H 44 (.bp 10 (.t 2)) 43 true::
 H 45 (.load none (.t 44)) 43 true::
 H 46 (.bp 10 (.t 3)) 43 true::
 H 47 (.load none (.t 46)) 43 true::
 H 48 (.bin .eql (.t 45) (.t 47)) 43 true::
 J 49 (.pick (.t 43) (.t 48) (B false))::
 M 50 49::
 H 51 (.bp 11 (.t 2)) 50 true::
 H 52 (.load none (.t 51)) 50 true::
 H 53 (.bp 11 (.t 3)) 50 true::
 H 54 (.load none (.t 53)) 50 true::
 H 55 (.bin .eql (.t 52) (.t 54)) 50 true::
 J 56 (.pick (.t 50) (.t 55) (B false))::
 M 57 56::
 H 58 (.bp 12 (.t 2)) 57 true::
 H 59 (.load (some 2) (.t 58)) 57 true::
 H 60 (.bp 12 (.t 3)) 57 true::
 H 61 (.load (some 2) (.t 60)) 57 true::
 H 62 (.eqv false [true,true] (.t 59) (.t 61)) 57 true::
 J 63 (.pick (.t 57) (.t 62) (B false))::
 M 64 63::
 H 65 (.bp 14 (.t 2)) 64 true::
 H 66 (.load none (.t 65)) 64 true::
 H 67 (.bp 14 (.t 3)) 64 true::
 H 68 (.load none (.t 67)) 64 true::
 H 69 (.bin .eql (.t 66) (.t 68)) 64 true::
 J 70 (.pick (.t 64) (.t 69) (B false))::
 M 71 70::
 H 72 (.bp 15 (.t 2)) 71 true::
 H 73 (.load (some 2) (.t 72)) 71 true::
 H 74 (.bp 15 (.t 3)) 71 true::
 H 75 (.load (some 2) (.t 74)) 71 true::
 H 76 (.eqv false [true,true] (.t 73) (.t 75)) 71 true::
 J 77 (.pick (.t 71) (.t 76) (B false))::
 M 78 77::
 H 79 (.bp 17 (.t 2)) 78 true::
 H 80 (.load none (.t 79)) 78 true::
 H 81 (.bp 17 (.t 3)) 78 true::
 H 82 (.load none (.t 81)) 78 true::
 H 83 (.bin .eql (.t 80) (.t 82)) 78 true::
 J 84 (.pick (.t 78) (.t 83) (B false))::
 M 85 84::
 H 86 (.bp 18 (.t 2)) 85 true::
 H 87 (.load none (.t 86)) 85 true::
 H 88 (.bp 18 (.t 3)) 85 true::
 H 89 (.load none (.t 88)) 85 true::
 H 90 (.bin .eql (.t 87) (.t 89)) 85 true::
 J 91 (.pick (.t 85) (.t 90) (B false))::
 M 92 91::
 H 93 (.bp 19 (.t 2)) 92 true::
 H 94 (.load none (.t 93)) 92 true::
 H 95 (.bp 19 (.t 3)) 92 true::
 H 96 (.load none (.t 95)) 92 true::
 H 97 (.bin .eql (.t 94) (.t 96)) 92 true::
 J 98 (.pick (.t 92) (.t 97) (B false))::
 M 99 98::
 H 100 (.bp 20 (.t 2)) 99 true::
 H 101 (.load none (.t 100)) 99 true::
 H 102 (.bp 20 (.t 3)) 99 true::
 H 103 (.load none (.t 102)) 99 true::
 H 104 (.bin .eql (.t 101) (.t 103)) 99 true::
 J 105 (.pick (.t 99) (.t 104) (B false))::
 M 106 105::
 H 107 (.bp 21 (.t 2)) 106 true::
 H 108 (.load (some 2) (.t 107)) 106 true::
 H 109 (.bp 21 (.t 3)) 106 true::
 H 110 (.load (some 2) (.t 109)) 106 true::
 H 111 (.eqv false [true,true] (.t 108) (.t 110)) 106 true::
 J 112 (.pick (.t 106) (.t 111) (B false))::
 M 113 112::
 H 114 (.bp 23 (.t 2)) 113 true::
 H 115 (.load (some 2) (.t 114)) 113 true::
 H 116 (.bp 23 (.t 3)) 113 true::
 H 117 (.load (some 2) (.t 116)) 113 true::
 H 118 (.eqv false [true,true] (.t 115) (.t 117)) 113 true::
 J 119 (.pick (.t 113) (.t 118) (B false))::
 M 120 119::
 H 121 (.bp 25 (.t 2)) 120 true::
 H 122 (.load none (.t 121)) 120 true::
 H 123 (.bp 25 (.t 3)) 120 true::
 H 124 (.load none (.t 123)) 120 true::
 H 125 (.bin .eql (.t 122) (.t 124)) 120 true::
 J 126 (.pick (.t 120) (.t 125) (B false))::
 M 127 126::
 H 128 (.bp 26 (.t 2)) 127 true::
 H 129 (.load none (.t 128)) 127 true::
 H 130 (.bp 26 (.t 3)) 127 true::
 H 131 (.load none (.t 130)) 127 true::
 H 132 (.bin .eql (.t 129) (.t 131)) 127 true::
 J 133 (.pick (.t 127) (.t 132) (B false))::
 M 134 133::
 H 135 (.bp 27 (.t 2)) 134 true::
 H 136 (.load none (.t 135)) 134 true::
 H 137 (.bp 27 (.t 3)) 134 true::
 H 138 (.load none (.t 137)) 134 true::
 H 139 (.bin .eql (.t 136) (.t 138)) 134 true::
 J 140 (.pick (.t 134) (.t 139) (B false))::
 M 4 140::[]) 111)
.ret))))
def rv:List RV:=[.tmp 4]
theorem enter:En Tryz.prog 38 141 s rv:=En.mk (c:= Tryz.f38.body.getD .ret) Tryz.func38 rfl (by kernel_rfl) (by kernel_rfl) (by kernel_rfl) (by kernel_rfl)
end ref05_Same
namespace op_head
abbrev f:Nat:=39
def s:cr:=(.seq
(F [J 2 (.box 51 (.t 0)),
 J 4 (.mv (B false))] 2)
(.seq
(.seq
(.c7 (J 6 (.bp 0 (.t 2))::
 J 7 (.bp 0 (.t 6))::
 J 8 (.load none (.t 7))::
 J 9 (.conv .i64 (.t 8))::
 M 10 1::
 J 11 (.bin .geq (.t 9) (.t 10))::
 M 12 11::
 H 13 (.bp 0 (.t 2)) 12 false::
 H 14 (.bp 1 (.t 13)) 12 false::
 H 15 (.load none (.t 14)) 12 false::
 H 16 (.bin .eql (.t 15) (.k (aJ 0))) 12 false::
 J 17 (.pick (.t 12) (B true) (.t 16))::
 M 18 17::
 H 19 (.bp 0 (.t 2)) 18 false::
 H 20 (.bp 0 (.t 19)) 18 false::
 H 21 (.load none (.t 20)) 18 false::
 H 22 (.bp 2 (.t 2)) 18 false::
 H 23 (.kR 8 1 (.t 22) (.t 21)) 18 false::
 H 24 (.load none (.t 23)) 18 false::
 H 25 (.bp 0 (.t 2)) 18 false::
 H 26 (.bp 1 (.t 25)) 18 false::
 H 27 (.load none (.t 26)) 18 false::
 H 28 (.bin .sub (.t 27) (.k (aJ 1))) 18 false::
 H 29 (.bin .neq (.t 24) (.t 28)) 18 false::
 J 30 (.pick (.t 18) (B true) (.t 29))::[]) (0::
1::
3::
7::
0::
31::
63::
127::
255::
511::
1023::
2047::
4095::
8191::
16383::
32767::
8191::
131071::
262143::
8191::
532479::
1581055::
3678207::
8388607::
16777215::[]) true)
(.cond (.t 30)
(.seq
(F [J 4 (.mv (B false))] 1)
.ret)
.skip))
(.seq
(F [J 31 (.ec z8 []),
 J 5 (.alloc 34 z8),
 N (.store 8 (.t 5) (.t 31))] 3)
(.seq
(.c7 [M 32 1,
 J 33 (.yq 8 1 (.t 5) none (some (.t 32))),
 J 34 (.bp 2 (.t 2)),
 M 35 1,
 J 36 (.yq 8 1 (.t 34) none (some (.t 35))),
 J 37 (.copy 32 1 (.t 33) (.t 36))] [0,
1,
0,
0,
12,
31] true)
(.seq
(F (J 38 (.load (some 8) (.t 5))::
 J 39 (.bp 2 (.t 2))::
 J 40 (.load (some 8) (.t 39))::
 J 41 (.eqv false [true,true,true,true,true,true,true,true] (.t 38) (.t 40))::
 M 42 41::
 H 43 (.bp 10 (.t 2)) 42 true::
 H 44 (.load none (.t 43)) 42 true::
 H 45 (.bin .gtr (.t 44) (.k (b_ 0))) 42 true::
 J 46 (.pick (.t 42) (.t 45) (B false))::
 M 47 46::
 H 48 (.bp 10 (.t 2)) 47 true::
 H 49 (.load none (.t 48)) 47 true::
 H 50 (.bin .leq (.t 49) (.k (b_ 281474976710656))) 47 true::
 J 51 (.pick (.t 47) (.t 50) (B false))::
 M 52 51::
 H 53 (.bp 11 (.t 2)) 52 true::
 H 54 (.load none (.t 53)) 52 true::
 H 55 (.bin .gtr (.t 54) (.k (aJ 0))) 52 true::
 J 56 (.pick (.t 52) (.t 55) (B false))::
 M 57 56::
 H 58 (.bp 14 (.t 2)) 57 true::
 H 59 (.load none (.t 58)) 57 true::
 H 60 (.bin .leq (.t 59) (.k (b8 8))) 57 true::
 J 61 (.pick (.t 57) (.t 60) (B false))::
 M 4 61::[]) 25)
.ret)))))
def rv:List RV:=[.tmp 4]
theorem enter:En Tryz.prog 39 62 s rv:=En.mk (c:= Tryz.f39.body.getD .ret) Tryz.func39 rfl (by kernel_rfl) (by kernel_rfl) (by kernel_rfl) (by kernel_rfl)
end op_head
namespace op_Same
abbrev f:Nat:=40
def s:cr:=(.seq
(F [J 2 (.box 51 (.t 0)),
 J 3 (.box 51 (.t 1)),
 J 4 (.mv (B false))] 3)
(.seq
(.c7 [J 5 (.load (some 29) (.t 2)),
 J 6 (.call (C 60) [(.t 5)]),
 J 7 (.load (some 29) (.t 3)),
 J 8 (.call (C 60) [(.t 7)]),
 J 9 (.eqv false [true,true,true,true,true,true,true,true,true,true,true,true,true,true,true,true,true,true,true,true,true,true,true,true,true,true,true,true] (.t 6) (.t 8)),
 M 10 9,
 H 11 (.bp 28 (.t 2)) 10 true,
 H 12 (.load none (.t 11)) 10 true,
 H 13 (.bp 28 (.t 3)) 10 true,
 H 14 (.load none (.t 13)) 10 true,
 H 15 (.call (C 61) [(.t 12),(.t 14)]) 10 true,
 J 16 (.pick (.t 10) (.t 15) (B false)),
 M 4 16] [0,
1,
0,
7,
15,
31,
63,
127,
63,
319,
1023,
2047,
4095] true)
.ret))
def rv:List RV:=[.tmp 4]
theorem enter:En Tryz.prog 40 17 s rv:=En.mk (c:= Tryz.f40.body.getD .ret) Tryz.func40 rfl (by kernel_rfl) (by kernel_rfl) (by kernel_rfl) (by kernel_rfl)
end op_Same
namespace op_bare
abbrev f:Nat:=41
def s:cr:=(.seq
(F [J 1 (.box 51 (.t 0)),
 J 2 (.alloc 51 cn)] 2)
(.seq
(F [J 4 (.bp 14 (.t 1)),
 J 5 (.load none (.t 4)),
 J 6 (.kR 9 1 (.k (.vp [(.int .u8 0),(.int .u8 3),(.int .u8 5),(.int .u8 49),(.int .u8 37),(.int .u8 5),(.int .u8 13),(.int .u8 13),(.int .u8 65)] 0)) (.t 5)),
 J 7 (.load none (.t 6)),
 M 3 7] 5)
(.seq
(.seq
(F [M 8 3,
 J 9 (.bin .and (.t 8) (.k (b8 1))),
 J 10 (.bin .eql (.t 9) (.k (b8 0)))] 3)
(.cond (.t 10)
(F [J 11 (.ec [b8 0,aJ 0] []),
 J 12 (.bp 15 (.t 1)),
 N (.store 2 (.t 12) (.t 11))] 3)
.skip))
(.seq
(.seq
(F [M 13 3,
 J 14 (.bin .and (.t 13) (.k (b8 2))),
 J 15 (.bin .eql (.t 14) (.k (b8 0)))] 3)
(.cond (.t 15)
(F [J 16 (.bp 17 (.t 1)),
 N (.store 1 (.t 16) (.k (aJ 0))),
 J 17 (.bp 18 (.t 1)),
 N (.store 1 (.t 17) (.k (b8 0))),
 J 18 (.bp 19 (.t 1)),
 N (.store 1 (.t 18) (.k (b8 0))),
 J 19 (.bp 20 (.t 1)),
 N (.store 1 (.t 19) (.k (b_ 0)))] 8)
.skip))
(.seq
(.seq
(F [M 20 3,
 J 21 (.bin .and (.t 20) (.k (b8 4))),
 J 22 (.bin .eql (.t 21) (.k (b8 0)))] 3)
(.cond (.t 22)
(F [J 23 (.ec [b8 0,aJ 0] []),
 J 24 (.bp 21 (.t 1)),
 N (.store 2 (.t 24) (.t 23))] 3)
.skip))
(.seq
(.seq
(F [M 25 3,
 J 26 (.bin .and (.t 25) (.k (b8 8))),
 J 27 (.bin .eql (.t 26) (.k (b8 0)))] 3)
(.cond (.t 27)
(F [J 28 (.ec [b8 0,aJ 0] []),
 J 29 (.bp 23 (.t 1)),
 N (.store 2 (.t 29) (.t 28))] 3)
.skip))
(.seq
(.seq
(F [M 30 3,
 J 31 (.bin .and (.t 30) (.k (b8 16))),
 J 32 (.bin .eql (.t 31) (.k (b8 0)))] 3)
(.cond (.t 32)
(F [J 33 (.bp 25 (.t 1)),
 N (.store 1 (.t 33) (.k (aJ 0))),
 J 34 (.bp 27 (.t 1)),
 N (.store 1 (.t 34) (.k (aJ 0)))] 4)
.skip))
(.seq
(.seq
(F [M 35 3,
 J 36 (.bin .and (.t 35) (.k (b8 32))),
 J 37 (.bin .eql (.t 36) (.k (b8 0)))] 3)
(.cond (.t 37)
(F [J 38 (.bp 26 (.t 1)),
 N (.store 1 (.t 38) (.k (aJ 0)))] 2)
.skip))
(.seq
(.seq
(F [M 39 3,
 J 40 (.bin .and (.t 39) (.k (b8 64))),
 J 41 (.bin .eql (.t 40) (.k (b8 0)))] 3)
(.cond (.t 41)
(F [J 42 (.bp 28 (.t 1)),
 N (.store 1 (.t 42) (.k (.d .aY)))] 2)
.skip))
(.seq
(F [J 43 (.load (some 29) (.t 1)),
 N (.store 29 (.t 2) (.t 43))] 2)
.ret))))))))))
def rv:List RV:=[.cell 2 (some 29)]
theorem enter:En Tryz.prog 41 44 s rv:=En.mk (c:= Tryz.f41.body.getD .ret) Tryz.func41 rfl (by kernel_rfl) (by kernel_rfl) (by kernel_rfl) (by kernel_rfl)
end op_bare
namespace op_right
abbrev f:Nat:=42
def s:cr:=(.seq
(F [J 1 (.box 51 (.t 0)),
 J 2 (.mv (B false))] 2)
(.seq
(F [J 6 (.bp 14 (.t 1)),
 J 7 (.load none (.t 6)),
 J 8 (.kR 9 1 (.k (.vp [(.int .u8 0),(.int .u8 3),(.int .u8 5),(.int .u8 49),(.int .u8 37),(.int .u8 5),(.int .u8 13),(.int .u8 13),(.int .u8 65)] 0)) (.t 7)),
 J 9 (.load none (.t 8)),
 J 3 (.alloc 5 [b8 0]),
 N (.store 1 (.t 3) (.t 9))] 6)
(.seq
(F [J 10 (.yt (.func 62) [] [(.t 3)]),
 M 4 10] 2)
(.seq
(F (J 11 (.bp 14 (.t 1))::
 J 12 (.load none (.t 11))::
 J 13 (.bin .eql (.t 12) (.k (b8 0)))::
 M 14 13::
 H 15 (.bp 12 (.t 1)) 14 true::
 H 16 (.load (some 2) (.t 15)) 14 true::
 H 17 (.bp 0 (.t 1)) 14 true::
 H 18 (.load (some 2) (.t 17)) 14 true::
 H 19 (.eqv false [true,true] (.t 16) (.t 18)) 14 true::
 J 20 (.pick (.t 14) (.t 19) (B false))::
 M 21 20::
 H 22 (.bp 14 (.t 1)) 21 false::
 H 23 (.load none (.t 22)) 21 false::
 H 24 (.bin .neq (.t 23) (.k (b8 0))) 21 false::
 G 25 24 21 false::
 H 26 (.load (some 29) (.t 1)) 25 true::
 H 27 (.bp 12 (.t 1)) 25 true::
 H 28 (.load (some 2) (.t 27)) 25 true::
 H 29 (.call (C 63) [(.t 26),(.t 28)]) 25 true::
 H 30 (.pick (.t 25) (.t 29) (B false)) 21 false::
 J 31 (.pick (.t 21) (B true) (.t 30))::
 M 5 31::[]) 22)
(.seq
(F (M 32 5::
 M 33 32::
 G 34 4 33 true::
 H 35 (.load (some 29) (.t 1)) 33 true::
 H 36 (.bp 15 (.t 1)) 33 true::
 H 37 (.load (some 2) (.t 36)) 33 true::
 H 38 (.call (C 63) [(.t 35),(.t 37)]) 33 true::
 H 39 (.call (.t 34) [(.k (b8 1)),(.t 38)]) 33 true::
 J 40 (.pick (.t 33) (.t 39) (B false))::
 M 41 40::
 G 42 4 41 true::
 H 43 (.load (some 29) (.t 1)) 41 true::
 H 44 (.bp 21 (.t 1)) 41 true::
 H 45 (.load (some 2) (.t 44)) 41 true::
 H 46 (.call (C 63) [(.t 43),(.t 45)]) 41 true::
 H 47 (.call (.t 42) [(.k (b8 4)),(.t 46)]) 41 true::
 J 48 (.pick (.t 41) (.t 47) (B false))::
 M 49 48::
 G 50 4 49 true::
 H 51 (.load (some 29) (.t 1)) 49 true::
 H 52 (.bp 23 (.t 1)) 49 true::
 H 53 (.load (some 2) (.t 52)) 49 true::
 H 54 (.call (C 63) [(.t 51),(.t 53)]) 49 true::
 H 55 (.call (.t 50) [(.k (b8 8)),(.t 54)]) 49 true::
 J 56 (.pick (.t 49) (.t 55) (B false))::
 M 57 56::
 G 58 4 57 true::
 H 59 (.bp 17 (.t 1)) 57 true::
 H 60 (.load none (.t 59)) 57 true::
 H 61 (.bin .gtr (.t 60) (.k (aJ 0))) 57 true::
 G 62 61 57 true::
 H 63 (.bp 18 (.t 1)) 62 true::
 H 64 (.load none (.t 63)) 62 true::
 H 65 (.bin .gtr (.t 64) (.k (b8 0))) 62 true::
 H 66 (.pick (.t 62) (.t 65) (B false)) 57 true::
 G 67 66 57 true::
 H 68 (.bp 18 (.t 1)) 67 true::
 H 69 (.load none (.t 68)) 67 true::
 H 70 (.bin .leq (.t 69) (.k (b8 7))) 67 true::
 H 71 (.pick (.t 67) (.t 70) (B false)) 57 true::
 G 72 71 57 true::
 H 73 (.bp 19 (.t 1)) 72 true::
 H 74 (.load none (.t 73)) 72 true::
 H 75 (.bin .lss (.t 74) (.k (b8 8))) 72 true::
 H 76 (.pick (.t 72) (.t 75) (B false)) 57 true::
 G 77 76 57 true::
 H 78 (.bp 20 (.t 1)) 77 true::
 H 79 (.load none (.t 78)) 77 true::
 H 80 (.bin .leq (.t 79) (.k (b_ 1099511627776))) 77 true::
 H 81 (.pick (.t 77) (.t 80) (B false)) 57 true::
 H 82 (.call (.t 58) [(.k (b8 2)),(.t 81)]) 57 true::
 J 83 (.pick (.t 57) (.t 82) (B false))::
 M 84 83::
 G 85 4 84 true::
 H 86 (.bp 26 (.t 1)) 84 true::
 H 87 (.load none (.t 86)) 84 true::
 H 88 (.bin .gtr (.t 87) (.k (aJ 0))) 84 true::
 G 89 88 84 true::
 H 90 (.bp 26 (.t 1)) 89 true::
 H 91 (.load none (.t 90)) 89 true::
 H 92 (.bin .leq (.t 91) (.k (aJ 65535))) 89 true::
 H 93 (.pick (.t 89) (.t 92) (B false)) 84 true::
 H 94 (.call (.t 85) [(.k (b8 32)),(.t 93)]) 84 true::
 J 95 (.pick (.t 84) (.t 94) (B false))::
 M 96 95::
 H 97 (.bp 27 (.t 1)) 96 true::
 H 98 (.load none (.t 97)) 96 true::
 H 99 (.bin .leq (.t 98) (.k (aJ 16777215))) 96 true::
 J 100 (.pick (.t 96) (.t 99) (B false))::
 M 101 100::
 G 102 4 101 true::
 H 103 (.load (some 29) (.t 1)) 101 true::
 H 104 (.call (C 64) [(.t 103)]) 101 true::
 H 105 (.call (.t 102) [(.k (b8 64)),(.t 104)]) 101 true::
 J 106 (.pick (.t 101) (.t 105) (B false))::
 M 2 106::[]) 76)
.ret)))))
def rv:List RV:=[.tmp 2]
theorem enter:En Tryz.prog 42 107 s rv:=En.mk (c:= Tryz.f42.body.getD .ret) Tryz.func42 rfl (by kernel_rfl) (by kernel_rfl) (by kernel_rfl) (by kernel_rfl)
end op_right
namespace vector_Above
abbrev f:Nat:=43
def s:cr:=(.seq
(F [J 2 (.box 34 (.t 0)),
 J 3 (.box 34 (.t 1)),
 J 4 (.mv (B false))] 3)
(.seq
(.c7 [J 5 (.load (some 8) (.t 2)),
 J 6 (.load (some 8) (.t 3)),
 J 7 (.nV 34 8 2 [aJ 0,aJ 0,aJ 0,aJ 0,aJ 0,aJ 0,aJ 0,aJ 0,aJ 0,aJ 0,aJ 0,aJ 0,aJ 0,aJ 0,aJ 0,aJ 0] [(0,8,(.t 5)),(8,8,(.t 6))]),
 J 8 (.call (C 65) [(.t 7)]),
 J 9 (.load (some 8) (.t 2)),
 J 10 (.eqv false [true,true,true,true,true,true,true,true] (.t 8) (.t 9)),
 M 4 10] [0,
0,
3,
7,
0,
31,
63] true)
.ret))
def rv:List RV:=[.tmp 4]
theorem enter:En Tryz.prog 43 11 s rv:=En.mk (c:= Tryz.f43.body.getD .ret) Tryz.func43 rfl (by kernel_rfl) (by kernel_rfl) (by kernel_rfl) (by kernel_rfl)
end vector_Above
namespace order_index_fits_1
abbrev f:Nat:=44
def s:cr:=(.seq
(F [J 2 (.box 51 (.t 0)),
 J 3 (.mv (B false))] 2)
(.seq
(F (J 4 (.load (some 29) (.t 2))::
 J 5 (.load (some 29) (.t 1))::
 J 6 (.call (C 45) [(.t 4),(.t 5)])::
 M 7 6::
 H 8 (.bp 10 (.t 2)) 7 true::
 H 9 (.load none (.t 8)) 7 true::
 H 10 (.bp 10 (.t 1)) 7 true::
 H 11 (.load none (.t 10)) 7 true::
 H 12 (.bin .geq (.t 9) (.t 11)) 7 true::
 G 13 12 7 true::
 H 14 (.bp 2 (.t 1)) 13 false::
 H 15 (.load (some 8) (.t 14)) 13 false::
 H 16 (.bp 2 (.t 2)) 13 false::
 H 17 (.load (some 8) (.t 16)) 13 false::
 H 18 (.call (C 43) [(.t 15),(.t 17)]) 13 false::
 H 19 (.not (.t 18)) 13 false::
 H 20 (.pick (.t 13) (B true) (.t 19)) 7 true::
 J 21 (.pick (.t 7) (.t 20) (B false))::
 M 3 21::[]) 19)
.ret))
def rv:List RV:=[.tmp 3]
theorem enter:En Tryz.prog 44 22 s rv:=En.mk (c:= Tryz.f44.body.getD .ret) Tryz.func44 rfl (by kernel_rfl) (by kernel_rfl) (by kernel_rfl) (by kernel_rfl)
end order_index_fits_1
namespace order_Before
abbrev f:Nat:=45
def s:cr:=(.seq
(F [J 2 (.box 51 (.t 0)),
 J 3 (.box 51 (.t 1)),
 J 4 (.mv (B false))] 3)
(.seq
(F [J 5 (.bp 2 (.t 3)),
 J 6 (.load (some 8) (.t 5)),
 J 7 (.bp 0 (.t 2)),
 J 8 (.load (some 2) (.t 7)),
 J 9 (.call (C 30) [(.t 6),(.t 8)]),
 M 4 9] 6)
.ret))
def rv:List RV:=[.tmp 4]
theorem enter:En Tryz.prog 45 10 s rv:=En.mk (c:= Tryz.f45.body.getD .ret) Tryz.func45 rfl (by kernel_rfl) (by kernel_rfl) (by kernel_rfl) (by kernel_rfl)
end order_Before
namespace slices_Collect_api_Op
abbrev f:Nat:=46
def s:cr:=(.seq
(F [J 2 (.mv (.k (.d .aY)))] 1)
(.seq
(F [M 3 0,
 J 4 (.call (C 66) [(.k (.d .aY)),(.t 3)]),
 M 2 4] 3)
.ret))
def rv:List RV:=[.tmp 2]
theorem enter:En Tryz.prog 46 5 s rv:=En.mk (c:= Tryz.f46.body.getD .ret) Tryz.func46 rfl (by kernel_rfl) (by kernel_rfl) (by kernel_rfl) (by kernel_rfl)
end slices_Collect_api_Op
namespace slices_Collect_int
abbrev f:Nat:=47
def s:cr:=(.seq
(F [J 2 (.mv (.k (.d .aY)))] 1)
(.seq
(F [M 3 0,
 J 4 (.call (C 67) [(.k (.d .aY)),(.t 3)]),
 M 2 4] 3)
.ret))
def rv:List RV:=[.tmp 2]
theorem enter:En Tryz.prog 47 5 s rv:=En.mk (c:= Tryz.f47.body.getD .ret) Tryz.func47 rfl (by kernel_rfl) (by kernel_rfl) (by kernel_rfl) (by kernel_rfl)
end slices_Collect_int
namespace slices_SortFunc_Lint_int
abbrev f:Nat:=48
def s:cr:=(.seq
(F [M 5 0,
 J 6 (.len (.t 5)),
 M 4 6] 3)
(F [M 7 0,
 M 8 4,
 M 9 4,
 J 10 (.conv .u64 (.t 9)),
 J 11 (.call (C 69) [(.t 10)]),
 M 12 1,
 J 13 (.call (C 68) [(.t 7),(Z 0),(.t 8),(.t 11),(.t 12)])] 7))
def rv:List RV:=[]
theorem enter:En Tryz.prog 48 14 s rv:=En.mk (c:= Tryz.f48.body.getD .ret) Tryz.func48 rfl (by kernel_rfl) (by kernel_rfl) (by kernel_rfl) (by kernel_rfl)
end slices_SortFunc_Lint_int
namespace order_index_once_1
abbrev f:Nat:=49
def s:cr:=(.seq
(F [J 5 (.bp 0 (.t 1)),
 J 6 (.load none (.t 5)),
 J 7 (.len (.t 6)),
 J 8 (.mv (Z 0))] 4)
(.block 0
(.loop
(.seq
(F [J 9 (.bin .lss (.t 8) (.t 7))] 1)
(.seq
(.cond (.t 9)
.skip
(.exit 0))
(.seq
(.block 1
(.seq
(F [M 10 8,
 J 11 (.aW 29 (.t 6) (.t 8)),
 J 12 (.load (some 29) (.t 11)),
 J 4 (.alloc 51 cn),
 M 3 10,
 N (.store 29 (.t 4) (.t 12))] 6)
(.seq
(F [J 13 (.bp 1 (.t 1)),
 J 14 (.load none (.t 13)),
 J 15 (.bp 0 (.t 4)),
 J 16 (.load (some 2) (.t 15)),
 J 17 (.look [true,true] true (i6 0) (.t 14) (.t 16) false),
 M 18 3,
 J 19 (.bin .eql (.t 17) (.t 18)),
 M 20 19,
 G 21 0 20 true,
 G 22 3 20 true,
 H 23 (.call (.t 21) [(.t 22)]) 20 true,
 H 24 (.not (.t 23)) 20 true,
 J 25 (.pick (.t 20) (.t 24) (B false))] 13)
(.cond (.t 25)
.ret
.skip))))
(F [J 26 (.bin .add (.t 8) (Z 1)),
 M 8 26] 2)))))))
def rv:List RV:=[]
theorem enter:En Tryz.prog 49 27 s rv:=En.mk (c:= Tryz.f49.body.getD .ret) Tryz.func49 rfl (by kernel_rfl) (by kernel_rfl) (by kernel_rfl) (by kernel_rfl)
end order_index_once_1
namespace order_Compare
abbrev f:Nat:=50
def s:cr:=(.seq
(F [J 2 (.box 51 (.t 0)),
 J 3 (.box 51 (.t 1)),
 J 4 (.mv (Z 0))] 3)
(.seq
(.c7 (J 5 (.bp 10 (.t 2))::
 J 6 (.load none (.t 5))::
 J 7 (.bp 10 (.t 3))::
 J 8 (.load none (.t 7))::
 J 9 (.call (C 71) [(.t 6),(.t 8)])::
 J 10 (.bp 0 (.t 2))::
 J 11 (.bp 0 (.t 10))::
 J 12 (.load none (.t 11))::
 J 13 (.bp 0 (.t 3))::
 J 14 (.bp 0 (.t 13))::
 J 15 (.load none (.t 14))::
 J 16 (.call (C 72) [(.t 12),(.t 15)])::
 J 17 (.bp 0 (.t 2))::
 J 18 (.bp 1 (.t 17))::
 J 19 (.load none (.t 18))::
 J 20 (.bp 0 (.t 3))::
 J 21 (.bp 1 (.t 20))::
 J 22 (.load none (.t 21))::
 J 23 (.call (C 73) [(.t 19),(.t 22)])::
 J 24 (.nV 3 1 3 [i6 0,i6 0,i6 0] [(0,1,(.t 9)),(1,1,(.t 16)),(2,1,(.t 23))])::
 J 25 (.call (C 70) [(.t 24)])::
 M 4 25::[]) (0::
1::
0::
4::
15::
0::
32::
96::
0::
256::
768::
2047::
0::
4096::
12288::
0::
32768::
98304::
262143::
524287::
1048575::
2097151::[]) true)
.ret))
def rv:List RV:=[.tmp 4]
theorem enter:En Tryz.prog 50 26 s rv:=En.mk (c:= Tryz.f50.body.getD .ret) Tryz.func50 rfl (by kernel_rfl) (by kernel_rfl) (by kernel_rfl) (by kernel_rfl)
end order_Compare
namespace slices_IndexFunc_Luint32_uint32
abbrev f:Nat:=51
def s:cr:=(.seq
(F [J 4 (.mv (Z 0))] 1)
(.seq
(.seq
(F [M 6 0,
 J 7 (.len (.t 6)),
 J 8 (.mv (Z 0))] 3)
(.block 0
(.loop
(.seq
(F [J 9 (.bin .lss (.t 8) (.t 7))] 1)
(.seq
(.cond (.t 9)
.skip
(.exit 0))
(.seq
(.block 1
(.seq
(F [M 10 8,
 M 5 10] 2)
(.seq
(F [M 11 1,
 M 12 0,
 M 13 5,
 J 14 (.aW 1 (.t 12) (.t 13)),
 J 15 (.load none (.t 14)),
 J 16 (.call (.t 11) [(.t 15)])] 6)
(.cond (.t 16)
(.seq
(F [M 17 5,
 M 4 17] 2)
.ret)
.skip))))
(F [J 18 (.bin .add (.t 8) (Z 1)),
 M 8 18] 2)))))))
(.seq
(F [J 4 (.mv (.k (.d (.int .i64 (-1)))))] 1)
.ret)))
def rv:List RV:=[.tmp 4]
theorem enter:En Tryz.prog 51 19 s rv:=En.mk (c:= Tryz.f51.body.getD .ret) Tryz.func51 rfl (by kernel_rfl) (by kernel_rfl) (by kernel_rfl) (by kernel_rfl)
end slices_IndexFunc_Luint32_uint32
namespace dot_May
abbrev f:Nat:=52
def s:cr:=(.seq
(F [J 1 (.box 47 (.t 0)),
 J 2 (.mv (B false))] 2)
(.seq
(F [J 3 (.bp 0 (.t 1)),
 J 4 (.load none (.t 3)),
 J 5 (.bin .lss (.t 4) (.k (b8 8))),
 M 6 5,
 H 7 (.bp 1 (.t 1)) 6 true,
 H 8 (.load none (.t 7)) 6 true,
 H 9 (.bin .gtr (.t 8) (.k (aJ 0))) 6 true,
 J 10 (.pick (.t 6) (.t 9) (B false)),
 M 2 10] 9)
.ret))
def rv:List RV:=[.tmp 2]
theorem enter:En Tryz.prog 52 11 s rv:=En.mk (c:= Tryz.f52.body.getD .ret) Tryz.func52 rfl (by kernel_rfl) (by kernel_rfl) (by kernel_rfl) (by kernel_rfl)
end dot_May
namespace slices_Clone_Lapi_Claim_api_Claim
abbrev f:Nat:=53
def s:cr:=(.seq
(F [J 2 (.mv (.k (.d .aY)))] 1)
(.seq
(.seq
(F [M 3 0,
 J 4 (.me false 3 (.t 3))] 2)
(.cond (.t 4)
(.seq
(F [J 2 (.mv (.k (.d .aY)))] 1)
.ret)
.skip))
(.seq
(F [J 5 (.nV 97 4 0 [] []),
 M 6 0,
 J 7 (.app 97 4 16 (.t 5) (.t 6)),
 M 2 7] 4)
.ret)))
def rv:List RV:=[.tmp 2]
theorem enter:En Tryz.prog 53 8 s rv:=En.mk (c:= Tryz.f53.body.getD .ret) Tryz.func53 rfl (by kernel_rfl) (by kernel_rfl) (by kernel_rfl) (by kernel_rfl)
end slices_Clone_Lapi_Claim_api_Claim
namespace slices_SortedFunc_api_Op
abbrev f:Nat:=54
def s:cr:=(.seq
(F [J 4 (.mv (.k (.d .aY)))] 1)
(.seq
(F [M 6 0,
 J 7 (.call (C 46) [(.t 6)]),
 M 5 7] 3)
(.seq
(F [M 8 5,
 M 9 1,
 J 10 (.call (C 59) [(.t 8),(.t 9)])] 3)
(.seq
(F [M 11 5,
 M 4 11] 2)
.ret))))
def rv:List RV:=[.tmp 4]
theorem enter:En Tryz.prog 54 12 s rv:=En.mk (c:= Tryz.f54.body.getD .ret) Tryz.func54 rfl (by kernel_rfl) (by kernel_rfl) (by kernel_rfl) (by kernel_rfl)
end slices_SortedFunc_api_Op
namespace maps_Values_map_api_Dot_api_Op_api_Dot_api_Op
abbrev f:Nat:=55
def s:cr:=(.seq
(F [J 1 (.box 70 (.t 0)),
 J 2 (.mv (.k (.d .uq)))] 2)
(.seq
(F [J 3 (.yt (.func 74) [] [(.t 1)]),
 M 2 3] 2)
.ret))
def rv:List RV:=[.tmp 2]
theorem enter:En Tryz.prog 55 4 s rv:=En.mk (c:= Tryz.f55.body.getD .ret) Tryz.func55 rfl (by kernel_rfl) (by kernel_rfl) (by kernel_rfl) (by kernel_rfl)
end maps_Values_map_api_Dot_api_Op_api_Dot_api_Op
namespace vector_Next
abbrev f:Nat:=56
def s:cr:=(.seq
(F [J 2 (.box 34 (.t 0)),
 J 4 (.alloc 47 [b8 0,aJ 0]),
 J 5 (.mv (Z 0))] 3)
(.seq
(.block 0
(.seq
(F [M 7 1,
 J 8 (.conv .i64 (.t 7)),
 J 9 (.bin .geq (.t 8) (Z 8)),
 M 6 9] 4)
(.cond (.t 6)
(.seq
(F [J 10 (.ec [b8 0,aJ 0] []),
 N (.store 2 (.t 4) (.t 10)),
 J 5 (.mv (Z 2))] 3)
.ret)
(.seq
(F [M 12 1,
 J 13 (.kR 8 1 (.t 2) (.t 12)),
 J 14 (.load none (.t 13)),
 J 15 (.bin .add (.t 14) (.k (aJ 1))),
 J 16 (.bin .eql (.t 15) (.k (aJ 0))),
 M 11 16] 6)
(.cond (.t 11)
(.seq
(F [J 17 (.ec [b8 0,aJ 0] []),
 N (.store 2 (.t 4) (.t 17)),
 J 5 (.mv (Z 6))] 3)
.ret)
.skip)))))
(.seq
(F [M 18 1,
 M 19 1,
 J 20 (.kR 8 1 (.t 2) (.t 19)),
 J 21 (.load none (.t 20)),
 J 22 (.bin .add (.t 21) (.k (aJ 1))),
 J 23 (.ec [b8 0,aJ 0] [(0,1,(.t 18)),(1,1,(.t 22))]),
 N (.store 2 (.t 4) (.t 23)),
 J 5 (.mv (Z 0))] 8)
.ret)))
def rv:List RV:=[.cell 4 (some 2),.tmp 5]
theorem enter:En Tryz.prog 56 24 s rv:=En.mk (c:= Tryz.f56.body.getD .ret) Tryz.func56 rfl (by kernel_rfl) (by kernel_rfl) (by kernel_rfl) (by kernel_rfl)
end vector_Next
namespace frame_May
abbrev f:Nat:=57
def s:cr:=(.seq
(F [J 1 (.box 39 (.t 0)),
 J 2 (.mv (B false))] 2)
(.seq
(F [J 4 (.bp 11 (.t 1)),
 J 5 (.load none (.t 4)),
 J 6 (.call (C 28) [(.t 5),(C 75)]),
 M 3 6] 4)
(.seq
(F (J 7 (.bp 0 (.t 1))::
 J 8 (.load none (.t 7))::
 J 9 (.bin .leq (.t 8) (.k (b8 1)))::
 J 10 (.bp 1 (.t 1))::
 J 11 (.load none (.t 10))::
 J 12 (.bp 2 (.t 1))::
 J 13 (.load none (.t 12))::
 J 14 (.mx (.t 11) (.t 13))::
 J 15 (.bin .lss (.t 14) (.k (b8 8)))::
 J 16 (.bp 1 (.t 1))::
 J 17 (.load none (.t 16))::
 J 18 (.bp 2 (.t 1))::
 J 19 (.load none (.t 18))::
 J 20 (.bin .neq (.t 17) (.t 19))::
 J 21 (.bp 0 (.t 1))::
 J 22 (.load none (.t 21))::
 J 23 (.bin .eql (.t 22) (.k (b8 1)))::
 M 24 23::
 H 25 (.bp 11 (.t 1)) 24 false::
 H 26 (.load none (.t 25)) 24 false::
 H 27 (.len (.t 26)) 24 false::
 H 28 (.bin .eql (.t 27) (Z 0)) 24 false::
 J 29 (.pick (.t 24) (B true) (.t 28))::
 J 30 (.bp 11 (.t 1))::
 J 31 (.load none (.t 30))::
 J 32 (.len (.t 31))::
 J 33 (.bin .leq (.t 32) (Z 64))::
 M 34 3::
 J 35 (.not (.t 34))::
 J 36 (.nV 4 1 6 [(.d (.bool false)),(.d (.bool false)),(.d (.bool false)),(.d (.bool false)),(.d (.bool false)),(.d (.bool false))] [(0,1,(.t 9)),(1,1,(.t 15)),(2,1,(.t 20)),(3,1,(.t 29)),(4,1,(.t 33)),(5,1,(.t 35))])::
 J 37 (.call (C 76) [(.t 36)])::
 M 2 37::[]) 32)
.ret)))
def rv:List RV:=[.tmp 2]
theorem enter:En Tryz.prog 57 38 s rv:=En.mk (c:= Tryz.f57.body.getD .ret) Tryz.func57 rfl (by kernel_rfl) (by kernel_rfl) (by kernel_rfl) (by kernel_rfl)
end frame_May
namespace gossip_lacked_1
abbrev f:Nat:=58
def s:cr:=(.seq
(F [J 11 (.ED),
 M 4 11] 2)
(.seq
(F [J 5 (.mv (.k (.d .aY)))] 1)
(.seq
(.seq
(F [J 12 (.load none (.t 1)),
 J 13 (.len (.t 12)),
 J 14 (.mv (Z 0))] 3)
(.block 0
(.loop
(.seq
(F [J 15 (.bin .lss (.t 14) (.t 13))] 1)
(.seq
(.cond (.t 15)
.skip
(.exit 0))
(.seq
(.block 1
(.seq
(F [J 16 (.aW 29 (.t 12) (.t 14)),
 J 17 (.load (some 29) (.t 16)),
 J 7 (.alloc 51 cn),
 N (.store 29 (.t 7) (.t 17))] 4)
(.seq
(F [J 18 (.bp 0 (.t 7)),
 J 19 (.bp 0 (.t 18)),
 J 20 (.load none (.t 19)),
 J 21 (.conv .u32 (.t 20)),
 J 22 (.bp 0 (.t 7)),
 J 23 (.bp 1 (.t 22)),
 J 24 (.load none (.t 23)),
 J 25 (.ec [aJ 0,aJ 0] [(0,1,(.t 21)),(1,1,(.t 24))]),
 J 8 (.alloc 105 [aJ 0,aJ 0]),
 N (.store 2 (.t 8) (.t 25))] 10)
(.seq
(.seq
(F [M 26 4,
 J 27 (.load (some 2) (.t 8)),
 J 28 (.look [true,true] true (i6 0) (.t 26) (.t 27) false),
 J 29 (.bin .eql (.t 28) (Z 0)),
 M 30 29,
 H 31 (.load (some 8) (.t 2)) 30 true,
 H 32 (.bp 0 (.t 7)) 30 true,
 H 33 (.load (some 2) (.t 32)) 30 true,
 H 34 (.call (C 30) [(.t 31),(.t 33)]) 30 true,
 H 35 (.not (.t 34)) 30 true,
 J 36 (.pick (.t 30) (.t 35) (B false))] 11)
(.cond (.t 36)
(F [M 37 5,
 J 38 (.load (some 29) (.t 7)),
 J 39 (.nV 51 29 1 cn [(0,29,(.t 38))]),
 J 40 (.app 51 29 144 (.t 37) (.t 39)),
 M 5 40] 5)
.skip))
(F [M 41 4,
 J 42 (.load (some 2) (.t 8)),
 N (.ur [true,true] true (.t 41) (.t 42) (Z 1))] 3)))))
(F [J 43 (.bin .add (.t 14) (Z 1)),
 M 14 43] 2)))))))
(.seq
(F [M 44 5,
 J 45 (.call (C 59) [(.t 44),(C 50)])] 2)
(.seq
(F [M 46 5,
 J 47 (.len (.t 46)),
 J 48 (.mv (Z 0))] 3)
(.block 2
(.loop
(.seq
(F [J 49 (.bin .lss (.t 48) (.t 47))] 1)
(.seq
(.cond (.t 49)
.skip
(.exit 2))
(.seq
(.block 3
(.seq
(F [J 50 (.aW 29 (.t 46) (.t 48)),
 J 51 (.load (some 29) (.t 50)),
 J 10 (.alloc 51 cn),
 N (.store 29 (.t 10) (.t 51))] 4)
(.seq
(F [J 52 (.bp 28 (.t 10)),
 J 53 (.load none (.t 52)),
 J 54 (.call (C 53) [(.t 53)]),
 J 55 (.bp 28 (.t 10)),
 N (.store 1 (.t 55) (.t 54))] 5)
(.seq
(F [M 56 0,
 J 57 (.load (some 29) (.t 10)),
 J 58 (.call (.t 56) [(.t 57)]),
 J 59 (.not (.t 58))] 4)
(.cond (.t 59)
.ret
.skip)))))
(F [J 60 (.bin .add (.t 48) (Z 1)),
 M 48 60] 2)))))))))))
def rv:List RV:=[]
theorem enter:En Tryz.prog 58 61 s rv:=En.mk (c:= Tryz.f58.body.getD .ret) Tryz.func58 rfl (by kernel_rfl) (by kernel_rfl) (by kernel_rfl) (by kernel_rfl)
end gossip_lacked_1
namespace op_of
abbrev f:Nat:=60
def s:cr:=(.seq
(F [J 1 (.box 51 (.t 0)),
 J 2 (.alloc 108 [b8 0,aJ 0,aJ 0,aJ 0,aJ 0,aJ 0,aJ 0,aJ 0,aJ 0,aJ 0,b_ 0,aJ 0,b8 0,aJ 0,b8 0,b8 0,aJ 0,aJ 0,b8 0,b8 0,b_ 0,b8 0,aJ 0,b8 0,aJ 0,aJ 0,aJ 0,aJ 0])] 2)
(.seq
(F (J 3 (.bp 0 (.t 1))::
 J 4 (.load (some 2) (.t 3))::
 J 5 (.bp 2 (.t 1))::
 J 6 (.load (some 8) (.t 5))::
 J 7 (.bp 10 (.t 1))::
 J 8 (.load none (.t 7))::
 J 9 (.bp 11 (.t 1))::
 J 10 (.load none (.t 9))::
 J 11 (.bp 12 (.t 1))::
 J 12 (.load (some 2) (.t 11))::
 J 13 (.bp 14 (.t 1))::
 J 14 (.load none (.t 13))::
 J 15 (.bp 15 (.t 1))::
 J 16 (.load (some 2) (.t 15))::
 J 17 (.bp 17 (.t 1))::
 J 18 (.load none (.t 17))::
 J 19 (.bp 18 (.t 1))::
 J 20 (.load none (.t 19))::
 J 21 (.bp 19 (.t 1))::
 J 22 (.load none (.t 21))::
 J 23 (.bp 20 (.t 1))::
 J 24 (.load none (.t 23))::
 J 25 (.bp 21 (.t 1))::
 J 26 (.load (some 2) (.t 25))::
 J 27 (.bp 23 (.t 1))::
 J 28 (.load (some 2) (.t 27))::
 J 29 (.bp 25 (.t 1))::
 J 30 (.load none (.t 29))::
 J 31 (.bp 26 (.t 1))::
 J 32 (.load none (.t 31))::
 J 33 (.bp 27 (.t 1))::
 J 34 (.load none (.t 33))::
 J 35 (.ec [b8 0,aJ 0,aJ 0,aJ 0,aJ 0,aJ 0,aJ 0,aJ 0,aJ 0,aJ 0,b_ 0,aJ 0,b8 0,aJ 0,b8 0,b8 0,aJ 0,aJ 0,b8 0,b8 0,b_ 0,b8 0,aJ 0,b8 0,aJ 0,aJ 0,aJ 0,aJ 0] [(0,2,(.t 4)),(2,8,(.t 6)),(10,1,(.t 8)),(11,1,(.t 10)),(12,2,(.t 12)),(14,1,(.t 14)),(15,2,(.t 16)),(17,1,(.t 18)),(18,1,(.t 20)),(19,1,(.t 22)),(20,1,(.t 24)),(21,2,(.t 26)),(23,2,(.t 28)),(25,1,(.t 30)),(26,1,(.t 32)),(27,1,(.t 34))])::
 N (.store 28 (.t 2) (.t 35))::[]) 34)
.ret))
def rv:List RV:=[.cell 2 (some 28)]
theorem enter:En Tryz.prog 60 36 s rv:=En.mk (c:= Tryz.f60.body.getD .ret) Tryz.func60 rfl (by kernel_rfl) (by kernel_rfl) (by kernel_rfl) (by kernel_rfl)
end op_of
namespace slices_Equal_Lapi_Claim_api_Claim
abbrev f:Nat:=61
def s:cr:=(.seq
(F [J 4 (.mv (B false))] 1)
(.seq
(.seq
(F [M 6 0,
 J 7 (.len (.t 6)),
 M 8 1,
 J 9 (.len (.t 8)),
 J 10 (.bin .neq (.t 7) (.t 9))] 5)
(.cond (.t 10)
(.seq
(F [J 4 (.mv (B false))] 1)
.ret)
.skip))
(.seq
(.seq
(F [M 11 0,
 J 12 (.len (.t 11)),
 J 13 (.mv (Z 0))] 3)
(.block 0
(.loop
(.seq
(F [J 14 (.bin .lss (.t 13) (.t 12))] 1)
(.seq
(.cond (.t 14)
.skip
(.exit 0))
(.seq
(.block 1
(.seq
(F [M 15 13,
 M 5 15] 2)
(.seq
(.c7 [M 16 0,
 M 17 5,
 J 18 (.aW 4 (.t 16) (.t 17)),
 J 19 (.load (some 4) (.t 18)),
 M 20 1,
 M 21 5,
 J 22 (.aW 4 (.t 20) (.t 21)),
 J 23 (.load (some 4) (.t 22)),
 J 24 (.eqv true [true,true,true,true] (.t 19) (.t 23))] [0,
0,
3,
7,
0,
0,
48,
112,
255] true)
(.cond (.t 24)
(.seq
(F [J 4 (.mv (B false))] 1)
.ret)
.skip))))
(F [J 25 (.bin .add (.t 13) (Z 1)),
 M 13 25] 2)))))))
(.seq
(F [J 4 (.mv (B true))] 1)
.ret))))
def rv:List RV:=[.tmp 4]
theorem enter:En Tryz.prog 61 26 s rv:=En.mk (c:= Tryz.f61.body.getD .ret) Tryz.func61 rfl (by kernel_rfl) (by kernel_rfl) (by kernel_rfl) (by kernel_rfl)
end slices_Equal_Lapi_Claim_api_Claim
namespace op_right_1
abbrev f:Nat:=62
def s:cr:=(.seq
(F [J 5 (.mv (B false))] 1)
(.seq
(F [J 6 (.load none (.t 2)),
 M 7 0,
 J 8 (.bin .and (.t 6) (.t 7)),
 J 9 (.bin .eql (.t 8) (.k (b8 0))),
 M 10 9,
 G 11 1 10 false,
 J 12 (.pick (.t 10) (B true) (.t 11)),
 M 5 12] 8)
.ret))
def rv:List RV:=[.tmp 5]
theorem enter:En Tryz.prog 62 13 s rv:=En.mk (c:= Tryz.f62.body.getD .ret) Tryz.func62 rfl (by kernel_rfl) (by kernel_rfl) (by kernel_rfl) (by kernel_rfl)
end op_right_1
namespace op_Covers
abbrev f:Nat:=63
def s:cr:=(.seq
(F [J 2 (.box 51 (.t 0)),
 J 3 (.box 47 (.t 1)),
 J 4 (.mv (B false))] 3)
(.seq
(.c7 (J 5 (.bp 0 (.t 3))::
 J 6 (.load none (.t 5))::
 J 7 (.conv .i64 (.t 6))::
 J 8 (.bin .lss (.t 7) (Z 8))::
 M 9 8::
 H 10 (.bp 1 (.t 3)) 9 true::
 H 11 (.load none (.t 10)) 9 true::
 H 12 (.bin .gtr (.t 11) (.k (aJ 0))) 9 true::
 J 13 (.pick (.t 9) (.t 12) (B false))::
 M 14 13::
 H 15 (.bp 0 (.t 3)) 14 true::
 H 16 (.load none (.t 15)) 14 true::
 H 17 (.bp 2 (.t 2)) 14 true::
 H 18 (.kR 8 1 (.t 17) (.t 16)) 14 true::
 H 19 (.load none (.t 18)) 14 true::
 H 20 (.bp 1 (.t 3)) 14 true::
 H 21 (.load none (.t 20)) 14 true::
 H 22 (.bin .geq (.t 19) (.t 21)) 14 true::
 J 23 (.pick (.t 14) (.t 22) (B false))::
 M 4 23::[]) (0::
1::
3::
7::
15::
31::
63::
127::
255::
511::
1023::
2047::
1023::
8191::
16383::
1023::
33791::
131071::
262143::
524287::[]) true)
.ret))
def rv:List RV:=[.tmp 4]
theorem enter:En Tryz.prog 63 24 s rv:=En.mk (c:= Tryz.f63.body.getD .ret) Tryz.func63 rfl (by kernel_rfl) (by kernel_rfl) (by kernel_rfl) (by kernel_rfl)
end op_Covers
namespace op_claims
abbrev f:Nat:=64
def s:cr:=(.seq
(F [J 1 (.box 51 (.t 0)),
 J 2 (.mv (B false))] 2)
(.seq
(F [J 6 (.ED),
 M 3 6] 2)
(.seq
(.seq
(F [J 7 (.bp 28 (.t 1)),
 J 8 (.load none (.t 7)),
 J 9 (.len (.t 8)),
 J 10 (.mv (Z 0))] 4)
(.block 0
(.loop
(.seq
(F [J 11 (.bin .lss (.t 10) (.t 9))] 1)
(.seq
(.cond (.t 11)
.skip
(.exit 0))
(.seq
(.block 1
(.seq
(F [J 12 (.aW 4 (.t 8) (.t 10)),
 J 13 (.load (some 4) (.t 12)),
 J 5 (.alloc 97 [b8 0,aJ 0,b8 0,aJ 0]),
 N (.store 4 (.t 5) (.t 13))] 4)
(.seq
(.seq
(F (M 14 3::
 J 15 (.bp 0 (.t 5))::
 J 16 (.load (some 2) (.t 15))::
 J 17 (.look [true,true] true (i6 0) (.t 14) (.t 16) false)::
 J 18 (.bin .gtr (.t 17) (Z 0))::
 M 19 18::
 H 20 (.load (some 29) (.t 1)) 19 false::
 H 21 (.bp 0 (.t 5)) 19 false::
 H 22 (.load (some 2) (.t 21)) 19 false::
 H 23 (.call (C 63) [(.t 20),(.t 22)]) 19 false::
 H 24 (.not (.t 23)) 19 false::
 J 25 (.pick (.t 19) (B true) (.t 24))::
 M 26 25::
 H 27 (.load (some 29) (.t 1)) 26 false::
 H 28 (.bp 2 (.t 5)) 26 false::
 H 29 (.load (some 2) (.t 28)) 26 false::
 H 30 (.call (C 63) [(.t 27),(.t 29)]) 26 false::
 H 31 (.not (.t 30)) 26 false::
 J 32 (.pick (.t 26) (B true) (.t 31))::[]) 19)
(.cond (.t 32)
(.seq
(F [J 2 (.mv (B false))] 1)
.ret)
.skip))
(F [M 33 3,
 J 34 (.bp 0 (.t 5)),
 J 35 (.load (some 2) (.t 34)),
 N (.ur [true,true] true (.t 33) (.t 35) (Z 1))] 4))))
(F [J 36 (.bin .add (.t 10) (Z 1)),
 M 10 36] 2)))))))
(.seq
(F [M 37 3,
 J 38 (.yu (.t 37)),
 J 39 (.bin .gtr (.t 38) (Z 0)),
 M 40 39,
 G 41 3 40 true,
 H 42 (.yu (.t 41)) 40 true,
 H 43 (.bin .leq (.t 42) (Z 16)) 40 true,
 J 44 (.pick (.t 40) (.t 43) (B false)),
 M 2 44] 9)
.ret))))
def rv:List RV:=[.tmp 2]
theorem enter:En Tryz.prog 64 45 s rv:=En.mk (c:= Tryz.f64.body.getD .ret) Tryz.func64 rfl (by kernel_rfl) (by kernel_rfl) (by kernel_rfl) (by kernel_rfl)
end op_claims
namespace vector_Merge
abbrev f:Nat:=65
def s:cr:=(.seq
(F [J 2 (.alloc 34 z8)] 1)
(.seq
(F [J 3 (.call (C 79) [(C 80)]),
 M 4 0,
 J 5 (.call (C 78) [(.t 3),(.t 4)]),
 N (.store 8 (.t 2) (.t 5))] 4)
.ret))
def rv:List RV:=[.cell 2 (some 8)]
theorem enter:En Tryz.prog 65 6 s rv:=En.mk (c:= Tryz.f65.body.getD .ret) Tryz.func65 rfl (by kernel_rfl) (by kernel_rfl) (by kernel_rfl) (by kernel_rfl)
end vector_Merge
namespace slices_AppendSeq_Lapi_Op_api_Op
abbrev f:Nat:=66
def s:cr:=(.seq
(F [J 2 (.box 22 (.t 0)),
 J 4 (.mv (.k (.d .aY)))] 2)
(.seq
(.seq
(F [M 6 1] 1)
(.block 0
(.qn (.t 6) [7]
(F [J 5 (.alloc 51 cn),
 N (.store 29 (.t 5) (.t 7))] 2)
(.block 1
(F [J 8 (.load none (.t 2)),
 J 9 (.load (some 29) (.t 5)),
 J 10 (.nV 51 29 1 cn [(0,29,(.t 9))]),
 J 11 (.app 51 29 144 (.t 8) (.t 10)),
 N (.store 1 (.t 2) (.t 11))] 5)))))
(.seq
(F [J 12 (.load none (.t 2)),
 M 4 12] 2)
.ret)))
def rv:List RV:=[.tmp 4]
theorem enter:En Tryz.prog 66 13 s rv:=En.mk (c:= Tryz.f66.body.getD .ret) Tryz.func66 rfl (by kernel_rfl) (by kernel_rfl) (by kernel_rfl) (by kernel_rfl)
end slices_AppendSeq_Lapi_Op_api_Op
namespace slices_AppendSeq_Lint_int
abbrev f:Nat:=67
def s:cr:=(.seq
(F [J 2 (.box 62 (.t 0)),
 J 4 (.mv (.k (.d .aY)))] 2)
(.seq
(.seq
(F [M 6 1] 1)
(.block 0
(.qn (.t 6) [7]
(F [M 5 7] 1)
(.block 1
(F [J 8 (.load none (.t 2)),
 M 9 5,
 J 10 (.nV 3 1 1 [i6 0] [(0,1,(.t 9))]),
 J 11 (.app 3 1 8 (.t 8) (.t 10)),
 N (.store 1 (.t 2) (.t 11))] 5)))))
(.seq
(F [J 12 (.load none (.t 2)),
 M 4 12] 2)
.ret)))
def rv:List RV:=[.tmp 4]
theorem enter:En Tryz.prog 67 13 s rv:=En.mk (c:= Tryz.f67.body.getD .ret) Tryz.func67 rfl (by kernel_rfl) (by kernel_rfl) (by kernel_rfl) (by kernel_rfl)
end slices_AppendSeq_Lint_int
namespace slices_pdqsortCmpFunc_int
abbrev f:Nat:=68
def s:cr:=(.seq
(F [J 10 (.mv (B true))] 1)
(.seq
(F [J 11 (.mv (B true))] 1)
(.block 0
(.loop
(.block 1
(.seq
(F [M 21 2,
 M 22 1,
 J 23 (.bin .sub (.t 21) (.t 22)),
 M 12 23] 4)
(.seq
(.seq
(F [M 24 12,
 J 25 (.bin .leq (.t 24) (Z 12))] 2)
(.cond (.t 25)
(.seq
(F [M 26 0,
 M 27 1,
 M 28 2,
 M 29 4,
 J 30 (.call (C 81) [(.t 26),(.t 27),(.t 28),(.t 29)])] 5)
.ret)
.skip))
(.seq
(.seq
(F [M 31 3,
 J 32 (.bin .eql (.t 31) (Z 0))] 2)
(.cond (.t 32)
(.seq
(F [M 33 0,
 M 34 1,
 M 35 2,
 M 36 4,
 J 37 (.call (C 82) [(.t 33),(.t 34),(.t 35),(.t 36)])] 5)
.ret)
.skip))
(.seq
(.seq
(F [M 38 10,
 J 39 (.not (.t 38))] 2)
(.cond (.t 39)
(.seq
(F [M 40 0,
 M 41 1,
 M 42 2,
 M 43 4,
 J 44 (.call (C 83) [(.t 40),(.t 41),(.t 42),(.t 43)])] 5)
(F [M 45 3,
 J 46 (.bin .sub (.t 45) (Z 1)),
 M 3 46] 3))
.skip))
(.seq
(F [M 48 0,
 M 49 1,
 M 50 2,
 M 51 4,
 J 52 (.call (C 84) [(.t 48),(.t 49),(.t 50),(.t 51)]),
 M 47 52,
 J 53 (.ext 0 (.t 47)),
 J 54 (.ext 1 (.t 47)),
 M 13 53,
 M 14 54] 10)
(.seq
(.seq
(F [M 55 14,
 J 56 (.bin .eql (.t 55) (Z 2))] 2)
(.cond (.t 56)
(.seq
(F [M 57 0,
 M 58 1,
 M 59 2,
 M 60 4,
 J 61 (.call (C 85) [(.t 57),(.t 58),(.t 59),(.t 60)])] 5)
(.seq
(F [M 62 2,
 J 63 (.bin .sub (.t 62) (Z 1)),
 M 64 13,
 M 65 1,
 J 66 (.bin .sub (.t 64) (.t 65)),
 J 67 (.bin .sub (.t 63) (.t 66)),
 M 13 67] 7)
(F [J 14 (.mv (Z 1))] 1)))
.skip))
(.seq
(.seq
(F [M 68 10,
 M 69 68,
 G 70 11 69 true,
 J 71 (.pick (.t 69) (.t 70) (B false)),
 M 72 71,
 G 73 14 72 true,
 H 74 (.bin .eql (.t 73) (Z 1)) 72 true,
 J 75 (.pick (.t 72) (.t 74) (B false))] 8)
(.cond (.t 75)
(.seq
(F [M 76 0,
 M 77 1,
 M 78 2,
 M 79 4,
 J 80 (.call (C 86) [(.t 76),(.t 77),(.t 78),(.t 79)])] 5)
(.cond (.t 80)
.ret
.skip))
.skip))
(.seq
(.seq
(.c7 (M 81 1::
 J 82 (.bin .gtr (.t 81) (Z 0))::
 M 83 82::
 G 84 4 83 true::
 G 85 0 83 true::
 G 86 1 83 true::
 H 87 (.bin .sub (.t 86) (Z 1)) 83 true::
 H 88 (.aW 1 (.t 85) (.t 87)) 83 true::
 H 89 (.load none (.t 88)) 83 true::
 G 90 0 83 true::
 G 91 13 83 true::
 H 92 (.aW 1 (.t 90) (.t 91)) 83 true::
 H 93 (.load none (.t 92)) 83 true::
 H 94 (.call (.t 84) [(.t 89),(.t 93)]) 83 true::
 H 95 (.bin .lss (.t 94) (Z 0)) 83 true::
 H 96 (.not (.t 95)) 83 true::
 J 97 (.pick (.t 83) (.t 96) (B false))::[]) (0::
1::
3::
7::
7::
7::
39::
119::
247::
7::
7::
1543::
3591::
8191::
16383::
32767::
65535::[]) true)
(.cond (.t 97)
(.seq
(F [M 98 0,
 M 99 1,
 M 100 2,
 M 101 13,
 M 102 4,
 J 103 (.call (C 87) [(.t 98),(.t 99),(.t 100),(.t 101),(.t 102)]),
 M 15 103] 7)
(.seq
(F [M 104 15,
 M 1 104] 2)
(.exit 1)))
.skip))
(.seq
(F [M 106 0,
 M 107 1,
 M 108 2,
 M 109 13,
 M 110 4,
 J 111 (.call (C 88) [(.t 106),(.t 107),(.t 108),(.t 109),(.t 110)]),
 M 105 111,
 J 112 (.ext 0 (.t 105)),
 J 113 (.ext 1 (.t 105)),
 M 16 112,
 M 17 113] 11)
(.seq
(F [M 114 17,
 M 11 114] 2)
(.seq
(F [M 115 16,
 M 116 1,
 J 117 (.bin .sub (.t 115) (.t 116)),
 M 118 2,
 M 119 16,
 J 120 (.bin .sub (.t 118) (.t 119)),
 M 18 117,
 M 19 120] 8)
(.seq
(F [M 121 12,
 J 122 (.bin .quo (.t 121) (Z 8)),
 M 20 122] 3)
(.seq
(F [M 123 18,
 M 124 19,
 J 125 (.bin .lss (.t 123) (.t 124))] 3)
(.cond (.t 125)
(.seq
(F [M 126 18,
 M 127 20,
 J 128 (.bin .geq (.t 126) (.t 127)),
 M 10 128] 4)
(.seq
(F [M 129 0,
 M 130 1,
 M 131 16,
 M 132 3,
 M 133 4,
 J 134 (.call (C 68) [(.t 129),(.t 130),(.t 131),(.t 132),(.t 133)])] 6)
(F [M 135 16,
 J 136 (.bin .add (.t 135) (Z 1)),
 M 1 136] 3)))
(.seq
(F [M 137 19,
 M 138 20,
 J 139 (.bin .geq (.t 137) (.t 138)),
 M 10 139] 4)
(.seq
(F [M 140 0,
 M 141 16,
 J 142 (.bin .add (.t 141) (Z 1)),
 M 143 2,
 M 144 3,
 M 145 4,
 J 146 (.call (C 68) [(.t 140),(.t 142),(.t 143),(.t 144),(.t 145)])] 7)
(F [M 147 16,
 M 2 147] 2))))))))))))))))))))))
def rv:List RV:=[]
theorem enter:En Tryz.prog 68 148 s rv:=En.mk (c:= Tryz.f68.body.getD .ret) Tryz.func68 rfl (by kernel_rfl) (by kernel_rfl) (by kernel_rfl) (by kernel_rfl)
end slices_pdqsortCmpFunc_int
namespace math_bits_Len
abbrev f:Nat:=69
def s:cr:=(.seq
(F [J 2 (.mv (Z 0))] 1)
(.seq
(.cond (B false)
(.seq
(F [M 3 0,
 J 4 (.conv .u32 (.t 3)),
 J 5 (.call (C 89) [(.t 4)]),
 M 2 5] 4)
.ret)
.skip)
(.seq
(F [M 6 0,
 J 7 (.call (C 90) [(.t 6)]),
 M 2 7] 3)
.ret)))
def rv:List RV:=[.tmp 2]
theorem enter:En Tryz.prog 69 8 s rv:=En.mk (c:= Tryz.f69.body.getD .ret) Tryz.func69 rfl (by kernel_rfl) (by kernel_rfl) (by kernel_rfl) (by kernel_rfl)
end math_bits_Len
namespace cmp_Or_int
abbrev f:Nat:=70
def s:cr:=(.seq
(F [J 2 (.mv (Z 0))] 1)
(.seq
(F [J 3 (.mv (Z 0))] 1)
(.seq
(.seq
(F [M 6 0,
 J 7 (.len (.t 6)),
 J 8 (.mv (Z 0))] 3)
(.block 0
(.loop
(.seq
(F [J 9 (.bin .lss (.t 8) (.t 7))] 1)
(.seq
(.cond (.t 9)
.skip
(.exit 0))
(.seq
(.block 1
(.seq
(F [J 10 (.aW 1 (.t 6) (.t 8)),
 J 11 (.load none (.t 10)),
 M 5 11] 3)
(.seq
(F [M 12 5,
 M 13 3,
 J 14 (.bin .neq (.t 12) (.t 13))] 3)
(.cond (.t 14)
(.seq
(F [M 15 5,
 M 2 15] 2)
.ret)
.skip))))
(F [J 16 (.bin .add (.t 8) (Z 1)),
 M 8 16] 2)))))))
(.seq
(F [M 17 3,
 M 2 17] 2)
.ret))))
def rv:List RV:=[.tmp 2]
theorem enter:En Tryz.prog 70 18 s rv:=En.mk (c:= Tryz.f70.body.getD .ret) Tryz.func70 rfl (by kernel_rfl) (by kernel_rfl) (by kernel_rfl) (by kernel_rfl)
end cmp_Or_int
namespace cmp_Compare_uint64
abbrev f:Nat:=71
def s:cr:=(.seq
(F [J 4 (.mv (Z 0))] 1)
(.seq
(F [M 7 0,
 J 8 (.call (C 91) [(.t 7)]),
 M 5 8] 3)
(.seq
(F [M 9 1,
 J 10 (.call (C 91) [(.t 9)]),
 M 6 10] 3)
(.seq
(.seq
(F [M 11 5] 1)
(.cond (.t 11)
(.seq
(.seq
(F [M 12 6] 1)
(.cond (.t 12)
(.seq
(F [J 4 (.mv (Z 0))] 1)
.ret)
.skip))
(.seq
(F [J 4 (.mv (.k (.d (.int .i64 (-1)))))] 1)
.ret))
.skip))
(.seq
(.seq
(F [M 13 6] 1)
(.cond (.t 13)
(.seq
(F [J 4 (.mv (Z 1))] 1)
.ret)
.skip))
(.seq
(.seq
(F [M 14 0,
 M 15 1,
 J 16 (.bin .lss (.t 14) (.t 15))] 3)
(.cond (.t 16)
(.seq
(F [J 4 (.mv (.k (.d (.int .i64 (-1)))))] 1)
.ret)
.skip))
(.seq
(.seq
(F [M 17 0,
 M 18 1,
 J 19 (.bin .gtr (.t 17) (.t 18))] 3)
(.cond (.t 19)
(.seq
(F [J 4 (.mv (Z 1))] 1)
.ret)
.skip))
(.seq
(F [J 4 (.mv (Z 0))] 1)
.ret))))))))
def rv:List RV:=[.tmp 4]
theorem enter:En Tryz.prog 71 20 s rv:=En.mk (c:= Tryz.f71.body.getD .ret) Tryz.func71 rfl (by kernel_rfl) (by kernel_rfl) (by kernel_rfl) (by kernel_rfl)
end cmp_Compare_uint64
namespace cmp_Compare_uint8
abbrev f:Nat:=72
def s:cr:=(.seq
(F [J 4 (.mv (Z 0))] 1)
(.seq
(F [M 7 0,
 J 8 (.call (C 92) [(.t 7)]),
 M 5 8] 3)
(.seq
(F [M 9 1,
 J 10 (.call (C 92) [(.t 9)]),
 M 6 10] 3)
(.seq
(.seq
(F [M 11 5] 1)
(.cond (.t 11)
(.seq
(.seq
(F [M 12 6] 1)
(.cond (.t 12)
(.seq
(F [J 4 (.mv (Z 0))] 1)
.ret)
.skip))
(.seq
(F [J 4 (.mv (.k (.d (.int .i64 (-1)))))] 1)
.ret))
.skip))
(.seq
(.seq
(F [M 13 6] 1)
(.cond (.t 13)
(.seq
(F [J 4 (.mv (Z 1))] 1)
.ret)
.skip))
(.seq
(.seq
(F [M 14 0,
 M 15 1,
 J 16 (.bin .lss (.t 14) (.t 15))] 3)
(.cond (.t 16)
(.seq
(F [J 4 (.mv (.k (.d (.int .i64 (-1)))))] 1)
.ret)
.skip))
(.seq
(.seq
(F [M 17 0,
 M 18 1,
 J 19 (.bin .gtr (.t 17) (.t 18))] 3)
(.cond (.t 19)
(.seq
(F [J 4 (.mv (Z 1))] 1)
.ret)
.skip))
(.seq
(F [J 4 (.mv (Z 0))] 1)
.ret))))))))
def rv:List RV:=[.tmp 4]
theorem enter:En Tryz.prog 72 20 s rv:=En.mk (c:= Tryz.f72.body.getD .ret) Tryz.func72 rfl (by kernel_rfl) (by kernel_rfl) (by kernel_rfl) (by kernel_rfl)
end cmp_Compare_uint8
namespace cmp_Compare_uint32
abbrev f:Nat:=73
def s:cr:=(.seq
(F [J 4 (.mv (Z 0))] 1)
(.seq
(F [M 7 0,
 J 8 (.call (C 93) [(.t 7)]),
 M 5 8] 3)
(.seq
(F [M 9 1,
 J 10 (.call (C 93) [(.t 9)]),
 M 6 10] 3)
(.seq
(.seq
(F [M 11 5] 1)
(.cond (.t 11)
(.seq
(.seq
(F [M 12 6] 1)
(.cond (.t 12)
(.seq
(F [J 4 (.mv (Z 0))] 1)
.ret)
.skip))
(.seq
(F [J 4 (.mv (.k (.d (.int .i64 (-1)))))] 1)
.ret))
.skip))
(.seq
(.seq
(F [M 13 6] 1)
(.cond (.t 13)
(.seq
(F [J 4 (.mv (Z 1))] 1)
.ret)
.skip))
(.seq
(.seq
(F [M 14 0,
 M 15 1,
 J 16 (.bin .lss (.t 14) (.t 15))] 3)
(.cond (.t 16)
(.seq
(F [J 4 (.mv (.k (.d (.int .i64 (-1)))))] 1)
.ret)
.skip))
(.seq
(.seq
(F [M 17 0,
 M 18 1,
 J 19 (.bin .gtr (.t 17) (.t 18))] 3)
(.cond (.t 19)
(.seq
(F [J 4 (.mv (Z 1))] 1)
.ret)
.skip))
(.seq
(F [J 4 (.mv (Z 0))] 1)
.ret))))))))
def rv:List RV:=[.tmp 4]
theorem enter:En Tryz.prog 73 20 s rv:=En.mk (c:= Tryz.f73.body.getD .ret) Tryz.func73 rfl (by kernel_rfl) (by kernel_rfl) (by kernel_rfl) (by kernel_rfl)
end cmp_Compare_uint32
namespace maps_Values_map_api_Dot_api_Op_api_Dot_api_Op_1
abbrev f:Nat:=74
def s:cr:=(.seq
(F [J 5 (.load none (.t 1)),
 J 6 (.p_ (.t 5))] 2)
(.block 0
(.loop
(.seq
(F [J 7 (.mg (.t 6)),
 J 8 (.ext 0 (.t 7))] 2)
(.seq
(.cond (.t 8)
.skip
(.exit 0))
(.block 1
(.seq
(F [J 9 (.tw (.t 6)),
 J 10 (.ext 1 (.t 9)),
 J 4 (.alloc 51 cn),
 N (.store 29 (.t 4) (.t 10))] 4)
(.seq
(F [M 11 0,
 J 12 (.load (some 29) (.t 4)),
 J 13 (.call (.t 11) [(.t 12)]),
 J 14 (.not (.t 13))] 4)
(.cond (.t 14)
.ret
.skip)))))))))
def rv:List RV:=[]
theorem enter:En Tryz.prog 74 15 s rv:=En.mk (c:= Tryz.f74.body.getD .ret) Tryz.func74 rfl (by kernel_rfl) (by kernel_rfl) (by kernel_rfl) (by kernel_rfl)
end maps_Values_map_api_Dot_api_Op_api_Dot_api_Op_1
namespace frame_May_1
abbrev f:Nat:=75
def s:cr:=(.seq
(F [J 1 (.box 51 (.t 0)),
 J 2 (.mv (B false))] 2)
(.seq
(F [J 3 (.bp 28 (.t 1)),
 J 4 (.load none (.t 3)),
 J 5 (.len (.t 4)),
 J 6 (.bin .gtr (.t 5) (Z 16)),
 M 2 6] 5)
.ret))
def rv:List RV:=[.tmp 2]
theorem enter:En Tryz.prog 75 7 s rv:=En.mk (c:= Tryz.f75.body.getD .ret) Tryz.func75 rfl (by kernel_rfl) (by kernel_rfl) (by kernel_rfl) (by kernel_rfl)
end frame_May_1
namespace frame_all
abbrev f:Nat:=76
def s:cr:=(.seq
(F [J 2 (.mv (B false))] 1)
(.seq
(F [M 3 0,
 J 4 (.call (C 94) [(.t 3),(B false)]),
 J 5 (.not (.t 4)),
 M 2 5] 4)
.ret))
def rv:List RV:=[.tmp 2]
theorem enter:En Tryz.prog 76 6 s rv:=En.mk (c:= Tryz.f76.body.getD .ret) Tryz.func76 rfl (by kernel_rfl) (by kernel_rfl) (by kernel_rfl) (by kernel_rfl)
end frame_all
namespace vector_all_api_Vector
abbrev f:Nat:=78
def s:cr:=(.seq
(F [J 4 (.alloc 34 z8)] 1)
(.seq
(.seq
(F [M 7 1,
 J 8 (.len (.t 7)),
 J 9 (.mv (Z 0))] 3)
(.block 0
(.loop
(.seq
(F [J 10 (.bin .lss (.t 9) (.t 8))] 1)
(.seq
(.cond (.t 10)
.skip
(.exit 0))
(.seq
(.block 1
(.seq
(F [M 11 9,
 J 12 (.aW 8 (.t 7) (.t 9)),
 J 13 (.load (some 8) (.t 12)),
 J 6 (.alloc 34 z8),
 M 5 11,
 N (.store 8 (.t 6) (.t 13))] 6)
(.seq
(F [M 14 0,
 J 15 (.load (some 8) (.t 4)),
 J 16 (.load (some 8) (.t 6)),
 J 17 (.call (.t 14) [(.t 15),(.t 16)]),
 N (.store 8 (.t 4) (.t 17))] 5)
(.seq
(F [M 18 5,
 J 19 (.bin .eql (.t 18) (Z 0))] 2)
(.cond (.t 19)
(F [J 20 (.load (some 8) (.t 6)),
 N (.store 8 (.t 4) (.t 20))] 2)
.skip)))))
(F [J 21 (.bin .add (.t 9) (Z 1)),
 M 9 21] 2)))))))
(.seq
(F [J 22 (.load (some 8) (.t 4)),
 N (.store 8 (.t 4) (.t 22))] 2)
.ret)))
def rv:List RV:=[.cell 4 (some 8)]
theorem enter:En Tryz.prog 78 23 s rv:=En.mk (c:= Tryz.f78.body.getD .ret) Tryz.func78 rfl (by kernel_rfl) (by kernel_rfl) (by kernel_rfl) (by kernel_rfl)
end vector_all_api_Vector
namespace vector_each
abbrev f:Nat:=79
def s:cr:=(.seq
(F [J 1 (.box 130 (.t 0)),
 J 2 (.mv (.k (.d .uq)))] 2)
(.seq
(F [J 3 (.yt (.func 103) [] [(.t 1)]),
 M 2 3] 2)
.ret))
def rv:List RV:=[.tmp 2]
theorem enter:En Tryz.prog 79 4 s rv:=En.mk (c:= Tryz.f79.body.getD .ret) Tryz.func79 rfl (by kernel_rfl) (by kernel_rfl) (by kernel_rfl) (by kernel_rfl)
end vector_each
namespace vector_Merge_1
abbrev f:Nat:=80
def s:cr:=(.seq
(F [J 4 (.mv (.k (aJ 0)))] 1)
(.seq
(F [M 5 0,
 M 6 1,
 J 7 (.mx (.t 5) (.t 6)),
 M 4 7] 4)
.ret))
def rv:List RV:=[.tmp 4]
theorem enter:En Tryz.prog 80 8 s rv:=En.mk (c:= Tryz.f80.body.getD .ret) Tryz.func80 rfl (by kernel_rfl) (by kernel_rfl) (by kernel_rfl) (by kernel_rfl)
end vector_Merge_1
namespace slices_insertionSortCmpFunc_int
abbrev f:Nat:=81
def s:cr:=(.seq
(F [M 10 1,
 J 11 (.bin .add (.t 10) (Z 1)),
 M 8 11] 3)
(.block 0
(.loop
(.seq
(.seq
(F [M 12 8,
 M 13 2,
 J 14 (.bin .lss (.t 12) (.t 13))] 3)
(.cond (.t 14)
.skip
(.exit 0)))
(.seq
(.block 1
(.seq
(F [M 17 8,
 M 9 17] 2)
(.block 2
(.loop
(.seq
(.seq
(.c7 (M 18 9::
 M 19 1::
 J 20 (.bin .gtr (.t 18) (.t 19))::
 M 21 20::
 G 22 3 21 true::
 G 23 0 21 true::
 G 24 9 21 true::
 H 25 (.aW 1 (.t 23) (.t 24)) 21 true::
 H 26 (.load none (.t 25)) 21 true::
 G 27 0 21 true::
 G 28 9 21 true::
 H 29 (.bin .sub (.t 28) (Z 1)) 21 true::
 H 30 (.aW 1 (.t 27) (.t 29)) 21 true::
 H 31 (.load none (.t 30)) 21 true::
 H 32 (.call (.t 22) [(.t 26),(.t 31)]) 21 true::
 H 33 (.bin .lss (.t 32) (Z 0)) 21 true::
 J 34 (.pick (.t 21) (.t 33) (B false))::[]) (0::
0::
3::
7::
15::
15::
15::
111::
239::
15::
15::
1039::
3599::
7695::
16383::
32767::
65535::[]) true)
(.cond (.t 34)
.skip
(.exit 2)))
(.seq
(.block 3
(.c7 (M 37 0::
 M 38 9::
 M 39 0::
 M 40 9::
 J 41 (.bin .sub (.t 40) (Z 1))::
 M 42 0::
 M 43 9::
 J 44 (.bin .sub (.t 43) (Z 1))::
 J 45 (.aW 1 (.t 42) (.t 44))::
 J 46 (.load none (.t 45))::
 M 47 0::
 M 48 9::
 J 49 (.aW 1 (.t 47) (.t 48))::
 J 50 (.load none (.t 49))::
 J 51 (.aW 1 (.t 37) (.t 38))::
 N (.store 1 (.t 51) (.t 46))::
 J 52 (.aW 1 (.t 39) (.t 41))::
 N (.store 1 (.t 52) (.t 50))::[]) (0::
0::
0::
0::
8::
0::
0::
64::
224::
480::
0::
0::
3072::
7168::
16355::
32739::
65535::
131071::[]) true))
(F [M 35 9,
 J 36 (.bin .sub (.t 35) (Z 1)),
 M 9 36] 3)))))))
(F [M 15 8,
 J 16 (.bin .add (.t 15) (Z 1)),
 M 8 16] 3))))))
def rv:List RV:=[]
theorem enter:En Tryz.prog 81 53 s rv:=En.mk (c:= Tryz.f81.body.getD .ret) Tryz.func81 rfl (by kernel_rfl) (by kernel_rfl) (by kernel_rfl) (by kernel_rfl)
end slices_insertionSortCmpFunc_int
namespace slices_heapSortCmpFunc_int
abbrev f:Nat:=82
def s:cr:=(.seq
(F [M 13 1,
 M 8 13] 2)
(.seq
(F [J 9 (.mv (Z 0))] 1)
(.seq
(F [M 14 2,
 M 15 1,
 J 16 (.bin .sub (.t 14) (.t 15)),
 M 10 16] 4)
(.seq
(.seq
(F [M 17 10,
 J 18 (.bin .sub (.t 17) (Z 1)),
 J 19 (.bin .quo (.t 18) (Z 2)),
 M 11 19] 4)
(.block 0
(.loop
(.seq
(.seq
(F [M 20 11,
 J 21 (.bin .geq (.t 20) (Z 0))] 2)
(.cond (.t 21)
.skip
(.exit 0)))
(.seq
(.block 1
(F [M 24 0,
 M 25 11,
 M 26 10,
 M 27 8,
 M 28 3,
 J 29 (.call (C 104) [(.t 24),(.t 25),(.t 26),(.t 27),(.t 28)])] 6))
(F [M 22 11,
 J 23 (.bin .sub (.t 22) (Z 1)),
 M 11 23] 3))))))
(.seq
(F [M 30 10,
 J 31 (.bin .sub (.t 30) (Z 1)),
 M 12 31] 3)
(.block 2
(.loop
(.seq
(.seq
(F [M 32 12,
 J 33 (.bin .geq (.t 32) (Z 0))] 2)
(.cond (.t 33)
.skip
(.exit 2)))
(.seq
(.block 3
(.seq
(.c7 (M 36 0::
 M 37 8::
 M 38 0::
 M 39 8::
 M 40 12::
 J 41 (.bin .add (.t 39) (.t 40))::
 M 42 0::
 M 43 8::
 M 44 12::
 J 45 (.bin .add (.t 43) (.t 44))::
 J 46 (.aW 1 (.t 42) (.t 45))::
 J 47 (.load none (.t 46))::
 M 48 0::
 M 49 8::
 J 50 (.aW 1 (.t 48) (.t 49))::
 J 51 (.load none (.t 50))::
 J 52 (.aW 1 (.t 36) (.t 37))::
 N (.store 1 (.t 52) (.t 47))::
 J 53 (.aW 1 (.t 38) (.t 41))::
 N (.store 1 (.t 53) (.t 51))::[]) (0::
0::
0::
0::
0::
24::
0::
0::
0::
384::
960::
1984::
0::
0::
12288::
28672::
65475::
131011::
262143::
524287::[]) true)
(F [M 54 0,
 M 55 9,
 M 56 12,
 M 57 8,
 M 58 3,
 J 59 (.call (C 104) [(.t 54),(.t 55),(.t 56),(.t 57),(.t 58)])] 6)))
(F [M 34 12,
 J 35 (.bin .sub (.t 34) (Z 1)),
 M 12 35] 3))))))))))
def rv:List RV:=[]
theorem enter:En Tryz.prog 82 60 s rv:=En.mk (c:= Tryz.f82.body.getD .ret) Tryz.func82 rfl (by kernel_rfl) (by kernel_rfl) (by kernel_rfl) (by kernel_rfl)
end slices_heapSortCmpFunc_int
namespace slices_breakPatternsCmpFunc_int
abbrev f:Nat:=83
def s:cr:=(.seq
(F [M 13 2,
 M 14 1,
 J 15 (.bin .sub (.t 13) (.t 14)),
 M 8 15] 4)
(.seq
(F [M 16 8,
 J 17 (.bin .geq (.t 16) (Z 8))] 2)
(.cond (.t 17)
(.seq
(F [M 18 8,
 J 19 (.conv .u64 (.t 18)),
 J 9 (.alloc 149 [b_ 0]),
 N (.store 1 (.t 9) (.t 19))] 4)
(.seq
(F [M 20 8,
 J 21 (.call (C 105) [(.t 20)]),
 M 10 21] 3)
(.seq
(F [M 22 1,
 M 23 8,
 J 24 (.bin .quo (.t 23) (Z 4)),
 J 25 (.bin .mul (.t 24) (Z 2)),
 J 26 (.bin .add (.t 22) (.t 25)),
 J 27 (.bin .sub (.t 26) (Z 1)),
 M 11 27] 7)
(.block 0
(.loop
(.seq
(.seq
(F [M 28 11,
 M 29 1,
 M 30 8,
 J 31 (.bin .quo (.t 30) (Z 4)),
 J 32 (.bin .mul (.t 31) (Z 2)),
 J 33 (.bin .add (.t 29) (.t 32)),
 J 34 (.bin .add (.t 33) (Z 1)),
 J 35 (.bin .leq (.t 28) (.t 34))] 8)
(.cond (.t 35)
.skip
(.exit 0)))
(.seq
(.block 1
(.seq
(F [J 38 (.call (C 106) [(.t 9)]),
 M 39 10,
 J 40 (.bin .sub (.t 39) (.k (b_ 1))),
 J 41 (.bin .and (.t 38) (.t 40)),
 J 42 (.conv .i64 (.t 41)),
 M 12 42] 6)
(.seq
(.seq
(F [M 43 12,
 M 44 8,
 J 45 (.bin .geq (.t 43) (.t 44))] 3)
(.cond (.t 45)
(F [M 46 12,
 M 47 8,
 J 48 (.bin .sub (.t 46) (.t 47)),
 M 12 48] 4)
.skip))
(.c7 (M 49 0::
 M 50 11::
 M 51 0::
 M 52 1::
 M 53 12::
 J 54 (.bin .add (.t 52) (.t 53))::
 M 55 0::
 M 56 1::
 M 57 12::
 J 58 (.bin .add (.t 56) (.t 57))::
 J 59 (.aW 1 (.t 55) (.t 58))::
 J 60 (.load none (.t 59))::
 M 61 0::
 M 62 11::
 J 63 (.aW 1 (.t 61) (.t 62))::
 J 64 (.load none (.t 63))::
 J 65 (.aW 1 (.t 49) (.t 50))::
 N (.store 1 (.t 65) (.t 60))::
 J 66 (.aW 1 (.t 51) (.t 54))::
 N (.store 1 (.t 66) (.t 64))::[]) (0::
0::
0::
0::
0::
24::
0::
0::
0::
384::
960::
1984::
0::
0::
12288::
28672::
65475::
131011::
262143::
524287::[]) true))))
(F [M 36 11,
 J 37 (.bin .add (.t 36) (Z 1)),
 M 11 37] 3))))))))
.skip)))
def rv:List RV:=[]
theorem enter:En Tryz.prog 83 67 s rv:=En.mk (c:= Tryz.f83.body.getD .ret) Tryz.func83 rfl (by kernel_rfl) (by kernel_rfl) (by kernel_rfl) (by kernel_rfl)
end slices_breakPatternsCmpFunc_int
namespace slices_choosePivotCmpFunc_int
abbrev f:Nat:=84
def s:cr:=(.seq
(F [J 8 (.mv (Z 0)),
 J 9 (.mv (Z 0))] 2)
(.seq
(F [M 15 2,
 M 16 1,
 J 17 (.bin .sub (.t 15) (.t 16)),
 M 10 17] 4)
(.seq
(F [J 11 (.alloc 3 [i6 0])] 1)
(.seq
(F [M 18 1,
 M 19 10,
 J 20 (.bin .quo (.t 19) (Z 4)),
 J 21 (.bin .mul (.t 20) (Z 1)),
 J 22 (.bin .add (.t 18) (.t 21)),
 M 12 22] 6)
(.seq
(F [M 23 1,
 M 24 10,
 J 25 (.bin .quo (.t 24) (Z 4)),
 J 26 (.bin .mul (.t 25) (Z 2)),
 J 27 (.bin .add (.t 23) (.t 26)),
 M 13 27] 6)
(.seq
(F [M 28 1,
 M 29 10,
 J 30 (.bin .quo (.t 29) (Z 4)),
 J 31 (.bin .mul (.t 30) (Z 3)),
 J 32 (.bin .add (.t 28) (.t 31)),
 M 14 32] 6)
(.seq
(.seq
(F [M 33 10,
 J 34 (.bin .geq (.t 33) (Z 8))] 2)
(.cond (.t 34)
(.seq
(.seq
(F [M 35 10,
 J 36 (.bin .geq (.t 35) (Z 50))] 2)
(.cond (.t 36)
(.seq
(F [M 37 0,
 M 38 12,
 M 39 3,
 J 40 (.call (C 107) [(.t 37),(.t 38),(.t 11),(.t 39)]),
 M 12 40] 5)
(.seq
(F [M 41 0,
 M 42 13,
 M 43 3,
 J 44 (.call (C 107) [(.t 41),(.t 42),(.t 11),(.t 43)]),
 M 13 44] 5)
(F [M 45 0,
 M 46 14,
 M 47 3,
 J 48 (.call (C 107) [(.t 45),(.t 46),(.t 11),(.t 47)]),
 M 14 48] 5)))
.skip))
(F [M 49 0,
 M 50 12,
 M 51 13,
 M 52 14,
 M 53 3,
 J 54 (.call (C 108) [(.t 49),(.t 50),(.t 51),(.t 52),(.t 11),(.t 53)]),
 M 13 54] 7))
.skip))
(.seq
(F [J 55 (.load none (.t 11))] 1)
(.block 0
(.seq
(F [J 58 (.bin .eql (.t 55) (Z 0)),
 M 57 58] 2)
(.cond (.t 57)
(.seq
(F [M 59 13,
 M 8 59,
 J 9 (.mv (Z 1))] 3)
.ret)
(.seq
(F [J 61 (.bin .eql (.t 55) (Z 12)),
 M 60 61] 2)
(.cond (.t 60)
(.seq
(F [M 62 13,
 M 8 62,
 J 9 (.mv (Z 2))] 3)
.ret)
(.seq
(F [M 56 13,
 M 8 56,
 J 9 (.mv (Z 0))] 3)
.ret))))))))))))))
def rv:List RV:=[.tmp 8,.tmp 9]
theorem enter:En Tryz.prog 84 63 s rv:=En.mk (c:= Tryz.f84.body.getD .ret) Tryz.func84 rfl (by kernel_rfl) (by kernel_rfl) (by kernel_rfl) (by kernel_rfl)
end slices_choosePivotCmpFunc_int
namespace slices_reverseRangeCmpFunc_int
abbrev f:Nat:=85
def s:cr:=(.seq
(F [M 10 1,
 M 8 10] 2)
(.seq
(F [M 11 2,
 J 12 (.bin .sub (.t 11) (Z 1)),
 M 9 12] 3)
(.block 0
(.loop
(.seq
(.seq
(F [M 13 8,
 M 14 9,
 J 15 (.bin .lss (.t 13) (.t 14))] 3)
(.cond (.t 15)
.skip
(.exit 0)))
(.block 1
(.seq
(.c7 (M 16 0::
 M 17 8::
 M 18 0::
 M 19 9::
 M 20 0::
 M 21 9::
 J 22 (.aW 1 (.t 20) (.t 21))::
 J 23 (.load none (.t 22))::
 M 24 0::
 M 25 8::
 J 26 (.aW 1 (.t 24) (.t 25))::
 J 27 (.load none (.t 26))::
 J 28 (.aW 1 (.t 16) (.t 17))::
 N (.store 1 (.t 28) (.t 23))::
 J 29 (.aW 1 (.t 18) (.t 19))::
 N (.store 1 (.t 29) (.t 27))::[]) (0::
0::
0::
0::
0::
0::
48::
112::
0::
0::
768::
1792::
4083::
8179::
16383::
32767::[]) true)
(.seq
(F [M 30 8,
 J 31 (.bin .add (.t 30) (Z 1)),
 M 8 31] 3)
(F [M 32 9,
 J 33 (.bin .sub (.t 32) (Z 1)),
 M 9 33] 3)))))))))
def rv:List RV:=[]
theorem enter:En Tryz.prog 85 34 s rv:=En.mk (c:= Tryz.f85.body.getD .ret) Tryz.func85 rfl (by kernel_rfl) (by kernel_rfl) (by kernel_rfl) (by kernel_rfl)
end slices_reverseRangeCmpFunc_int
namespace slices_partialInsertionSortCmpFunc_int
abbrev f:Nat:=86
def s:cr:=(.seq
(F [J 8 (.mv (B false))] 1)
(.seq
(F [M 13 1,
 J 14 (.bin .add (.t 13) (Z 1)),
 M 9 14] 3)
(.seq
(.seq
(F [J 10 (.mv (Z 0))] 1)
(.block 0
(.loop
(.seq
(.seq
(F [M 15 10,
 J 16 (.bin .lss (.t 15) (Z 5))] 2)
(.cond (.t 16)
.skip
(.exit 0)))
(.seq
(.block 1
(.seq
(.block 2
(.loop
(.seq
(.seq
(.c7 (M 19 9::
 M 20 2::
 J 21 (.bin .lss (.t 19) (.t 20))::
 M 22 21::
 G 23 3 22 true::
 G 24 0 22 true::
 G 25 9 22 true::
 H 26 (.aW 1 (.t 24) (.t 25)) 22 true::
 H 27 (.load none (.t 26)) 22 true::
 G 28 0 22 true::
 G 29 9 22 true::
 H 30 (.bin .sub (.t 29) (Z 1)) 22 true::
 H 31 (.aW 1 (.t 28) (.t 30)) 22 true::
 H 32 (.load none (.t 31)) 22 true::
 H 33 (.call (.t 23) [(.t 27),(.t 32)]) 22 true::
 H 34 (.bin .lss (.t 33) (Z 0)) 22 true::
 H 35 (.not (.t 34)) 22 true::
 J 36 (.pick (.t 22) (.t 35) (B false))::[]) (0::
0::
3::
7::
15::
15::
15::
111::
239::
15::
15::
1039::
3599::
7695::
16383::
32767::
65535::
131071::[]) true)
(.cond (.t 36)
.skip
(.exit 2)))
(.block 3
(F [M 37 9,
 J 38 (.bin .add (.t 37) (Z 1)),
 M 9 38] 3)))))
(.seq
(.seq
(F [M 39 9,
 M 40 2,
 J 41 (.bin .eql (.t 39) (.t 40))] 3)
(.cond (.t 41)
(.seq
(F [J 8 (.mv (B true))] 1)
.ret)
.skip))
(.seq
(.seq
(F [M 42 2,
 M 43 1,
 J 44 (.bin .sub (.t 42) (.t 43)),
 J 45 (.bin .lss (.t 44) (Z 50))] 4)
(.cond (.t 45)
(.seq
(F [J 8 (.mv (B false))] 1)
.ret)
.skip))
(.seq
(.c7 (M 46 0::
 M 47 9::
 M 48 0::
 M 49 9::
 J 50 (.bin .sub (.t 49) (Z 1))::
 M 51 0::
 M 52 9::
 J 53 (.bin .sub (.t 52) (Z 1))::
 J 54 (.aW 1 (.t 51) (.t 53))::
 J 55 (.load none (.t 54))::
 M 56 0::
 M 57 9::
 J 58 (.aW 1 (.t 56) (.t 57))::
 J 59 (.load none (.t 58))::
 J 60 (.aW 1 (.t 46) (.t 47))::
 N (.store 1 (.t 60) (.t 55))::
 J 61 (.aW 1 (.t 48) (.t 50))::
 N (.store 1 (.t 61) (.t 59))::[]) (0::
0::
0::
0::
8::
0::
0::
64::
224::
480::
0::
0::
3072::
7168::
16355::
32739::
65535::
131071::[]) true)
(.seq
(.seq
(F [M 62 9,
 M 63 1,
 J 64 (.bin .sub (.t 62) (.t 63)),
 J 65 (.bin .geq (.t 64) (Z 2))] 4)
(.cond (.t 65)
(.seq
(F [M 66 9,
 J 67 (.bin .sub (.t 66) (Z 1)),
 M 11 67] 3)
(.block 4
(.loop
(.seq
(.seq
(F [M 68 11,
 J 69 (.bin .geq (.t 68) (Z 1))] 2)
(.cond (.t 69)
.skip
(.exit 4)))
(.seq
(.block 5
(.seq
(.seq
(.c7 [M 72 3,
 M 73 0,
 M 74 11,
 J 75 (.aW 1 (.t 73) (.t 74)),
 J 76 (.load none (.t 75)),
 M 77 0,
 M 78 11,
 J 79 (.bin .sub (.t 78) (Z 1)),
 J 80 (.aW 1 (.t 77) (.t 79)),
 J 81 (.load none (.t 80)),
 J 82 (.call (.t 72) [(.t 76),(.t 81)]),
 J 83 (.bin .lss (.t 82) (Z 0)),
 J 84 (.not (.t 83))] [0,
0,
0,
6,
14,
0,
0,
64,
224,
480,
1023,
2047,
4095] true)
(.cond (.t 84)
(.exit 4)
.skip))
(.c7 (M 85 0::
 M 86 11::
 M 87 0::
 M 88 11::
 J 89 (.bin .sub (.t 88) (Z 1))::
 M 90 0::
 M 91 11::
 J 92 (.bin .sub (.t 91) (Z 1))::
 J 93 (.aW 1 (.t 90) (.t 92))::
 J 94 (.load none (.t 93))::
 M 95 0::
 M 96 11::
 J 97 (.aW 1 (.t 95) (.t 96))::
 J 98 (.load none (.t 97))::
 J 99 (.aW 1 (.t 85) (.t 86))::
 N (.store 1 (.t 99) (.t 94))::
 J 100 (.aW 1 (.t 87) (.t 89))::
 N (.store 1 (.t 100) (.t 98))::[]) (0::
0::
0::
0::
8::
0::
0::
64::
224::
480::
0::
0::
3072::
7168::
16355::
32739::
65535::
131071::[]) true)))
(F [M 70 11,
 J 71 (.bin .sub (.t 70) (Z 1)),
 M 11 71] 3))))))
.skip))
(.seq
(F [M 101 2,
 M 102 9,
 J 103 (.bin .sub (.t 101) (.t 102)),
 J 104 (.bin .geq (.t 103) (Z 2))] 4)
(.cond (.t 104)
(.seq
(F [M 105 9,
 J 106 (.bin .add (.t 105) (Z 1)),
 M 12 106] 3)
(.block 6
(.loop
(.seq
(.seq
(F [M 107 12,
 M 108 2,
 J 109 (.bin .lss (.t 107) (.t 108))] 3)
(.cond (.t 109)
.skip
(.exit 6)))
(.seq
(.block 7
(.seq
(.seq
(.c7 [M 112 3,
 M 113 0,
 M 114 12,
 J 115 (.aW 1 (.t 113) (.t 114)),
 J 116 (.load none (.t 115)),
 M 117 0,
 M 118 12,
 J 119 (.bin .sub (.t 118) (Z 1)),
 J 120 (.aW 1 (.t 117) (.t 119)),
 J 121 (.load none (.t 120)),
 J 122 (.call (.t 112) [(.t 116),(.t 121)]),
 J 123 (.bin .lss (.t 122) (Z 0)),
 J 124 (.not (.t 123))] [0,
0,
0,
6,
14,
0,
0,
64,
224,
480,
1023,
2047,
4095] true)
(.cond (.t 124)
(.exit 6)
.skip))
(.c7 (M 125 0::
 M 126 12::
 M 127 0::
 M 128 12::
 J 129 (.bin .sub (.t 128) (Z 1))::
 M 130 0::
 M 131 12::
 J 132 (.bin .sub (.t 131) (Z 1))::
 J 133 (.aW 1 (.t 130) (.t 132))::
 J 134 (.load none (.t 133))::
 M 135 0::
 M 136 12::
 J 137 (.aW 1 (.t 135) (.t 136))::
 J 138 (.load none (.t 137))::
 J 139 (.aW 1 (.t 125) (.t 126))::
 N (.store 1 (.t 139) (.t 134))::
 J 140 (.aW 1 (.t 127) (.t 129))::
 N (.store 1 (.t 140) (.t 138))::[]) (0::
0::
0::
0::
8::
0::
0::
64::
224::
480::
0::
0::
3072::
7168::
16355::
32739::
65535::
131071::[]) true)))
(F [M 110 12,
 J 111 (.bin .add (.t 110) (Z 1)),
 M 12 111] 3))))))
.skip))))))))
(F [M 17 10,
 J 18 (.bin .add (.t 17) (Z 1)),
 M 10 18] 3))))))
(.seq
(F [J 8 (.mv (B false))] 1)
.ret))))
def rv:List RV:=[.tmp 8]
theorem enter:En Tryz.prog 86 141 s rv:=En.mk (c:= Tryz.f86.body.getD .ret) Tryz.func86 rfl (by kernel_rfl) (by kernel_rfl) (by kernel_rfl) (by kernel_rfl)
end slices_partialInsertionSortCmpFunc_int
namespace slices_partitionCmpFunc_int
abbrev f:Nat:=88
def s:cr:=(.seq
(F [J 10 (.mv (Z 0)),
 J 11 (.mv (B false))] 2)
(.seq
(.c7 (M 14 0::
 M 15 1::
 M 16 0::
 M 17 3::
 M 18 0::
 M 19 3::
 J 20 (.aW 1 (.t 18) (.t 19))::
 J 21 (.load none (.t 20))::
 M 22 0::
 M 23 1::
 J 24 (.aW 1 (.t 22) (.t 23))::
 J 25 (.load none (.t 24))::
 J 26 (.aW 1 (.t 14) (.t 15))::
 N (.store 1 (.t 26) (.t 21))::
 J 27 (.aW 1 (.t 16) (.t 17))::
 N (.store 1 (.t 27) (.t 25))::[]) (0::
0::
0::
0::
0::
0::
48::
112::
0::
0::
768::
1792::
4083::
8179::
16383::
32767::[]) true)
(.seq
(F [M 28 1,
 J 29 (.bin .add (.t 28) (Z 1)),
 M 30 2,
 J 31 (.bin .sub (.t 30) (Z 1)),
 M 12 29,
 M 13 31] 6)
(.seq
(.block 0
(.loop
(.seq
(.seq
(.c7 (M 32 12::
 M 33 13::
 J 34 (.bin .leq (.t 32) (.t 33))::
 M 35 34::
 G 36 4 35 true::
 G 37 0 35 true::
 G 38 12 35 true::
 H 39 (.aW 1 (.t 37) (.t 38)) 35 true::
 H 40 (.load none (.t 39)) 35 true::
 G 41 0 35 true::
 G 42 1 35 true::
 H 43 (.aW 1 (.t 41) (.t 42)) 35 true::
 H 44 (.load none (.t 43)) 35 true::
 H 45 (.call (.t 36) [(.t 40),(.t 44)]) 35 true::
 H 46 (.bin .lss (.t 45) (Z 0)) 35 true::
 J 47 (.pick (.t 35) (.t 46) (B false))::[]) (0::
0::
3::
7::
15::
15::
15::
111::
239::
15::
15::
1551::
3599::
8191::
16383::
32767::[]) true)
(.cond (.t 47)
.skip
(.exit 0)))
(.block 1
(F [M 48 12,
 J 49 (.bin .add (.t 48) (Z 1)),
 M 12 49] 3)))))
(.seq
(.block 2
(.loop
(.seq
(.seq
(.c7 (M 50 12::
 M 51 13::
 J 52 (.bin .leq (.t 50) (.t 51))::
 M 53 52::
 G 54 4 53 true::
 G 55 0 53 true::
 G 56 13 53 true::
 H 57 (.aW 1 (.t 55) (.t 56)) 53 true::
 H 58 (.load none (.t 57)) 53 true::
 G 59 0 53 true::
 G 60 1 53 true::
 H 61 (.aW 1 (.t 59) (.t 60)) 53 true::
 H 62 (.load none (.t 61)) 53 true::
 H 63 (.call (.t 54) [(.t 58),(.t 62)]) 53 true::
 H 64 (.bin .lss (.t 63) (Z 0)) 53 true::
 H 65 (.not (.t 64)) 53 true::
 J 66 (.pick (.t 53) (.t 65) (B false))::[]) (0::
0::
3::
7::
15::
15::
15::
111::
239::
15::
15::
1551::
3599::
8191::
16383::
32767::
65535::[]) true)
(.cond (.t 66)
.skip
(.exit 2)))
(.block 3
(F [M 67 13,
 J 68 (.bin .sub (.t 67) (Z 1)),
 M 13 68] 3)))))
(.seq
(.seq
(F [M 69 12,
 M 70 13,
 J 71 (.bin .gtr (.t 69) (.t 70))] 3)
(.cond (.t 71)
(.seq
(.c7 (M 72 0::
 M 73 13::
 M 74 0::
 M 75 1::
 M 76 0::
 M 77 1::
 J 78 (.aW 1 (.t 76) (.t 77))::
 J 79 (.load none (.t 78))::
 M 80 0::
 M 81 13::
 J 82 (.aW 1 (.t 80) (.t 81))::
 J 83 (.load none (.t 82))::
 J 84 (.aW 1 (.t 72) (.t 73))::
 N (.store 1 (.t 84) (.t 79))::
 J 85 (.aW 1 (.t 74) (.t 75))::
 N (.store 1 (.t 85) (.t 83))::[]) (0::
0::
0::
0::
0::
0::
48::
112::
0::
0::
768::
1792::
4083::
8179::
16383::
32767::[]) true)
(.seq
(F [M 86 13,
 M 10 86,
 J 11 (.mv (B true))] 3)
.ret))
.skip))
(.seq
(.c7 (M 87 0::
 M 88 12::
 M 89 0::
 M 90 13::
 M 91 0::
 M 92 13::
 J 93 (.aW 1 (.t 91) (.t 92))::
 J 94 (.load none (.t 93))::
 M 95 0::
 M 96 12::
 J 97 (.aW 1 (.t 95) (.t 96))::
 J 98 (.load none (.t 97))::
 J 99 (.aW 1 (.t 87) (.t 88))::
 N (.store 1 (.t 99) (.t 94))::
 J 100 (.aW 1 (.t 89) (.t 90))::
 N (.store 1 (.t 100) (.t 98))::[]) (0::
0::
0::
0::
0::
0::
48::
112::
0::
0::
768::
1792::
4083::
8179::
16383::
32767::[]) true)
(.seq
(F [M 101 12,
 J 102 (.bin .add (.t 101) (Z 1)),
 M 12 102] 3)
(.seq
(F [M 103 13,
 J 104 (.bin .sub (.t 103) (Z 1)),
 M 13 104] 3)
(.seq
(.block 4
(.loop
(.block 5
(.seq
(.block 6
(.loop
(.seq
(.seq
(.c7 (M 105 12::
 M 106 13::
 J 107 (.bin .leq (.t 105) (.t 106))::
 M 108 107::
 G 109 4 108 true::
 G 110 0 108 true::
 G 111 12 108 true::
 H 112 (.aW 1 (.t 110) (.t 111)) 108 true::
 H 113 (.load none (.t 112)) 108 true::
 G 114 0 108 true::
 G 115 1 108 true::
 H 116 (.aW 1 (.t 114) (.t 115)) 108 true::
 H 117 (.load none (.t 116)) 108 true::
 H 118 (.call (.t 109) [(.t 113),(.t 117)]) 108 true::
 H 119 (.bin .lss (.t 118) (Z 0)) 108 true::
 J 120 (.pick (.t 108) (.t 119) (B false))::[]) (0::
0::
3::
7::
15::
15::
15::
111::
239::
15::
15::
1551::
3599::
8191::
16383::
32767::[]) true)
(.cond (.t 120)
.skip
(.exit 6)))
(.block 7
(F [M 121 12,
 J 122 (.bin .add (.t 121) (Z 1)),
 M 12 122] 3)))))
(.seq
(.block 8
(.loop
(.seq
(.seq
(.c7 (M 123 12::
 M 124 13::
 J 125 (.bin .leq (.t 123) (.t 124))::
 M 126 125::
 G 127 4 126 true::
 G 128 0 126 true::
 G 129 13 126 true::
 H 130 (.aW 1 (.t 128) (.t 129)) 126 true::
 H 131 (.load none (.t 130)) 126 true::
 G 132 0 126 true::
 G 133 1 126 true::
 H 134 (.aW 1 (.t 132) (.t 133)) 126 true::
 H 135 (.load none (.t 134)) 126 true::
 H 136 (.call (.t 127) [(.t 131),(.t 135)]) 126 true::
 H 137 (.bin .lss (.t 136) (Z 0)) 126 true::
 H 138 (.not (.t 137)) 126 true::
 J 139 (.pick (.t 126) (.t 138) (B false))::[]) (0::
0::
3::
7::
15::
15::
15::
111::
239::
15::
15::
1551::
3599::
8191::
16383::
32767::
65535::[]) true)
(.cond (.t 139)
.skip
(.exit 8)))
(.block 9
(F [M 140 13,
 J 141 (.bin .sub (.t 140) (Z 1)),
 M 13 141] 3)))))
(.seq
(.seq
(F [M 142 12,
 M 143 13,
 J 144 (.bin .gtr (.t 142) (.t 143))] 3)
(.cond (.t 144)
(.exit 4)
.skip))
(.seq
(.c7 (M 145 0::
 M 146 12::
 M 147 0::
 M 148 13::
 M 149 0::
 M 150 13::
 J 151 (.aW 1 (.t 149) (.t 150))::
 J 152 (.load none (.t 151))::
 M 153 0::
 M 154 12::
 J 155 (.aW 1 (.t 153) (.t 154))::
 J 156 (.load none (.t 155))::
 J 157 (.aW 1 (.t 145) (.t 146))::
 N (.store 1 (.t 157) (.t 152))::
 J 158 (.aW 1 (.t 147) (.t 148))::
 N (.store 1 (.t 158) (.t 156))::[]) (0::
0::
0::
0::
0::
0::
48::
112::
0::
0::
768::
1792::
4083::
8179::
16383::
32767::[]) true)
(.seq
(F [M 159 12,
 J 160 (.bin .add (.t 159) (Z 1)),
 M 12 160] 3)
(F [M 161 13,
 J 162 (.bin .sub (.t 161) (Z 1)),
 M 13 162] 3)))))))))
(.seq
(.c7 (M 163 0::
 M 164 13::
 M 165 0::
 M 166 1::
 M 167 0::
 M 168 1::
 J 169 (.aW 1 (.t 167) (.t 168))::
 J 170 (.load none (.t 169))::
 M 171 0::
 M 172 13::
 J 173 (.aW 1 (.t 171) (.t 172))::
 J 174 (.load none (.t 173))::
 J 175 (.aW 1 (.t 163) (.t 164))::
 N (.store 1 (.t 175) (.t 170))::
 J 176 (.aW 1 (.t 165) (.t 166))::
 N (.store 1 (.t 176) (.t 174))::[]) (0::
0::
0::
0::
0::
0::
48::
112::
0::
0::
768::
1792::
4083::
8179::
16383::
32767::[]) true)
(.seq
(F [M 177 13,
 M 10 177,
 J 11 (.mv (B false))] 3)
.ret))))))))))))
def rv:List RV:=[.tmp 10,.tmp 11]
theorem enter:En Tryz.prog 88 178 s rv:=En.mk (c:= Tryz.f88.body.getD .ret) Tryz.func88 rfl (by kernel_rfl) (by kernel_rfl) (by kernel_rfl) (by kernel_rfl)
end slices_partitionCmpFunc_int
namespace math_bits_Len64
abbrev f:Nat:=90
def s:cr:=(.seq
(F [J 2 (.mv (Z 0))] 1)
(.seq
(.seq
(F [M 3 0,
 J 4 (.bin .geq (.t 3) (.k (b_ 4294967296)))] 2)
(.cond (.t 4)
(.seq
(F [M 5 0,
 J 6 (.bin .shr (.t 5) (.k (b_ 32))),
 M 0 6] 3)
(F [J 2 (.mv (Z 32))] 1))
.skip))
(.seq
(.seq
(F [M 7 0,
 J 8 (.bin .geq (.t 7) (.k (b_ 65536)))] 2)
(.cond (.t 8)
(.seq
(F [M 9 0,
 J 10 (.bin .shr (.t 9) (.k (b_ 16))),
 M 0 10] 3)
(F [M 11 2,
 J 12 (.bin .add (.t 11) (Z 16)),
 M 2 12] 3))
.skip))
(.seq
(.seq
(F [M 13 0,
 J 14 (.bin .geq (.t 13) (.k (b_ 256)))] 2)
(.cond (.t 14)
(.seq
(F [M 15 0,
 J 16 (.bin .shr (.t 15) (.k (b_ 8))),
 M 0 16] 3)
(F [M 17 2,
 J 18 (.bin .add (.t 17) (Z 8)),
 M 2 18] 3))
.skip))
(.seq
(F [M 19 2,
 M 20 0,
 J 21 (.conv .u8 (.t 20)),
 J 22 (.CD (.k (.d (.str [0,1,2,2,3,3,3,3,4,4,4,4,4,4,4,4,5,5,5,5,5,5,5,5,5,5,5,5,5,5,5,5,6,6,6,6,6,6,6,6,6,6,6,6,6,6,6,6,6,6,6,6,6,6,6,6,6,6,6,6,6,6,6,6,7,7,7,7,7,7,7,7,7,7,7,7,7,7,7,7,7,7,7,7,7,7,7,7,7,7,7,7,7,7,7,7,7,7,7,7,7,7,7,7,7,7,7,7,7,7,7,7,7,7,7,7,7,7,7,7,7,7,7,7,7,7,7,7,8,8,8,8,8,8,8,8,8,8,8,8,8,8,8,8,8,8,8,8,8,8,8,8,8,8,8,8,8,8,8,8,8,8,8,8,8,8,8,8,8,8,8,8,8,8,8,8,8,8,8,8,8,8,8,8,8,8,8,8,8,8,8,8,8,8,8,8,8,8,8,8,8,8,8,8,8,8,8,8,8,8,8,8,8,8,8,8,8,8,8,8,8,8,8,8,8,8,8,8,8,8,8,8,8,8,8,8,8,8,8,8,8,8,8,8,8,8,8,8,8,8,8,8,8,8,8,8]))) (.t 21)),
 J 23 (.conv .i64 (.t 22)),
 J 24 (.bin .add (.t 19) (.t 23)),
 M 2 24] 7)
.ret)))))
def rv:List RV:=[.tmp 2]
theorem enter:En Tryz.prog 90 25 s rv:=En.mk (c:= Tryz.f90.body.getD .ret) Tryz.func90 rfl (by kernel_rfl) (by kernel_rfl) (by kernel_rfl) (by kernel_rfl)
end math_bits_Len64
namespace cmp_isNaN_uint64
abbrev f:Nat:=91
def s:cr:=(.seq
(F [J 2 (.mv (B false))] 1)
(.seq
(F [M 3 0,
 M 4 0,
 J 5 (.bin .neq (.t 3) (.t 4)),
 M 2 5] 4)
.ret))
def rv:List RV:=[.tmp 2]
theorem enter:En Tryz.prog 91 6 s rv:=En.mk (c:= Tryz.f91.body.getD .ret) Tryz.func91 rfl (by kernel_rfl) (by kernel_rfl) (by kernel_rfl) (by kernel_rfl)
end cmp_isNaN_uint64
namespace cmp_isNaN_uint8
abbrev f:Nat:=92
def s:cr:=(.seq
(F [J 2 (.mv (B false))] 1)
(.seq
(F [M 3 0,
 M 4 0,
 J 5 (.bin .neq (.t 3) (.t 4)),
 M 2 5] 4)
.ret))
def rv:List RV:=[.tmp 2]
theorem enter:En Tryz.prog 92 6 s rv:=En.mk (c:= Tryz.f92.body.getD .ret) Tryz.func92 rfl (by kernel_rfl) (by kernel_rfl) (by kernel_rfl) (by kernel_rfl)
end cmp_isNaN_uint8
namespace cmp_isNaN_uint32
abbrev f:Nat:=93
def s:cr:=(.seq
(F [J 2 (.mv (B false))] 1)
(.seq
(F [M 3 0,
 M 4 0,
 J 5 (.bin .neq (.t 3) (.t 4)),
 M 2 5] 4)
.ret))
def rv:List RV:=[.tmp 2]
theorem enter:En Tryz.prog 93 6 s rv:=En.mk (c:= Tryz.f93.body.getD .ret) Tryz.func93 rfl (by kernel_rfl) (by kernel_rfl) (by kernel_rfl) (by kernel_rfl)
end cmp_isNaN_uint32
namespace slices_Contains_Lbool_bool
abbrev f:Nat:=94
def s:cr:=(.seq
(F [J 4 (.mv (B false))] 1)
(.seq
(F [M 5 0,
 M 6 1,
 J 7 (.call (C 109) [(.t 5),(.t 6)]),
 J 8 (.bin .geq (.t 7) (Z 0)),
 M 4 8] 5)
.ret))
def rv:List RV:=[.tmp 4]
theorem enter:En Tryz.prog 94 9 s rv:=En.mk (c:= Tryz.f94.body.getD .ret) Tryz.func94 rfl (by kernel_rfl) (by kernel_rfl) (by kernel_rfl) (by kernel_rfl)
end slices_Contains_Lbool_bool
namespace vector_each_1
abbrev f:Nat:=103
def s:cr:=(.seq
(F [J 3 (.box 34 (.t 0)),
 J 4 (.box 34 (.t 1)),
 J 5 (.alloc 34 z8)] 3)
(.seq
(.seq
(F [J 7 (.mv (Z 0))] 1)
(.block 0
(.loop
(.seq
(F [J 8 (.bin .lss (.t 7) (Z 8))] 1)
(.seq
(.cond (.t 8)
.skip
(.exit 0))
(.seq
(.block 1
(.seq
(F [M 9 7,
 M 6 9] 2)
(.c7 [M 10 6,
 J 11 (.load none (.t 2)),
 M 12 6,
 J 13 (.kR 8 1 (.t 3) (.t 12)),
 J 14 (.load none (.t 13)),
 M 15 6,
 J 16 (.kR 8 1 (.t 4) (.t 15)),
 J 17 (.load none (.t 16)),
 J 18 (.call (.t 11) [(.t 14),(.t 17)]),
 J 19 (.kR 8 1 (.t 5) (.t 10)),
 N (.store 1 (.t 19) (.t 18))] [0,
0,
0,
4,
12,
0,
32,
96,
254,
511,
1023] true)))
(F [J 20 (.bin .add (.t 7) (Z 1)),
 M 7 20] 2)))))))
(.seq
(F [J 21 (.load (some 8) (.t 5)),
 N (.store 8 (.t 5) (.t 21))] 2)
.ret)))
def rv:List RV:=[.cell 5 (some 8)]
theorem enter:En Tryz.prog 103 22 s rv:=En.mk (c:= Tryz.f103.body.getD .ret) Tryz.func103 rfl (by kernel_rfl) (by kernel_rfl) (by kernel_rfl) (by kernel_rfl)
end vector_each_1
namespace slices_siftDownCmpFunc_int
abbrev f:Nat:=104
def s:cr:=(.seq
(F [M 12 1,
 M 10 12] 2)
(.block 0
(.loop
(.block 1
(.seq
(F [M 13 10,
 J 14 (.bin .mul (Z 2) (.t 13)),
 J 15 (.bin .add (.t 14) (Z 1)),
 M 11 15] 4)
(.seq
(.seq
(F [M 16 11,
 M 17 2,
 J 18 (.bin .geq (.t 16) (.t 17))] 3)
(.cond (.t 18)
(.exit 0)
.skip))
(.seq
(.seq
(.c7 (M 19 11::
 J 20 (.bin .add (.t 19) (Z 1))::
 M 21 2::
 J 22 (.bin .lss (.t 20) (.t 21))::
 M 23 22::
 G 24 4 23 true::
 G 25 0 23 true::
 G 26 3 23 true::
 G 27 11 23 true::
 H 28 (.bin .add (.t 26) (.t 27)) 23 true::
 H 29 (.aW 1 (.t 25) (.t 28)) 23 true::
 H 30 (.load none (.t 29)) 23 true::
 G 31 0 23 true::
 G 32 3 23 true::
 G 33 11 23 true::
 H 34 (.bin .add (.t 32) (.t 33)) 23 true::
 H 35 (.bin .add (.t 34) (Z 1)) 23 true::
 H 36 (.aW 1 (.t 31) (.t 35)) 23 true::
 H 37 (.load none (.t 36)) 23 true::
 H 38 (.call (.t 24) [(.t 30),(.t 37)]) 23 true::
 H 39 (.bin .lss (.t 38) (Z 0)) 23 true::
 J 40 (.pick (.t 23) (.t 39) (B false))::[]) (0::
1::
0::
7::
15::
31::
31::
31::
31::
415::
991::
2015::
31::
31::
31::
24607::
57375::
127007::
258079::
524287::
1048575::
2097151::[]) true)
(.cond (.t 40)
(F [M 41 11,
 J 42 (.bin .add (.t 41) (Z 1)),
 M 11 42] 3)
.skip))
(.seq
(.seq
(.c7 (M 43 4::
 M 44 0::
 M 45 3::
 M 46 10::
 J 47 (.bin .add (.t 45) (.t 46))::
 J 48 (.aW 1 (.t 44) (.t 47))::
 J 49 (.load none (.t 48))::
 M 50 0::
 M 51 3::
 M 52 11::
 J 53 (.bin .add (.t 51) (.t 52))::
 J 54 (.aW 1 (.t 50) (.t 53))::
 J 55 (.load none (.t 54))::
 J 56 (.call (.t 43) [(.t 49),(.t 55)])::
 J 57 (.bin .lss (.t 56) (Z 0))::
 J 58 (.not (.t 57))::[]) (0::
0::
0::
0::
12::
30::
62::
0::
0::
0::
768::
1920::
3968::
8191::
16383::
32767::[]) true)
(.cond (.t 58)
.ret
.skip))
(.seq
(.c7 (M 59 0::
 M 60 3::
 M 61 10::
 J 62 (.bin .add (.t 60) (.t 61))::
 M 63 0::
 M 64 3::
 M 65 11::
 J 66 (.bin .add (.t 64) (.t 65))::
 M 67 0::
 M 68 3::
 M 69 11::
 J 70 (.bin .add (.t 68) (.t 69))::
 J 71 (.aW 1 (.t 67) (.t 70))::
 J 72 (.load none (.t 71))::
 M 73 0::
 M 74 3::
 M 75 10::
 J 76 (.bin .add (.t 74) (.t 75))::
 J 77 (.aW 1 (.t 73) (.t 76))::
 J 78 (.load none (.t 77))::
 J 79 (.aW 1 (.t 59) (.t 62))::
 N (.store 1 (.t 79) (.t 72))::
 J 80 (.aW 1 (.t 63) (.t 66))::
 N (.store 1 (.t 80) (.t 78))::[]) (0::
0::
0::
6::
0::
0::
0::
96::
0::
0::
0::
1536::
3840::
7936::
0::
0::
0::
98304::
245760::
507904::
1048335::
2096911::
4194303::
8388607::[]) true)
(F [M 81 11,
 M 10 81] 2))))))))))
def rv:List RV:=[]
theorem enter:En Tryz.prog 104 82 s rv:=En.mk (c:= Tryz.f104.body.getD .ret) Tryz.func104 rfl (by kernel_rfl) (by kernel_rfl) (by kernel_rfl) (by kernel_rfl)
end slices_siftDownCmpFunc_int
namespace slices_nextPowerOfTwo
abbrev f:Nat:=105
def s:cr:=(.seq
(F [J 2 (.mv (.k (b_ 0)))] 1)
(.seq
(F [M 3 0,
 J 4 (.conv .u64 (.t 3)),
 J 5 (.call (C 69) [(.t 4)]),
 J 6 (.bin .shl (.k (b_ 1)) (.t 5)),
 M 2 6] 5)
.ret))
def rv:List RV:=[.tmp 2]
theorem enter:En Tryz.prog 105 7 s rv:=En.mk (c:= Tryz.f105.body.getD .ret) Tryz.func105 rfl (by kernel_rfl) (by kernel_rfl) (by kernel_rfl) (by kernel_rfl)
end slices_nextPowerOfTwo
namespace slices_xorshift_Next
abbrev f:Nat:=106
def s:cr:=(.seq
(F [J 2 (.mv (.k (b_ 0)))] 1)
(.seq
(.c7 [M 3 0,
 J 4 (.gR (.t 3)),
 J 5 (.load none (.t 4)),
 M 6 0,
 J 7 (.gR (.t 6)),
 J 8 (.load none (.t 7)),
 J 9 (.bin .shl (.t 8) (.k (b_ 13))),
 J 10 (.bin .xor (.t 5) (.t 9)),
 J 11 (.gR (.t 3)),
 N (.store 1 (.t 11) (.t 10))] [0,
1,
3,
0,
8,
24,
56,
127,
255,
511] true)
(.seq
(.c7 [M 12 0,
 J 13 (.gR (.t 12)),
 J 14 (.load none (.t 13)),
 M 15 0,
 J 16 (.gR (.t 15)),
 J 17 (.load none (.t 16)),
 J 18 (.bin .shr (.t 17) (.k (b_ 7))),
 J 19 (.bin .xor (.t 14) (.t 18)),
 J 20 (.gR (.t 12)),
 N (.store 1 (.t 20) (.t 19))] [0,
1,
3,
0,
8,
24,
56,
127,
255,
511] true)
(.seq
(.c7 [M 21 0,
 J 22 (.gR (.t 21)),
 J 23 (.load none (.t 22)),
 M 24 0,
 J 25 (.gR (.t 24)),
 J 26 (.load none (.t 25)),
 J 27 (.bin .shl (.t 26) (.k (b_ 17))),
 J 28 (.bin .xor (.t 23) (.t 27)),
 J 29 (.gR (.t 21)),
 N (.store 1 (.t 29) (.t 28))] [0,
1,
3,
0,
8,
24,
56,
127,
255,
511] true)
(.seq
(F [M 30 0,
 J 31 (.gR (.t 30)),
 J 32 (.load none (.t 31)),
 M 2 32] 4)
.ret)))))
def rv:List RV:=[.tmp 2]
theorem enter:En Tryz.prog 106 33 s rv:=En.mk (c:= Tryz.f106.body.getD .ret) Tryz.func106 rfl (by kernel_rfl) (by kernel_rfl) (by kernel_rfl) (by kernel_rfl)
end slices_xorshift_Next
namespace slices_medianAdjacentCmpFunc_int
abbrev f:Nat:=107
def s:cr:=(.seq
(F [J 8 (.mv (Z 0))] 1)
(.seq
(F [M 9 0,
 M 10 1,
 J 11 (.bin .sub (.t 10) (Z 1)),
 M 12 1,
 M 13 1,
 J 14 (.bin .add (.t 13) (Z 1)),
 M 15 2,
 M 16 3,
 J 17 (.call (C 108) [(.t 9),(.t 11),(.t 12),(.t 14),(.t 15),(.t 16)]),
 M 8 17] 10)
.ret))
def rv:List RV:=[.tmp 8]
theorem enter:En Tryz.prog 107 18 s rv:=En.mk (c:= Tryz.f107.body.getD .ret) Tryz.func107 rfl (by kernel_rfl) (by kernel_rfl) (by kernel_rfl) (by kernel_rfl)
end slices_medianAdjacentCmpFunc_int
namespace slices_medianCmpFunc_int
abbrev f:Nat:=108
def s:cr:=(.seq
(F [J 12 (.mv (Z 0))] 1)
(.seq
(F [M 14 0,
 M 15 1,
 M 16 2,
 M 17 4,
 M 18 5,
 J 19 (.call (C 113) [(.t 14),(.t 15),(.t 16),(.t 17),(.t 18)]),
 M 13 19,
 J 20 (.ext 0 (.t 13)),
 J 21 (.ext 1 (.t 13)),
 M 1 20,
 M 2 21] 11)
(.seq
(F [M 23 0,
 M 24 2,
 M 25 3,
 M 26 4,
 M 27 5,
 J 28 (.call (C 113) [(.t 23),(.t 24),(.t 25),(.t 26),(.t 27)]),
 M 22 28,
 J 29 (.ext 0 (.t 22)),
 J 30 (.ext 1 (.t 22)),
 M 2 29,
 M 3 30] 11)
(.seq
(F [M 32 0,
 M 33 1,
 M 34 2,
 M 35 4,
 M 36 5,
 J 37 (.call (C 113) [(.t 32),(.t 33),(.t 34),(.t 35),(.t 36)]),
 M 31 37,
 J 38 (.ext 0 (.t 31)),
 J 39 (.ext 1 (.t 31)),
 M 1 38,
 M 2 39] 11)
(.seq
(F [M 40 2,
 M 12 40] 2)
.ret)))))
def rv:List RV:=[.tmp 12]
theorem enter:En Tryz.prog 108 41 s rv:=En.mk (c:= Tryz.f108.body.getD .ret) Tryz.func108 rfl (by kernel_rfl) (by kernel_rfl) (by kernel_rfl) (by kernel_rfl)
end slices_medianCmpFunc_int
namespace slices_Index_Lbool_bool
abbrev f:Nat:=109
def s:cr:=(.seq
(F [J 4 (.mv (Z 0))] 1)
(.seq
(.seq
(F [M 6 0,
 J 7 (.len (.t 6)),
 J 8 (.mv (Z 0))] 3)
(.block 0
(.loop
(.seq
(F [J 9 (.bin .lss (.t 8) (.t 7))] 1)
(.seq
(.cond (.t 9)
.skip
(.exit 0))
(.seq
(.block 1
(.seq
(F [M 10 8,
 M 5 10] 2)
(.seq
(F [M 11 1,
 M 12 0,
 M 13 5,
 J 14 (.aW 1 (.t 12) (.t 13)),
 J 15 (.load none (.t 14)),
 J 16 (.fV false (.t 11) (.t 15))] 6)
(.cond (.t 16)
(.seq
(F [M 17 5,
 M 4 17] 2)
.ret)
.skip))))
(F [J 18 (.bin .add (.t 8) (Z 1)),
 M 8 18] 2)))))))
(.seq
(F [J 4 (.mv (.k (.d (.int .i64 (-1)))))] 1)
.ret)))
def rv:List RV:=[.tmp 4]
theorem enter:En Tryz.prog 109 19 s rv:=En.mk (c:= Tryz.f109.body.getD .ret) Tryz.func109 rfl (by kernel_rfl) (by kernel_rfl) (by kernel_rfl) (by kernel_rfl)
end slices_Index_Lbool_bool
namespace slices_order2CmpFunc_int
abbrev f:Nat:=113
def s:cr:=(.seq
(F [J 10 (.mv (Z 0)),
 J 11 (.mv (Z 0))] 2)
(.seq
(.seq
(.c7 [M 12 4,
 M 13 0,
 M 14 2,
 J 15 (.aW 1 (.t 13) (.t 14)),
 J 16 (.load none (.t 15)),
 M 17 0,
 M 18 1,
 J 19 (.aW 1 (.t 17) (.t 18)),
 J 20 (.load none (.t 19)),
 J 21 (.call (.t 12) [(.t 16),(.t 20)]),
 J 22 (.bin .lss (.t 21) (Z 0))] [0,
0,
0,
6,
14,
0,
0,
96,
224,
511,
1023] true)
(.cond (.t 22)
(.seq
(F [M 23 3,
 J 24 (.gR (.t 23)),
 J 25 (.load none (.t 24)),
 J 26 (.bin .add (.t 25) (Z 1)),
 J 27 (.gR (.t 23)),
 N (.store 1 (.t 27) (.t 26))] 6)
(.seq
(F [M 28 2,
 M 29 1,
 M 10 28,
 M 11 29] 4)
.ret))
.skip))
(.seq
(F [M 30 1,
 M 31 2,
 M 10 30,
 M 11 31] 4)
.ret)))
def rv:List RV:=[.tmp 10,.tmp 11]
theorem enter:En Tryz.prog 113 32 s rv:=En.mk (c:= Tryz.f113.body.getD .ret) Tryz.func113 rfl (by kernel_rfl) (by kernel_rfl) (by kernel_rfl) (by kernel_rfl)
end slices_order2CmpFunc_int
end Go.Proofs.YtnakpdoioammhaaGreatDoor
