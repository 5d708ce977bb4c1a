/-
 The code of more functions in the small form, by program (gen.py, more.py).
-/
import Derived.Test.YtaelhkkjgfobhaaGreatRV
set_option linter.unusedVariables false
set_option linter.unusedSimpArgs false
set_option linter.unusedSectionVars false
namespace Go.Proofs.YtaelhkkjgfobhaaGreat
open Go.Sl Go.Sl.Co Go.Proofs
namespace law19_VerdictLate
abbrev f:Nat:=11
def s:bP:=(.seq
(F [J 5 (.box 87 (.t 2)),
 J 6 (.mv (B false))] 2)
(.seq
(.seq
(F (M 19 0::
 J 20 (.call (C 14) [(.t 19)])::
 M 21 20::
 G 22 0 21 false::
 H 23 (.len (.t 22)) 21 false::
 H 24 (.bin .gtr (.t 23) (Z 40)) 21 false::
 J 25 (.pick (.t 21) (B true) (.t 24))::
 M 26 25::
 G 27 0 26 false::
 H 28 (.len (.t 27)) 26 false::
 H 29 (.bin .eql (.t 28) (Z 0)) 26 false::
 J 30 (.pick (.t 26) (B true) (.t 29))::
 M 31 30::
 G 32 0 31 false::
 G 33 1 31 false::
 H 34 (.call (C 15) [(.t 32),(.t 33)]) 31 false::
 H 35 (.bin .neq (.t 34) (Z 0)) 31 false::
 J 36 (.pick (.t 31) (B true) (.t 35))::[]) 18)
(.cond (.t 36)
(.seq
(F [J 37 (.call (C 48) []),
 M 6 37] 2)
.ret)
.skip))
(.seq
(F [M 38 0,
 J 39 (.call (C 43) [(.t 38)]),
 J 7 (.alloc 39 z8),
 N (.store 8 (.t 7) (.t 39)),
 J 8 (.mv (.k (bE 0)))] 5)
(.seq
(.seq
(F [J 9 (.mv (Z 0))] 1)
(.block 0
(.loop
(.seq
(.seq
(F [M 40 9,
 M 41 0,
 J 42 (.len (.t 41)),
 J 43 (.bin .lss (.t 40) (.t 42))] 4)
(.cond (.t 43)
.skip
(.exit 0)))
(.seq
(.block 1
(F [M 46 8,
 M 47 0,
 M 48 9,
 J 49 (.dF 29 (.t 47) (.t 48)),
 J 50 (.aT 10 (.t 49)),
 J 51 (.load none (.t 50)),
 J 52 (.mx (.t 46) (.t 51)),
 M 8 52] 8))
(F [M 44 9,
 J 45 (.bin .add (.t 44) (Z 1)),
 M 9 45] 3))))))
(.seq
(.e_ (M 53 0::
 J 54 (.jE 2 1 (.t 5) (Z 0))::
 J 55 (.load none (.t 54))::
 J 56 (.conv .i64 (.t 55))::
 M 57 0::
 J 58 (.len (.t 57))::
 J 59 (.bin .rem (.t 56) (.t 58))::
 J 60 (.dF 29 (.t 53) (.t 59))::
 J 61 (.load (some 29) (.t 60))::
 M 62 0::
 J 63 (.jE 2 1 (.t 5) (Z 1))::
 J 64 (.load none (.t 63))::
 J 65 (.conv .i64 (.t 64))::
 M 66 0::
 J 67 (.len (.t 66))::
 J 68 (.bin .rem (.t 65) (.t 67))::
 J 69 (.dF 29 (.t 62) (.t 68))::
 J 70 (.load (some 29) (.t 69))::
 J 10 (.alloc 43 bH)::
 J 11 (.alloc 43 bH)::
 N (.store 29 (.t 10) (.t 61))::
 N (.store 29 (.t 11) (.t 70))::[]) (0::
0::
2::
6::
0::
16::
62::
127::
255::
0::
0::
1024::
3072::
0::
8192::
31744::
65024::
130560::
0::
0::
786943::
2097151::[]) true)
(.seq
(F (J 71 (.jE 8 1 (.t 7) (Z 0))::
 J 72 (.load none (.t 71))::
 J 73 (.bin .add (.t 72) (.k (aB 1)))::
 J 74 (.fC [b8 0,aB 0] [(0,1,(.k (b8 0))),(1,1,(.t 73))])::
 J 75 (.load (some 8) (.t 7))::
 M 76 8::
 J 77 (.bin .add (.t 76) (.k (bE 1)))::
 J 78 (.aT 11 (.t 10))::
 J 79 (.load none (.t 78))::
 J 80 (.aT 12 (.t 11))::
 J 81 (.load (some 2) (.t 80))::
 J 82 (.aT 0 (.t 10))::
 J 83 (.load (some 2) (.t 82))::
 J 84 (.aT 0 (.t 11))::
 J 85 (.load (some 2) (.t 84))::
 J 86 (.fC bH [(0,2,(.t 74)),(2,8,(.t 75)),(10,1,(.t 77)),(11,1,(.t 79)),(12,2,(.t 81)),(14,1,(.k (b8 2))),(15,2,(.t 83)),(21,2,(.t 85))])::
 J 12 (.alloc 43 bH)::
 N (.store 29 (.t 12) (.t 86))::[]) 18)
(.seq
(.seq
(F [J 87 (.aT 14 (.t 10)),
 J 88 (.load none (.t 87)),
 J 89 (.bin .eql (.t 88) (.k (b8 1)))] 3)
(.cond (.t 89)
(F [J 90 (.aT 17 (.t 10)),
 J 91 (.load none (.t 90)),
 J 92 (.aT 11 (.t 12)),
 N (.store 1 (.t 92) (.t 91))] 4)
.skip))
(.seq
(.e_ [J 93 (.mK 43 29 0 [] []),
 M 94 0,
 J 95 (.app 43 29 144 (.t 93) (.t 94)),
 J 96 (.load (some 29) (.t 12)),
 J 97 (.mK 43 29 1 bH [(0,29,(.t 96))]),
 J 98 (.app 43 29 144 (.t 95) (.t 97)),
 M 13 98] [0,
0,
3,
0,
8,
31,
63] true)
(.seq
(F [M 99 0,
 J 100 (.call (C 47) [(.t 99)]),
 M 101 13,
 J 102 (.call (C 47) [(.t 101)]),
 M 14 100,
 M 15 102] 6)
(.seq
(.seq
(F [J 16 (.mv (Z 0))] 1)
(.block 2
(.loop
(.seq
(.seq
(F [M 103 16,
 M 104 0,
 J 105 (.len (.t 104)),
 J 106 (.bin .lss (.t 103) (.t 105))] 4)
(.cond (.t 106)
.skip
(.exit 2)))
(.seq
(.block 3
(.seq
(.e_ [M 109 14,
 M 110 0,
 M 111 16,
 J 112 (.dF 29 (.t 110) (.t 111)),
 J 113 (.aT 0 (.t 112)),
 J 114 (.load (some 2) (.t 113)),
 J 115 (.look [true,true] true (b8 0) (.t 109) (.t 114) false),
 M 116 15,
 M 117 0,
 M 118 16,
 J 119 (.dF 29 (.t 117) (.t 118)),
 J 120 (.aT 0 (.t 119)),
 J 121 (.load (some 2) (.t 120)),
 J 122 (.look [true,true] true (b8 0) (.t 116) (.t 121) false),
 J 123 (.bin .neq (.t 115) (.t 122))] [0,
0,
0,
6,
14,
30,
63,
0,
0,
0,
768,
1792,
3840,
8064,
16383] true)
(.cond (.t 123)
(.seq
(F [J 6 (.mv (B false))] 1)
.ret)
.skip)))
(F [M 107 16,
 J 108 (.bin .add (.t 107) (Z 1)),
 M 16 108] 3))))))
(.seq
(F (J 124 (.jE 8 1 (.t 7) (Z 0))::
 J 125 (.load none (.t 124))::
 J 126 (.bin .add (.t 125) (.k (aB 2)))::
 J 127 (.fC [b8 0,aB 0] [(0,1,(.k (b8 0))),(1,1,(.t 126))])::
 J 128 (.load (some 8) (.t 7))::
 M 129 8::
 J 130 (.bin .add (.t 129) (.k (bE 2)))::
 J 131 (.aT 17 (.t 11))::
 J 132 (.load none (.t 131))::
 J 133 (.aT 12 (.t 11))::
 J 134 (.load (some 2) (.t 133))::
 J 135 (.aT 0 (.t 11))::
 J 136 (.load (some 2) (.t 135))::
 J 137 (.fC bH [(0,2,(.t 127)),(2,8,(.t 128)),(10,1,(.t 130)),(11,1,(.t 132)),(12,2,(.t 134)),(14,1,(.k (b8 3))),(15,2,(.t 136)),(26,1,(.k (aB 1)))])::
 J 17 (.alloc 43 bH)::
 N (.store 29 (.t 17) (.t 137))::[]) 16)
(.seq
(F [J 138 (.aT 2 (.t 17)),
 J 139 (.jE 8 1 (.t 138) (Z 0)),
 J 140 (.load none (.t 139)),
 J 141 (.bin .add (.t 140) (.k (aB 1))),
 J 142 (.aT 2 (.t 17)),
 J 143 (.jE 8 1 (.t 142) (Z 0)),
 N (.store 1 (.t 143) (.t 141))] 7)
(.seq
(F [M 144 13,
 J 145 (.load (some 29) (.t 17)),
 J 146 (.mK 43 29 1 bH [(0,29,(.t 145))]),
 J 147 (.app 43 29 144 (.t 144) (.t 146)),
 J 148 (.call (C 47) [(.t 147)]),
 M 18 148] 6)
(.seq
(F (M 149 15::
 J 150 (.aT 0 (.t 12))::
 J 151 (.load (some 2) (.t 150))::
 J 152 (.look [true,true] true (b8 0) (.t 149) (.t 151) false)::
 J 153 (.bin .neq (.t 152) (.k (b8 2)))::
 M 154 153::
 G 155 18 154 false::
 H 156 (.aT 0 (.t 17)) 154 false::
 H 157 (.load (some 2) (.t 156)) 154 false::
 H 158 (.look [true,true] true (b8 0) (.t 155) (.t 157) false) 154 false::
 H 159 (.bin .neq (.t 158) (.k (b8 2))) 154 false::
 J 160 (.pick (.t 154) (B true) (.t 159))::
 M 161 160::
 H 162 (.call (C 48) []) 161 true::
 J 163 (.pick (.t 161) (.t 162) (B false))::
 M 6 163::[]) 16)
.ret))))))))))))))
def rv:List RV:=[.tmp 6]
theorem enter:En Tryz.prog 11 164 s rv:=En.mk (c:= Tryz.f11.body.getD .ret) Tryz.func11
end law19_VerdictLate
end Go.Proofs.YtaelhkkjgfobhaaGreat
