/-
 The code of more functions in the small form, by program (gen.py, more.py).
-/
import Derived.Test.YtaelhkkjgfobhaaGreatRV
set_option linter.unusedVariables false
set_option linter.unusedSimpArgs false
set_option linter.unusedSectionVars false
namespace Go.Proofs.YtaelhkkjgfobhaaGreat
open Go.Sl Go.Sl.Co Go.Proofs
namespace law19_VerdictTurned
abbrev f:Nat:=12
def s:bP:=(.seq
(F [J 6 (.mv (B false))] 1)
(.seq
(.seq
(F (M 20 0::
 J 21 (.call (C 14) [(.t 20)])::
 M 22 21::
 G 23 0 22 false::
 H 24 (.len (.t 23)) 22 false::
 H 25 (.bin .gtr (.t 24) (Z 40)) 22 false::
 J 26 (.pick (.t 22) (B true) (.t 25))::
 M 27 26::
 G 28 0 27 false::
 G 29 1 27 false::
 H 30 (.call (C 15) [(.t 28),(.t 29)]) 27 false::
 H 31 (.bin .neq (.t 30) (Z 0)) 27 false::
 J 32 (.pick (.t 27) (B true) (.t 31))::
 M 33 32::
 G 34 2 33 false::
 H 35 (.len (.t 34)) 33 false::
 H 36 (.bin .gtr (.t 35) (Z 200)) 33 false::
 J 37 (.pick (.t 33) (B true) (.t 36))::[]) 18)
(.cond (.t 37)
(.seq
(F [J 38 (.call (C 48) []),
 M 6 38] 2)
.ret)
.skip))
(.seq
(F [J 39 (.call (C 54) []),
 M 7 39] 2)
(.seq
(.seq
(F [M 40 7,
 J 41 (.iZ false 0 (.t 40))] 2)
(.cond (.t 41)
(.seq
(F [J 6 (.mv (B false))] 1)
.ret)
.skip))
(.seq
(F [J 42 (.mK 43 29 0 [] []),
 M 43 0,
 J 44 (.app 43 29 144 (.t 42) (.t 43)),
 M 8 44] 4)
(.seq
(.seq
(F [J 9 (.mv (Z 0))] 1)
(.block 0
(.loop
(.seq
(.seq
(F [M 45 8,
 J 46 (.len (.t 45)),
 J 47 (.bin .gtr (.t 46) (Z 0))] 3)
(.cond (.t 47)
.skip
(.exit 0)))
(.seq
(.block 1
(.seq
(F [J 10 (.mv (Z 0))] 1)
(.seq
(.seq
(F [M 50 9,
 M 51 2,
 J 52 (.len (.t 51)),
 J 53 (.bin .lss (.t 50) (.t 52))] 4)
(.cond (.t 53)
(F [M 54 2,
 M 55 9,
 J 56 (.dF 1 (.t 54) (.t 55)),
 J 57 (.load none (.t 56)),
 J 58 (.conv .i64 (.t 57)),
 M 59 8,
 J 60 (.len (.t 59)),
 J 61 (.bin .rem (.t 58) (.t 60)),
 M 10 61] 9)
.skip))
(.seq
(F [J 11 (.mv (B false))] 1)
(.seq
(.seq
(F [J 12 (.mv (Z 0))] 1)
(.block 2
(.loop
(.seq
(.seq
(F [M 62 12,
 M 63 8,
 J 64 (.len (.t 63)),
 J 65 (.bin .lss (.t 62) (.t 64)),
 M 66 65,
 G 67 11 66 true,
 H 68 (.not (.t 67)) 66 true,
 J 69 (.pick (.t 66) (.t 68) (B false))] 8)
(.cond (.t 69)
.skip
(.exit 2)))
(.seq
(.block 3
(.seq
(F [M 72 10,
 M 73 12,
 J 74 (.bin .add (.t 72) (.t 73)),
 M 75 8,
 J 76 (.len (.t 75)),
 J 77 (.bin .rem (.t 74) (.t 76)),
 M 13 77] 7)
(.seq
(F [M 79 7,
 M 80 8,
 M 81 13,
 J 82 (.dF 29 (.t 80) (.t 81)),
 J 83 (.load (some 29) (.t 82)),
 J 84 (.call (C 55) [(.t 79),(.t 83)]),
 M 78 84,
 J 85 (.ext 0 (.t 78)),
 J 86 (.ext 1 (.t 78)),
 M 14 85,
 M 15 86] 11)
(.seq
(F [M 87 15,
 J 88 (.bin .eql (.t 87) (Z 0))] 2)
(.cond (.t 88)
(.seq
(.e_ [J 89 (.mK 43 29 0 [] []),
 M 90 8,
 M 91 13,
 J 92 (.slc 29 (.t 90) none (some (.t 91))),
 J 93 (.app 43 29 144 (.t 89) (.t 92)),
 M 94 8,
 M 95 13,
 J 96 (.bin .add (.t 95) (Z 1)),
 J 97 (.slc 29 (.t 94) (some (.t 96)) none),
 J 98 (.app 43 29 144 (.t 93) (.t 97)),
 M 8 98] [0,
0,
0,
6,
15,
0,
0,
64,
224,
511,
1023] true)
(F [J 11 (.mv (B true))] 1))
.skip)))))
(F [M 70 12,
 J 71 (.bin .add (.t 70) (Z 1)),
 M 12 71] 3))))))
(.seq
(F [M 99 11,
 J 100 (.not (.t 99))] 2)
(.cond (.t 100)
(.seq
(F [J 6 (.mv (B false))] 1)
.ret)
.skip)))))))
(F [M 48 9,
 J 49 (.bin .add (.t 48) (Z 1)),
 M 9 49] 3))))))
(.seq
(F [M 101 0,
 J 102 (.call (C 47) [(.t 101)]),
 M 16 102] 3)
(.seq
(.seq
(F [J 17 (.mv (Z 0))] 1)
(.block 4
(.loop
(.seq
(.seq
(F [M 103 17,
 M 104 0,
 J 105 (.len (.t 104)),
 J 106 (.bin .lss (.t 103) (.t 105))] 4)
(.cond (.t 106)
.skip
(.exit 4)))
(.seq
(.block 5
(.seq
(F [M 110 7,
 M 111 0,
 M 112 17,
 J 113 (.dF 29 (.t 111) (.t 112)),
 J 114 (.aT 0 (.t 113)),
 J 115 (.load (some 2) (.t 114)),
 J 116 (.call (C 56) [(.t 110),(.t 115)]),
 M 109 116,
 J 117 (.ext 0 (.t 109)),
 J 118 (.ext 1 (.t 109)),
 M 18 117,
 M 19 118] 12)
(.seq
(F [M 119 19,
 J 120 (.bin .neq (.t 119) (Z 0)),
 M 121 120,
 G 122 18 121 false,
 G 123 16 121 false,
 G 124 0 121 false,
 G 125 17 121 false,
 H 126 (.dF 29 (.t 124) (.t 125)) 121 false,
 H 127 (.aT 0 (.t 126)) 121 false,
 H 128 (.load (some 2) (.t 127)) 121 false,
 H 129 (.look [true,true] true (b8 0) (.t 123) (.t 128) false) 121 false,
 H 130 (.bin .neq (.t 122) (.t 129)) 121 false,
 J 131 (.pick (.t 121) (B true) (.t 130))] 13)
(.cond (.t 131)
(.seq
(F [J 6 (.mv (B false))] 1)
.ret)
.skip))))
(F [M 107 17,
 J 108 (.bin .add (.t 107) (Z 1)),
 M 17 108] 3))))))
(.seq
(F [M 132 7,
 J 133 (.call (C 57) [(.t 132)]),
 M 134 0,
 J 135 (.call (C 43) [(.t 134)]),
 J 136 (.eqv false [true,true,true,true,true,true,true,true] (.t 133) (.t 135)),
 M 137 136,
 H 138 (.call (C 48) []) 137 true,
 J 139 (.pick (.t 137) (.t 138) (B false)),
 M 6 139] 9)
.ret)))))))))
def rv:List RV:=[.tmp 6]
theorem enter:En Tryz.prog 12 140 s rv:=En.mk (c:= Tryz.f12.body.getD .ret) Tryz.func12
end law19_VerdictTurned
end Go.Proofs.YtaelhkkjgfobhaaGreat
