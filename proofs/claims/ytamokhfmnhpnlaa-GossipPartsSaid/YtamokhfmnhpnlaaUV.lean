/-
  The code of the functions in the small form, by program (gen.py); each is checked against the translation by the kernel.
-/
import Derived.Test.YtamokhfmnhpnlaaChecked
import Derived.Test.YtamokhfmnhpnlaaU7
set_option linter.unusedVariables false
set_option linter.unusedSimpArgs false
set_option linter.unusedSectionVars false
namespace Go.Proofs.Ytamokhfmnhpnlaa
open Go.Sl Go.Sl.Co Go.Proofs
theorem mixed : Try.prog.follows .mixedOrders = true := by kernel_rfl
abbrev T_ : Nat := 0
abbrev T_func : Nat := 1
abbrev T_int64 : Nat := 2
abbrev T_int : Nat := 3
abbrev T_bool : Nat := 4
abbrev T_uint8 : Nat := 5
abbrev T_abi_BoundsErrorCode : Nat := 6
abbrev T_runtime_boundsError : Nat := 8
abbrev T_string : Nat := 9
abbrev T_runtime_errorString : Nat := 10
abbrev T_runtime_plainError : Nat := 11
abbrev T_uintptr : Nat := 12
abbrev T_struct_msg_string_addr_uintptr : Nat := 13
abbrev T_runtime_errorAddressString : Nat := 14
abbrev T_P_runtime_TypeAssertionError : Nat := 15
abbrev T_P_runtime_PanicNilError : Nat := 16
abbrev T_P_abi_Type : Nat := 17
abbrev T_struct_typ_P_abi_Type : Nat := 18
abbrev T_maps_unhashableTypeError : Nat := 19
abbrev T_interface : Nat := 20
abbrev T_int32 : Nat := 21
abbrev T_L_api_Op : Nat := 22
abbrev T_uint32 : Nat := 23
abbrev T_A8_uint32 : Nat := 24
abbrev T_api_Vector : Nat := 25
abbrev T_func_L_api_Op_bool : Nat := 26
abbrev T_func_bool : Nat := 27
abbrev T_struct_R_uint8_N_uint32 : Nat := 28
abbrev T_api_Dot : Nat := 29
abbrev T_uint64 : Nat := 30
abbrev T_L_api_Claim : Nat := 31
abbrev T_api_Op : Nat := 33
abbrev T_func_L_api_Op_api_Vector_L_api_Op : Nat := 34
abbrev T_func_api_Op_api_Op_int : Nat := 35
abbrev T_func_L_api_Op_L_api_Op : Nat := 36
abbrev T_func_L_api_Op_api_Vector : Nat := 37
abbrev T_func_L_api_Op_api_Vector_bool : Nat := 38
abbrev T_func_L_api_Op : Nat := 39
abbrev T_api_Frame : Nat := 41
abbrev T_api_Errno : Nat := 42
abbrev T_api_Frame_api_Errno : Nat := 43
abbrev T_func_L_api_Op_L_api_Op_bool : Nat := 45
abbrev T_func_api_Frame_api_Frame_bool : Nat := 46
abbrev T_func_int_int_int : Nat := 47
abbrev T_func_iter_SeqAtranter_api_Op_L_api_Op : Nat := 48
abbrev T_func_func_api_Op_bool : Nat := 49
abbrev T_iter_SeqAtranter_api_Op : Nat := 50
abbrev T_func_int_int : Nat := 52
abbrev T_func_uint64_uint64_int : Nat := 53
abbrev T_func_uint8_uint8_int : Nat := 54
abbrev T_func_uint32_uint32_int : Nat := 55
abbrev T_mapAapi_Dot_int : Nat := 56
abbrev T_struct_l_L_api_Op_at_mapAapi_Dot_int : Nat := 57
abbrev T_order_index : Nat := 58
abbrev T_func_L_api_Op_order_index : Nat := 59
abbrev T_L_int : Nat := 60
abbrev T_func_iter_SeqAint_func_int_int_int_L_int : Nat := 61
abbrev T_func_func_int_bool : Nat := 62
abbrev T_iter_SeqAint : Nat := 63
abbrev T_func_iter_SeqAint : Nat := 64
abbrev T_func_api_Op_api_Op_bool : Nat := 66
abbrev T_func_api_Op_bool : Nat := 68
abbrev T_mapAgossip_name_int : Nat := 69
abbrev T_A2_uint32 : Nat := 70
abbrev T_gossip_name : Nat := 71
abbrev T_func_api_Vector_api_Dot_bool : Nat := 72
abbrev T_func_L_api_Op_func_api_Op_api_Op_int : Nat := 73
abbrev T_func_L_api_Claim_L_api_Claim : Nat := 74
abbrev T_struct_Line_api_Dot_Version_api_Dot : Nat := 75
abbrev T_api_Claim : Nat := 76
abbrev T_func_uint64_bool : Nat := 77
abbrev T_func_uint8_bool : Nat := 78
abbrev T_func_uint32_bool : Nat := 79
abbrev T_int_bool : Nat := 80
abbrev T_func_iter_SeqAint_L_int : Nat := 81
abbrev T_func_L_int_func_int_int_int : Nat := 82
abbrev T_func_int_bool : Nat := 83
abbrev T_func_api_Frame_bool : Nat := 84
abbrev T_func_api_Dot_bool : Nat := 85
abbrev T_func_uint_int : Nat := 87
abbrev T_uint : Nat := 88
abbrev T_func_L_int_iter_SeqAint_L_int : Nat := 89
abbrev T_func_L_int_int_int_int_func_int_int_int : Nat := 90
abbrev T_func_L_api_Op_func_api_Op_bool_bool : Nat := 91
abbrev T_func_bool_bool : Nat := 92
abbrev T_slices_sortedHint : Nat := 94
abbrev T_int_slices_sortedHint : Nat := 95
abbrev T_func_uint32_int : Nat := 100
abbrev T_func_uint64_int : Nat := 101
abbrev T_func_L_int_int_int_func_int_int_int : Nat := 102
abbrev T_func_L_int_int_int_func_int_int_int_bool : Nat := 104
abbrev T_func_L_api_Op_func_api_Op_bool_int : Nat := 107
abbrev T_L_bool : Nat := 108
abbrev T_func_L_bool_bool_bool : Nat := 109
abbrev T_slices_xorshift : Nat := 110
abbrev T_func_int_uint : Nat := 111
abbrev T_func_uint64 : Nat := 112
abbrev T_P_int : Nat := 114
abbrev T_func_L_bool_bool_int : Nat := 118
abbrev T_P_slices_xorshift : Nat := 119
abbrev T_int_int : Nat := 120
abbrev T_func_string : Nat := 123
abbrev T_runtime_TypeAssertionError : Nat := 125
abbrev T_A0_P_runtime_PanicNilError : Nat := 126
abbrev T_struct_A0_P_runtime_PanicNilError : Nat := 127
abbrev T_runtime_PanicNilError : Nat := 128
abbrev T_func_int : Nat := 129
abbrev T_abi_TFlag : Nat := 130
abbrev T_abi_Kind : Nat := 131
abbrev T_func_unsafe_Pointer_unsafe_Pointer_bool : Nat := 132
abbrev T_P_uint8 : Nat := 133
abbrev T_abi_NameOff : Nat := 134
abbrev T_abi_TypeOff : Nat := 135
abbrev T_abi_Type : Nat := 137
abbrev T_unsafe_Pointer : Nat := 138
/-! ### tranter.tranterlaw14.GossipParts -/
namespace law14_GossipParts
abbrev f : Nat := 3
def s : SCo := (.seq
(F [J 3 (.box 25 (.t 1)),
 J 4 (.mv (B false))] 2)
(.seq
(.seq
(F [M 11 0,
 J 12 (.call (C 4) [(.t 11)])] 2)
(.cond (.t 12)
(.seq
(F [J 13 (.call (C 5) []),
 M 4 13] 2)
.ret)
.skip))
(.seq
(.seq
(F [J 5 (.mv (Z 0))] 1)
(.block 0
(.loop
(.seq
(.seq
(F [M 14 5,
 M 15 0,
 J 16 (.len (.t 15)),
 J 17 (.bin .lss (.t 14) (.t 16))] 4)
(.cond (.t 17)
.skip
(.exit 0)))
(.seq
(.block 1
(.seq
(F (M 20 0 ::
 M 21 5 ::
 J 22 (.idxS 29 (.t 20) (.t 21)) ::
 J 23 (.fld 0 (.t 22)) ::
 J 24 (.fld 0 (.t 23)) ::
 J 25 (.load none (.t 24)) ::
 J 26 (.bin .gtr (.t 25) (.k (b8 7))) ::
 M 27 26 ::
 G 28 0 27 false ::
 G 29 5 27 false ::
 H 30 (.idxS 29 (.t 28) (.t 29)) 27 false ::
 H 31 (.fld 0 (.t 30)) 27 false ::
 H 32 (.fld 1 (.t 31)) 27 false ::
 H 33 (.load none (.t 32)) 27 false ::
 H 34 (.bin .eql (.t 33) (.k (b32 0))) 27 false ::
 J 35 (.pick (.t 27) (B true) (.t 34)) :: []) 16)
(.cond (.t 35)
(.seq
(F [J 36 (.call (C 5) []),
 M 4 36] 2)
.ret)
.skip)))
(F [M 18 5,
 J 19 (.bin .add (.t 18) (Z 1)),
 M 5 19] 3))))))
(.seq
(F [M 37 0,
 J 38 (.load (some 8) (.t 3)),
 J 39 (.call (C 6) [(.t 37), (.t 38)]),
 M 6 39] 4)
(.seq
(.seq
(F [J 7 (.mv (Z 1))] 1)
(.block 2
(.loop
(.seq
(.seq
(F [M 40 7,
 M 41 6,
 J 42 (.len (.t 41)),
 J 43 (.bin .lss (.t 40) (.t 42))] 4)
(.cond (.t 43)
.skip
(.exit 2)))
(.seq
(.block 3
(.seq
(.reg [M 46 6,
 M 47 7,
 J 48 (.bin .sub (.t 47) (Z 1)),
 J 49 (.idxS 29 (.t 46) (.t 48)),
 J 50 (.load (some 29) (.t 49)),
 M 51 6,
 M 52 7,
 J 53 (.idxS 29 (.t 51) (.t 52)),
 J 54 (.load (some 29) (.t 53)),
 J 55 (.call (C 7) [(.t 50), (.t 54)]),
 J 56 (.bin .neq (.t 55) (.k (.d (.int .i64 (-1)))))] [0,
0,
2,
7,
15,
0,
0,
96,
224,
511,
1023] true)
(.cond (.t 56)
(.seq
(F [J 4 (.mv (B false))] 1)
.ret)
.skip)))
(F [M 44 7,
 J 45 (.bin .add (.t 44) (Z 1)),
 M 7 45] 3))))))
(.seq
(F [M 57 0,
 J 58 (.call (C 8) [(.t 57)]),
 M 8 58] 3)
(.seq
(F [J 9 (.mv (Z 0))] 1)
(.seq
(.seq
(F [J 10 (.mv (Z 0))] 1)
(.block 4
(.loop
(.seq
(.seq
(F [M 59 10,
 M 60 8,
 J 61 (.len (.t 60)),
 J 62 (.bin .lss (.t 59) (.t 61))] 4)
(.cond (.t 62)
.skip
(.exit 4)))
(.seq
(.block 5
(.seq
(.reg (M 65 8 ::
 M 66 10 ::
 J 67 (.idxS 29 (.t 65) (.t 66)) ::
 J 68 (.fld 0 (.t 67)) ::
 J 69 (.fld 1 (.t 68)) ::
 J 70 (.load none (.t 69)) ::
 M 71 8 ::
 M 72 10 ::
 J 73 (.idxS 29 (.t 71) (.t 72)) ::
 J 74 (.fld 0 (.t 73)) ::
 J 75 (.fld 0 (.t 74)) ::
 J 76 (.load none (.t 75)) ::
 J 77 (.bin .rem (.t 76) (.k (b8 8))) ::
 J 78 (.idxA 8 1 (.t 3) (.t 77)) ::
 J 79 (.load none (.t 78)) ::
 J 80 (.bin .leq (.t 70) (.t 79)) :: []) (0 ::
0 ::
3 ::
7 ::
15 ::
31 ::
0 ::
0 ::
192 ::
448 ::
960 ::
1984 ::
4032 ::
8128 ::
16320 ::
32767 :: []) true)
(.cond (.t 80)
(F [M 81 9,
 J 82 (.bin .add (.t 81) (Z 1)),
 M 9 82] 3)
.skip)))
(F [M 63 10,
 J 64 (.bin .add (.t 63) (Z 1)),
 M 10 64] 3))))))
(.seq
(F (M 83 6 ::
 J 84 (.len (.t 83)) ::
 M 85 9 ::
 J 86 (.bin .add (.t 84) (.t 85)) ::
 M 87 8 ::
 J 88 (.len (.t 87)) ::
 J 89 (.bin .eql (.t 86) (.t 88)) ::
 M 90 89 ::
 G 91 0 90 true ::
 G 92 0 90 true ::
 H 93 (.call (C 9) [(.t 92)]) 90 true ::
 H 94 (.call (C 6) [(.t 91), (.t 93)]) 90 true ::
 H 95 (.len (.t 94)) 90 true ::
 H 96 (.bin .eql (.t 95) (Z 0)) 90 true ::
 J 97 (.pick (.t 90) (.t 96) (B false)) ::
 M 98 97 ::
 G 99 0 98 true ::
 H 100 (.bld z8 []) 98 true ::
 H 101 (.call (C 6) [(.t 99), (.t 100)]) 98 true ::
 H 102 (.len (.t 101)) 98 true ::
 G 103 8 98 true ::
 H 104 (.len (.t 103)) 98 true ::
 H 105 (.bin .eql (.t 102) (.t 104)) 98 true ::
 J 106 (.pick (.t 98) (.t 105) (B false)) ::
 M 107 106 ::
 G 108 0 107 true ::
 H 109 (.call (C 9) [(.t 108)]) 107 true ::
 G 110 0 107 true ::
 H 111 (.call (C 10) [(.t 110)]) 107 true ::
 H 112 (.eqv false [true, true, true, true, true, true, true, true] (.t 109) (.t 111)) 107 true ::
 J 113 (.pick (.t 107) (.t 112) (B false)) ::
 M 114 113 ::
 H 115 (.call (C 5) []) 114 true ::
 J 116 (.pick (.t 114) (.t 115) (B false)) ::
 M 4 116 :: []) 35)
.ret)))))))))
def rv : List RV := [.tmp 4]
/-! live law14_GossipParts: [0, 1, 3, 4, 5, 6, 7, 8, 9, 10, 12, 17, 35, 43, 56, 62, 80] -/
theorem enter : En Try.prog 3 117 s rv := En.mk (c := Try.f3.body.getD .ret) Try.func3 rfl (by kernel_rfl) (by kernel_rfl) (by kernel_rfl) (by kernel_rfl)
end law14_GossipParts
/-! ### tranter.tranterlaw14.great -/
namespace law14_great
abbrev f : Nat := 4
def s : SCo := (.seq
(F [J 2 (.mv (B false))] 1)
(.seq
(F [J 3 (.mv (Z 0))] 1)
(.seq
(.seq
(F [J 4 (.mv (Z 0))] 1)
(.block 0
(.loop
(.seq
(.seq
(F [M 5 4,
 M 6 0,
 J 7 (.len (.t 6)),
 J 8 (.bin .lss (.t 5) (.t 7))] 4)
(.cond (.t 8)
.skip
(.exit 0)))
(.seq
(.block 1
(F [M 11 3,
 M 12 0,
 M 13 4,
 J 14 (.idxS 29 (.t 12) (.t 13)),
 J 15 (.fld 28 (.t 14)),
 J 16 (.load none (.t 15)),
 J 17 (.len (.t 16)),
 J 18 (.bin .add (.t 11) (.t 17)),
 M 3 18] 9))
(F [M 9 4,
 J 10 (.bin .add (.t 9) (Z 1)),
 M 4 10] 3))))))
(.seq
(F [M 19 0,
 J 20 (.len (.t 19)),
 J 21 (.bin .gtr (.t 20) (Z 120)),
 M 22 21,
 G 23 3 22 false,
 H 24 (.bin .gtr (.t 23) (Z 300)) 22 false,
 J 25 (.pick (.t 22) (B true) (.t 24)),
 M 2 25] 8)
.ret))))
def rv : List RV := [.tmp 2]
/-! live law14_great: [0, 2, 3, 4, 8] -/
theorem enter : En Try.prog 4 26 s rv := En.mk (c := Try.f4.body.getD .ret) Try.func4 rfl (by kernel_rfl) (by kernel_rfl) (by kernel_rfl) (by kernel_rfl)
end law14_great
/-! ### tranter.tranterlaw14.head -/
namespace law14_head
abbrev f : Nat := 5
def s : SCo := (.seq
(F [J 0 (.mv (B false))] 1)
(.seq
(F [J 8 (.call (C 11) []),
 M 1 8] 2)
(.seq
(F [M 10 1,
 J 11 (.bld z8 []),
 J 12 (.call (C 12) [(.k (b8 0)), (.k (b8 1)), (.t 10), (.t 11), (Z 2)]),
 M 9 12,
 J 13 (.ext 0 (.t 9)),
 J 14 (.ext 1 (.t 9)),
 J 2 (.alloc 41 [b8 0, b8 0, b8 0, b32 0, b32 0, b32 0, b32 0, b32 0, b32 0, b32 0, b32 0, (.d .nils)]),
 N (.store 12 (.t 2) (.t 13)),
 M 3 14] 9)
(.seq
(F [M 16 1,
 J 17 (.bld z8 []),
 J 18 (.call (C 12) [(.k (b8 0)), (.k (b8 0)), (.t 16), (.t 17), (Z 2)]),
 M 15 18,
 J 19 (.ext 0 (.t 15)),
 J 20 (.ext 1 (.t 15)),
 J 4 (.alloc 41 [b8 0, b8 0, b8 0, b32 0, b32 0, b32 0, b32 0, b32 0, b32 0, b32 0, b32 0, (.d .nils)]),
 N (.store 12 (.t 4) (.t 19)),
 M 5 20] 9)
(.seq
(F [M 22 1,
 J 23 (.bld z8 []),
 J 24 (.call (C 12) [(.k (b8 0)), (.k (b8 1)), (.t 22), (.t 23), (Z 65)]),
 M 21 24,
 J 25 (.ext 0 (.t 21)),
 J 26 (.ext 1 (.t 21)),
 J 6 (.alloc 41 [b8 0, b8 0, b8 0, b32 0, b32 0, b32 0, b32 0, b32 0, b32 0, b32 0, b32 0, (.d .nils)]),
 N (.store 12 (.t 6) (.t 25)),
 M 7 26] 9)
(.seq
(.reg (M 27 1 ::
 J 28 (.bld z8 [(0, 1, (.k (b32 1)))]) ::
 J 29 (.call (C 6) [(.t 27), (.t 28)]) ::
 M 30 1 ::
 J 31 (.idxS 29 (.t 30) (Z 2)) ::
 J 32 (.load (some 29) (.t 31)) ::
 M 33 1 ::
 J 34 (.idxS 29 (.t 33) (Z 0)) ::
 J 35 (.load (some 29) (.t 34)) ::
 J 36 (.bsl 33 29 2 [b8 0, b32 0, b32 0, b32 0, b32 0, b32 0, b32 0, b32 0, b32 0, b32 0, b64 0, b32 0, b8 0, b32 0, b8 0, b8 0, b32 0, b32 0, b8 0, b8 0, b64 0, b8 0, b32 0, b8 0, b32 0, b32 0, b32 0, b32 0, (.d .nils), b8 0, b32 0, b32 0, b32 0, b32 0, b32 0, b32 0, b32 0, b32 0, b32 0, b64 0, b32 0, b8 0, b32 0, b8 0, b8 0, b32 0, b32 0, b8 0, b8 0, b64 0, b8 0, b32 0, b8 0, b32 0, b32 0, b32 0, b32 0, (.d .nils)] [(0, 29, (.t 32)), (29, 29, (.t 35))]) ::
 J 37 (.call (C 13) [(.t 29), (.t 36)]) ::
 M 38 37 ::
 G 39 1 38 true ::
 H 40 (.bld z8 [(0, 1, (.k (b32 2))), (1, 1, (.k (b32 1)))]) 38 true ::
 H 41 (.call (C 6) [(.t 39), (.t 40)]) 38 true ::
 H 42 (.len (.t 41)) 38 true ::
 H 43 (.bin .eql (.t 42) (Z 0)) 38 true ::
 J 44 (.pick (.t 38) (.t 43) (B false)) ::
 M 45 44 ::
 G 46 3 45 true ::
 H 47 (.bin .eql (.t 46) (Z 0)) 45 true ::
 J 48 (.pick (.t 45) (.t 47) (B false)) ::
 M 49 48 ::
 H 50 (.load (some 12) (.t 2)) 49 true ::
 H 51 (.bld z8 [(0, 1, (.k (b32 2))), (1, 1, (.k (b32 1)))]) 49 true ::
 G 52 1 49 true ::
 H 53 (.slc 29 (.t 52) (some (Z 1)) none) 49 true ::
 H 54 (.bld [b8 0, b8 0, b8 0, b32 0, b32 0, b32 0, b32 0, b32 0, b32 0, b32 0, b32 0, (.d .nils)] [(0, 1, (.k (b8 1))), (2, 1, (.k (b8 1))), (3, 8, (.t 51)), (11, 1, (.t 53))]) 49 true ::
 H 55 (.call (C 14) [(.t 50), (.t 54)]) 49 true ::
 J 56 (.pick (.t 49) (.t 55) (B false)) ::
 M 57 56 ::
 G 58 5 57 true ::
 H 59 (.bin .eql (.t 58) (Z 2)) 57 true ::
 J 60 (.pick (.t 57) (.t 59) (B false)) ::
 M 61 60 ::
 G 62 7 61 true ::
 H 63 (.bin .eql (.t 62) (Z 2)) 61 true ::
 J 64 (.pick (.t 61) (.t 63) (B false)) ::
 M 65 64 ::
 H 66 (.call (C 15) [(Z 5), (Z 2)]) 65 true ::
 H 67 (.bin .eql (.t 66) (Z 3)) 65 true ::
 J 68 (.pick (.t 65) (.t 67) (B false)) ::
 M 69 68 ::
 H 70 (.call (C 15) [(Z 4), (Z 2)]) 69 true ::
 H 71 (.bin .eql (.t 70) (Z 2)) 69 true ::
 J 72 (.pick (.t 69) (.t 71) (B false)) ::
 M 73 72 ::
 H 74 (.call (C 15) [(.k (.d (.int .i64 (-1)))), (Z 2)]) 73 true ::
 H 75 (.bin .eql (.t 74) (Z 0)) 73 true ::
 J 76 (.pick (.t 73) (.t 75) (B false)) ::
 M 77 76 ::
 H 78 (.call (C 15) [(Z 3), (Z 0)]) 77 true ::
 H 79 (.bin .eql (.t 78) (Z 3)) 77 true ::
 J 80 (.pick (.t 77) (.t 79) (B false)) ::
 M 0 80 :: []) (0 ::
0 ::
3 ::
0 ::
8 ::
24 ::
0 ::
64 ::
192 ::
504 ::
1023 ::
2047 ::
4095 ::
4095 ::
16383 ::
32767 ::
65535 ::
131071 ::
262143 ::
524287 ::
1048575 ::
2097151 ::
4194303 ::
8388607 ::
8388607 ::
8388607 ::
41943039 ::
125829119 ::
268435455 ::
536870911 ::
1073741823 ::
2147483647 ::
4294967295 ::
8589934591 ::
17179869183 ::
34359738367 ::
68719476735 ::
137438953471 ::
274877906943 ::
549755813887 ::
1099511627775 ::
2199023255551 ::
4398046511103 ::
8796093022207 ::
17592186044415 ::
35184372088831 ::
70368744177663 ::
140737488355327 ::
281474976710655 ::
562949953421311 ::
1125899906842623 ::
2251799813685247 ::
4503599627370495 ::
9007199254740991 ::
18014398509481983 :: []) true)
.ret))))))
def rv : List RV := [.tmp 0]
/-! live law14_head: [0, 1, 2, 3, 5, 7] -/
theorem enter : En Try.prog 5 81 s rv := En.mk (c := Try.f5.body.getD .ret) Try.func5 rfl (by kernel_rfl) (by kernel_rfl) (by kernel_rfl) (by kernel_rfl)
end law14_head
/-! ### tranter.gossip.Lacks -/
namespace gossip_Lacks
abbrev f : Nat := 6
def s : SCo := (.seq
(F [J 3 (.box 25 (.t 1)),
 J 4 (.mv (.k (.d .nils)))] 2)
(.seq
(F [M 5 0,
 J 6 (.load (some 8) (.t 3)),
 J 7 (.call (C 17) [(.t 5), (.t 6)]),
 J 8 (.call (C 16) [(.t 7)]),
 M 4 8] 5)
.ret))
def rv : List RV := [.tmp 4]
/-! live gossip_Lacks: [0, 1, 3, 4] -/
theorem enter : En Try.prog 6 9 s rv := En.mk (c := Try.f6.body.getD .ret) Try.func6 rfl (by kernel_rfl) (by kernel_rfl) (by kernel_rfl) (by kernel_rfl)
end gossip_Lacks
/-! ### tranter.order.Compare -/
namespace order_Compare
abbrev f : Nat := 7
def s : SCo := (.seq
(F [J 2 (.box 33 (.t 0)),
 J 3 (.box 33 (.t 1)),
 J 4 (.mv (Z 0))] 3)
(.seq
(.reg (J 5 (.fld 10 (.t 2)) ::
 J 6 (.load none (.t 5)) ::
 J 7 (.fld 10 (.t 3)) ::
 J 8 (.load none (.t 7)) ::
 J 9 (.call (C 19) [(.t 6), (.t 8)]) ::
 J 10 (.fld 0 (.t 2)) ::
 J 11 (.fld 0 (.t 10)) ::
 J 12 (.load none (.t 11)) ::
 J 13 (.fld 0 (.t 3)) ::
 J 14 (.fld 0 (.t 13)) ::
 J 15 (.load none (.t 14)) ::
 J 16 (.call (C 20) [(.t 12), (.t 15)]) ::
 J 17 (.fld 0 (.t 2)) ::
 J 18 (.fld 1 (.t 17)) ::
 J 19 (.load none (.t 18)) ::
 J 20 (.fld 0 (.t 3)) ::
 J 21 (.fld 1 (.t 20)) ::
 J 22 (.load none (.t 21)) ::
 J 23 (.call (C 21) [(.t 19), (.t 22)]) ::
 J 24 (.bsl 3 1 3 [i6 0, i6 0, i6 0] [(0, 1, (.t 9)), (1, 1, (.t 16)), (2, 1, (.t 23))]) ::
 J 25 (.call (C 18) [(.t 24)]) ::
 M 4 25 :: []) (0 ::
1 ::
0 ::
4 ::
15 ::
0 ::
32 ::
96 ::
0 ::
256 ::
768 ::
2047 ::
0 ::
4096 ::
12288 ::
0 ::
32768 ::
98304 ::
262143 ::
524287 ::
1048575 ::
2097151 :: []) true)
.ret))
def rv : List RV := [.tmp 4]
/-! live order_Compare: [0, 1, 2, 3, 4] -/
theorem enter : En Try.prog 7 26 s rv := En.mk (c := Try.f7.body.getD .ret) Try.func7 rfl (by kernel_rfl) (by kernel_rfl) (by kernel_rfl) (by kernel_rfl)
end order_Compare
/-! ### tranter.order.Sort -/
namespace order_Sort
abbrev f : Nat := 8
def s : SCo := (.seq
(F [J 2 (.mv (.k (.d .nils)))] 1)
(.seq
(F [M 7 0,
 J 8 (.call (C 22) [(.t 7)]),
 J 3 (.alloc 58 [(.d .nils), (.d .nilm)]),
 N (.store 2 (.t 3) (.t 8))] 4)
(.seq
(F [J 4 (.mv (.k (.d .nils)))] 1)
(.seq
(.seq
(.reg [J 9 (.load (some 2) (.t 3)),
 J 10 (.call (C 24) [(.t 9)]),
 J 11 (.load (some 2) (.t 3)),
 J 12 (.mkf (.func 25) [(.t 11)] []),
 J 13 (.call (C 23) [(.t 10), (.t 12)]),
 J 14 (.len (.t 13)),
 J 15 (.mv (Z 0))] [0,
1,
0,
4,
15,
31,
0] true)
(.block 0
(.loop
(.seq
(F [J 16 (.bin .lss (.t 15) (.t 14))] 1)
(.seq
(.cond (.t 16)
.skip
(.exit 0))
(.seq
(.block 1
(.seq
(F [J 17 (.idxS 1 (.t 13) (.t 15)),
 J 18 (.load none (.t 17)),
 M 6 18] 3)
(F [M 19 4,
 M 20 0,
 M 21 6,
 J 22 (.idxS 29 (.t 20) (.t 21)),
 J 23 (.load (some 29) (.t 22)),
 J 24 (.bsl 33 29 1 z29 [(0, 29, (.t 23))]),
 J 25 (.app 33 29 144 (.t 19) (.t 24)),
 M 4 25] 8)))
(F [J 26 (.bin .add (.t 15) (Z 1)),
 M 15 26] 2)))))))
(.seq
(F [M 27 4,
 M 2 27] 2)
.ret)))))
def rv : List RV := [.tmp 2]
/-! live order_Sort: [0, 2, 3, 4, 6, 13, 14, 15, 16] -/
theorem enter : En Try.prog 8 28 s rv := En.mk (c := Try.f8.body.getD .ret) Try.func8 rfl (by kernel_rfl) (by kernel_rfl) (by kernel_rfl) (by kernel_rfl)
end order_Sort
/-! ### tranter.order.Known -/
namespace order_Known
abbrev f : Nat := 9
def s : SCo := (.seq
(F [J 2 (.alloc 25 z8)] 1)
(.seq
(F [J 3 (.alloc 25 z8)] 1)
(.seq
(.seq
(F [M 6 0,
 J 7 (.len (.t 6)),
 J 8 (.mv (Z 0))] 3)
(.block 0
(.loop
(.seq
(F [J 9 (.bin .lss (.t 8) (.t 7))] 1)
(.seq
(.cond (.t 9)
.skip
(.exit 0))
(.seq
(.block 1
(.seq
(F [J 10 (.idxS 29 (.t 6) (.t 8)),
 J 11 (.load (some 29) (.t 10)),
 J 5 (.alloc 33 z29),
 N (.store 29 (.t 5) (.t 11))] 4)
(.seq
(F [J 12 (.fld 0 (.t 5)),
 J 13 (.fld 0 (.t 12)),
 J 14 (.load none (.t 13)),
 J 15 (.conv .i64 (.t 14)),
 J 16 (.bin .lss (.t 15) (Z 8))] 5)
(.cond (.t 16)
(.reg [J 17 (.fld 0 (.t 5)),
 J 18 (.fld 0 (.t 17)),
 J 19 (.load none (.t 18)),
 J 20 (.fld 0 (.t 5)),
 J 21 (.fld 0 (.t 20)),
 J 22 (.load none (.t 21)),
 J 23 (.idxA 8 1 (.t 3) (.t 22)),
 J 24 (.load none (.t 23)),
 J 25 (.fld 0 (.t 5)),
 J 26 (.fld 1 (.t 25)),
 J 27 (.load none (.t 26)),
 J 28 (.mx (.t 24) (.t 27)),
 J 29 (.idxA 8 1 (.t 3) (.t 19)),
 N (.store 1 (.t 29) (.t 28))] [0,
1,
3,
0,
8,
24,
56,
120,
0,
256,
768,
2040,
4095,
8191] true)
.skip))))
(F [J 30 (.bin .add (.t 8) (Z 1)),
 M 8 30] 2)))))))
(.seq
(F [J 31 (.load (some 8) (.t 3)),
 N (.store 8 (.t 2) (.t 31))] 2)
.ret))))
def rv : List RV := [.cell 2 (some 8)]
/-! live order_Known: [0, 2, 3, 5, 6, 7, 8, 9, 16] -/
theorem enter : En Try.prog 9 32 s rv := En.mk (c := Try.f9.body.getD .ret) Try.func9 rfl (by kernel_rfl) (by kernel_rfl) (by kernel_rfl) (by kernel_rfl)
end order_Known
/-! ### tranter.tranterref14.Known -/
namespace ref14_Known
abbrev f : Nat := 10
def s : SCo := (.seq
(F [J 2 (.alloc 25 z8)] 1)
(.seq
(F [J 3 (.alloc 25 z8)] 1)
(.seq
(.seq
(F [J 4 (.mv (Z 0))] 1)
(.block 0
(.loop
(.seq
(.seq
(F [M 6 4,
 M 7 0,
 J 8 (.len (.t 7)),
 J 9 (.bin .lss (.t 6) (.t 8))] 4)
(.cond (.t 9)
.skip
(.exit 0)))
(.seq
(.block 1
(.seq
(F [M 12 0,
 M 13 4,
 J 14 (.idxS 29 (.t 12) (.t 13)),
 J 15 (.fld 0 (.t 14)),
 J 16 (.load (some 2) (.t 15)),
 J 5 (.alloc 29 [b8 0, b32 0]),
 N (.store 2 (.t 5) (.t 16))] 7)
(.seq
(F [J 17 (.fld 0 (.t 5)),
 J 18 (.load none (.t 17)),
 J 19 (.bin .lss (.t 18) (.k (b8 8)))] 3)
(.cond (.t 19)
(.reg [J 20 (.fld 0 (.t 5)),
 J 21 (.load none (.t 20)),
 J 22 (.fld 0 (.t 5)),
 J 23 (.load none (.t 22)),
 J 24 (.idxA 8 1 (.t 3) (.t 23)),
 J 25 (.load none (.t 24)),
 J 26 (.fld 1 (.t 5)),
 J 27 (.load none (.t 26)),
 J 28 (.mx (.t 25) (.t 27)),
 J 29 (.idxA 8 1 (.t 3) (.t 21)),
 N (.store 1 (.t 29) (.t 28))] [0,
1,
0,
4,
12,
28,
0,
64,
252,
511,
1023] true)
.skip))))
(F [M 10 4,
 J 11 (.bin .add (.t 10) (Z 1)),
 M 4 11] 3))))))
(.seq
(F [J 30 (.load (some 8) (.t 3)),
 N (.store 8 (.t 2) (.t 30))] 2)
.ret))))
def rv : List RV := [.cell 2 (some 8)]
/-! live ref14_Known: [0, 2, 3, 4, 5, 9, 19] -/
theorem enter : En Try.prog 10 31 s rv := En.mk (c := Try.f10.body.getD .ret) Try.func10 rfl (by kernel_rfl) (by kernel_rfl) (by kernel_rfl) (by kernel_rfl)
end ref14_Known
/-! ### tranter.tranterlaw14.three -/
namespace law14_three
abbrev f : Nat := 11
def s : SCo := (.seq
(F [J 0 (.mv (.k (.d .nils)))] 1)
(.seq
(F [J 4 (.bld [b8 0, b32 0] [(1, 1, (.k (b32 1)))]),
 J 5 (.bld [b8 0, b32 0] [(1, 1, (.k (b32 1)))]),
 J 6 (.bld z29 [(0, 2, (.t 4)), (10, 1, (.k (b64 1))), (11, 1, (.k (b32 1))), (12, 2, (.t 5))]),
 J 1 (.alloc 33 z29),
 N (.store 29 (.t 1) (.t 6))] 5)
(.seq
(F [J 7 (.bld [b8 0, b32 0] [(0, 1, (.k (b8 1))), (1, 1, (.k (b32 1)))]),
 J 8 (.bld z8 [(0, 1, (.k (b32 1)))]),
 J 9 (.bld [b8 0, b32 0] [(0, 1, (.k (b8 1))), (1, 1, (.k (b32 1)))]),
 J 10 (.bld z29 [(0, 2, (.t 7)), (2, 8, (.t 8)), (10, 1, (.k (b64 2))), (11, 1, (.k (b32 1))), (12, 2, (.t 9))]),
 J 2 (.alloc 33 z29),
 N (.store 29 (.t 2) (.t 10))] 6)
(.seq
(F [J 11 (.bld [b8 0, b32 0] [(1, 1, (.k (b32 2)))]),
 J 12 (.bld z8 [(0, 1, (.k (b32 1))), (1, 1, (.k (b32 1)))]),
 J 13 (.bld [b8 0, b32 0] [(1, 1, (.k (b32 2)))]),
 J 14 (.bld z29 [(0, 2, (.t 11)), (2, 8, (.t 12)), (10, 1, (.k (b64 3))), (11, 1, (.k (b32 1))), (12, 2, (.t 13))]),
 J 3 (.alloc 33 z29),
 N (.store 29 (.t 3) (.t 14))] 6)
(.seq
(F [J 15 (.load (some 29) (.t 3)),
 J 16 (.load (some 29) (.t 1)),
 J 17 (.load (some 29) (.t 2)),
 J 18 (.bsl 33 29 3 [b8 0, b32 0, b32 0, b32 0, b32 0, b32 0, b32 0, b32 0, b32 0, b32 0, b64 0, b32 0, b8 0, b32 0, b8 0, b8 0, b32 0, b32 0, b8 0, b8 0, b64 0, b8 0, b32 0, b8 0, b32 0, b32 0, b32 0, b32 0, (.d .nils), b8 0, b32 0, b32 0, b32 0, b32 0, b32 0, b32 0, b32 0, b32 0, b32 0, b64 0, b32 0, b8 0, b32 0, b8 0, b8 0, b32 0, b32 0, b8 0, b8 0, b64 0, b8 0, b32 0, b8 0, b32 0, b32 0, b32 0, b32 0, (.d .nils), b8 0, b32 0, b32 0, b32 0, b32 0, b32 0, b32 0, b32 0, b32 0, b32 0, b64 0, b32 0, b8 0, b32 0, b8 0, b8 0, b32 0, b32 0, b8 0, b8 0, b64 0, b8 0, b32 0, b8 0, b32 0, b32 0, b32 0, b32 0, (.d .nils)] [(0, 29, (.t 15)), (29, 29, (.t 16)), (58, 29, (.t 17))]),
 M 0 18] 5)
.ret)))))
def rv : List RV := [.tmp 0]
/-! live law14_three: [0, 1, 2, 3] -/
theorem enter : En Try.prog 11 19 s rv := En.mk (c := Try.f11.body.getD .ret) Try.func11 rfl (by kernel_rfl) (by kernel_rfl) (by kernel_rfl) (by kernel_rfl)
end law14_three
/-! ### tranter.gossip.Delta -/
namespace gossip_Delta
abbrev f : Nat := 12
def s : SCo := (.seq
(F [J 8 (.box 25 (.t 3)),
 J 9 (.box 3 (.t 4)),
 J 10 (.alloc 41 [b8 0, b8 0, b8 0, b32 0, b32 0, b32 0, b32 0, b32 0, b32 0, b32 0, b32 0, (.d .nils)]),
 J 11 (.mv (Z 0))] 4)
(.seq
(F [M 16 0,
 M 17 1,
 M 18 2,
 J 19 (.call (C 9) [(.t 18)]),
 J 20 (.bld [b8 0, b8 0, b8 0, b32 0, b32 0, b32 0, b32 0, b32 0, b32 0, b32 0, b32 0, (.d .nils)] [(0, 1, (.k (b8 1))), (1, 1, (.t 16)), (2, 1, (.t 17)), (3, 8, (.t 19))]),
 J 21 (.call (C 26) [(.t 20), (Z 2)]),
 M 15 21,
 J 22 (.ext 0 (.t 15)),
 J 23 (.ext 1 (.t 15)),
 J 12 (.alloc 41 [b8 0, b8 0, b8 0, b32 0, b32 0, b32 0, b32 0, b32 0, b32 0, b32 0, b32 0, (.d .nils)]),
 N (.store 12 (.t 12) (.t 22)),
 M 13 23] 12)
(.seq
(.block 0
(.seq
(F [M 25 13,
 J 26 (.bin .neq (.t 25) (Z 0)),
 M 24 26] 3)
(.cond (.t 24)
(.seq
(F [J 27 (.load (some 12) (.t 12)),
 M 28 13,
 N (.store 12 (.t 10) (.t 27)),
 M 11 28] 4)
.ret)
(.seq
(F [J 30 (.load none (.t 9)),
 J 31 (.bin .lss (.t 30) (Z 1)),
 M 32 31,
 H 33 (.load none (.t 9)) 32 false,
 H 34 (.bin .gtr (.t 33) (Z 64)) 32 false,
 J 35 (.pick (.t 32) (B true) (.t 34)),
 M 29 35] 7)
(.cond (.t 29)
(.seq
(F [J 36 (.bld [b8 0, b8 0, b8 0, b32 0, b32 0, b32 0, b32 0, b32 0, b32 0, b32 0, b32 0, (.d .nils)] []),
 N (.store 12 (.t 10) (.t 36)),
 J 11 (.mv (Z 2))] 3)
.ret)
.skip)))))
(.seq
(.seq
(F [M 37 2,
 J 38 (.load (some 8) (.t 8)),
 J 39 (.call (C 17) [(.t 37), (.t 38)])] 3)
(.block 1
(.rfun (.t 39) [40]
(F [J 14 (.alloc 33 z29),
 N (.store 29 (.t 14) (.t 40))] 2)
(.block 2
(.seq
(.seq
(F [J 41 (.fld 11 (.t 12)),
 J 42 (.load none (.t 41)),
 J 43 (.len (.t 42)),
 J 44 (.load none (.t 9)),
 J 45 (.bin .eql (.t 43) (.t 44))] 5)
(.cond (.t 45)
(.exit 1)
.skip))
(F [J 46 (.fld 11 (.t 12)),
 J 47 (.load none (.t 46)),
 J 48 (.load (some 29) (.t 14)),
 J 49 (.bsl 33 29 1 z29 [(0, 29, (.t 48))]),
 J 50 (.app 33 29 144 (.t 47) (.t 49)),
 J 51 (.fld 11 (.t 12)),
 N (.store 1 (.t 51) (.t 50))] 7))))))
(.seq
(F [J 52 (.load (some 12) (.t 12)),
 J 53 (.call (C 26) [(.t 52), (Z 3)]),
 J 54 (.ext 0 (.t 53)),
 J 55 (.ext 1 (.t 53)),
 N (.store 12 (.t 10) (.t 54)),
 M 11 55] 6)
.ret)))))
def rv : List RV := [.cell 10 (some 12), .tmp 11]
/-! live gossip_Delta: [0, 1, 2, 3, 4, 8, 9, 10, 11, 12, 13, 14, 24, 29, 39, 40, 45] -/
theorem enter : En Try.prog 12 56 s rv := En.mk (c := Try.f12.body.getD .ret) Try.func12 rfl (by kernel_rfl) (by kernel_rfl) (by kernel_rfl) (by kernel_rfl)
end gossip_Delta
/-! ### tranter.tranterref05.SameAll -/
namespace ref05_SameAll
abbrev f : Nat := 13
def s : SCo := (.seq
(F [J 4 (.mv (B false))] 1)
(.seq
(.seq
(F [M 6 0,
 J 7 (.len (.t 6)),
 M 8 1,
 J 9 (.len (.t 8)),
 J 10 (.bin .neq (.t 7) (.t 9))] 5)
(.cond (.t 10)
(.seq
(F [J 4 (.mv (B false))] 1)
.ret)
.skip))
(.seq
(.seq
(F [J 5 (.mv (Z 0))] 1)
(.block 0
(.loop
(.seq
(.seq
(F [M 11 5,
 M 12 0,
 J 13 (.len (.t 12)),
 J 14 (.bin .lss (.t 11) (.t 13))] 4)
(.cond (.t 14)
.skip
(.exit 0)))
(.seq
(.block 1
(.seq
(.reg [M 17 0,
 M 18 5,
 J 19 (.idxS 29 (.t 17) (.t 18)),
 J 20 (.load (some 29) (.t 19)),
 M 21 1,
 M 22 5,
 J 23 (.idxS 29 (.t 21) (.t 22)),
 J 24 (.load (some 29) (.t 23)),
 J 25 (.call (C 27) [(.t 20), (.t 24)]),
 J 26 (.not (.t 25))] [0,
0,
3,
7,
0,
0,
48,
112,
255,
511] true)
(.cond (.t 26)
(.seq
(F [J 4 (.mv (B false))] 1)
.ret)
.skip)))
(F [M 15 5,
 J 16 (.bin .add (.t 15) (Z 1)),
 M 5 16] 3))))))
(.seq
(F [J 4 (.mv (B true))] 1)
.ret))))
def rv : List RV := [.tmp 4]
/-! live ref05_SameAll: [0, 1, 4, 5, 10, 14, 26] -/
theorem enter : En Try.prog 13 27 s rv := En.mk (c := Try.f13.body.getD .ret) Try.func13 rfl (by kernel_rfl) (by kernel_rfl) (by kernel_rfl) (by kernel_rfl)
end ref05_SameAll
/-! ### tranter.tranterref06.Same -/
namespace ref06_Same
abbrev f : Nat := 14
def s : SCo := (.seq
(F [J 2 (.box 41 (.t 0)),
 J 3 (.box 41 (.t 1)),
 J 4 (.mv (B false))] 3)
(.seq
(F (J 5 (.fld 0 (.t 2)) ::
 J 6 (.load none (.t 5)) ::
 J 7 (.fld 0 (.t 3)) ::
 J 8 (.load none (.t 7)) ::
 J 9 (.bin .eql (.t 6) (.t 8)) ::
 M 10 9 ::
 H 11 (.fld 1 (.t 2)) 10 true ::
 H 12 (.load none (.t 11)) 10 true ::
 H 13 (.fld 1 (.t 3)) 10 true ::
 H 14 (.load none (.t 13)) 10 true ::
 H 15 (.bin .eql (.t 12) (.t 14)) 10 true ::
 J 16 (.pick (.t 10) (.t 15) (B false)) ::
 M 17 16 ::
 H 18 (.fld 2 (.t 2)) 17 true ::
 H 19 (.load none (.t 18)) 17 true ::
 H 20 (.fld 2 (.t 3)) 17 true ::
 H 21 (.load none (.t 20)) 17 true ::
 H 22 (.bin .eql (.t 19) (.t 21)) 17 true ::
 J 23 (.pick (.t 17) (.t 22) (B false)) ::
 M 24 23 ::
 H 25 (.fld 3 (.t 2)) 24 true ::
 H 26 (.load (some 8) (.t 25)) 24 true ::
 H 27 (.fld 3 (.t 3)) 24 true ::
 H 28 (.load (some 8) (.t 27)) 24 true ::
 H 29 (.eqv false [true, true, true, true, true, true, true, true] (.t 26) (.t 28)) 24 true ::
 J 30 (.pick (.t 24) (.t 29) (B false)) ::
 M 31 30 ::
 H 32 (.fld 11 (.t 2)) 31 true ::
 H 33 (.load none (.t 32)) 31 true ::
 H 34 (.fld 11 (.t 3)) 31 true ::
 H 35 (.load none (.t 34)) 31 true ::
 H 36 (.call (C 13) [(.t 33), (.t 35)]) 31 true ::
 J 37 (.pick (.t 31) (.t 36) (B false)) ::
 M 4 37 :: []) 34)
.ret))
def rv : List RV := [.tmp 4]
/-! live ref06_Same: [0, 1, 2, 3, 4] -/
theorem enter : En Try.prog 14 38 s rv := En.mk (c := Try.f14.body.getD .ret) Try.func14 rfl (by kernel_rfl) (by kernel_rfl) (by kernel_rfl) (by kernel_rfl)
end ref06_Same
/-! ### tranter.gossip.Rounds -/
namespace gossip_Rounds
abbrev f : Nat := 15
def s : SCo := (.seq
(F [J 4 (.mv (Z 0))] 1)
(.seq
(.block 0
(.seq
(F [M 6 0,
 J 7 (.bin .leq (.t 6) (Z 0)),
 M 5 7] 3)
(.cond (.t 5)
(.seq
(F [J 4 (.mv (Z 0))] 1)
.ret)
(.seq
(F [M 9 1,
 J 10 (.bin .leq (.t 9) (Z 0)),
 M 8 10] 3)
(.cond (.t 8)
(.seq
(F [M 11 0,
 M 4 11] 2)
.ret)
.skip)))))
(.seq
(F [M 12 0,
 J 13 (.bin .sub (.t 12) (Z 1)),
 M 14 1,
 J 15 (.bin .quo (.t 13) (.t 14)),
 J 16 (.bin .add (.t 15) (Z 1)),
 M 4 16] 6)
.ret)))
def rv : List RV := [.tmp 4]
/-! live gossip_Rounds: [0, 1, 4, 5, 8] -/
theorem enter : En Try.prog 15 17 s rv := En.mk (c := Try.f15.body.getD .ret) Try.func15 rfl (by kernel_rfl) (by kernel_rfl) (by kernel_rfl) (by kernel_rfl)
end gossip_Rounds
/-! ### slices.Collect[tranter.api.Op] -/
namespace slices_Collect_api_Op
abbrev f : Nat := 16
def s : SCo := (.seq
(F [J 2 (.mv (.k (.d .nils)))] 1)
(.seq
(F [M 3 0,
 J 4 (.call (C 28) [(.k (.d .nils)), (.t 3)]),
 M 2 4] 3)
.ret))
def rv : List RV := [.tmp 2]
/-! live slices_Collect_api_Op: [0, 2] -/
theorem enter : En Try.prog 16 5 s rv := En.mk (c := Try.f16.body.getD .ret) Try.func16 rfl (by kernel_rfl) (by kernel_rfl) (by kernel_rfl) (by kernel_rfl)
end slices_Collect_api_Op
/-! ### tranter.gossip.lacked -/
namespace gossip_lacked
abbrev f : Nat := 17
def s : SCo := (.seq
(F [J 2 (.box 22 (.t 0)),
 J 3 (.box 25 (.t 1)),
 J 4 (.mv (.k (.d .nilf)))] 3)
(.seq
(F [J 5 (.mkf (.func 29) [] [(.t 2), (.t 3)]),
 M 4 5] 2)
.ret))
def rv : List RV := [.tmp 4]
/-! live gossip_lacked: [0, 1, 2, 3, 4] -/
theorem enter : En Try.prog 17 6 s rv := En.mk (c := Try.f17.body.getD .ret) Try.func17 rfl (by kernel_rfl) (by kernel_rfl) (by kernel_rfl) (by kernel_rfl)
end gossip_lacked
/-! ### cmp.Or[int] -/
namespace cmp_Or_int
abbrev f : Nat := 18
def s : SCo := (.seq
(F [J 2 (.mv (Z 0))] 1)
(.seq
(F [J 3 (.mv (Z 0))] 1)
(.seq
(.seq
(F [M 6 0,
 J 7 (.len (.t 6)),
 J 8 (.mv (Z 0))] 3)
(.block 0
(.loop
(.seq
(F [J 9 (.bin .lss (.t 8) (.t 7))] 1)
(.seq
(.cond (.t 9)
.skip
(.exit 0))
(.seq
(.block 1
(.seq
(F [J 10 (.idxS 1 (.t 6) (.t 8)),
 J 11 (.load none (.t 10)),
 M 5 11] 3)
(.seq
(F [M 12 5,
 M 13 3,
 J 14 (.bin .neq (.t 12) (.t 13))] 3)
(.cond (.t 14)
(.seq
(F [M 15 5,
 M 2 15] 2)
.ret)
.skip))))
(F [J 16 (.bin .add (.t 8) (Z 1)),
 M 8 16] 2)))))))
(.seq
(F [M 17 3,
 M 2 17] 2)
.ret))))
def rv : List RV := [.tmp 2]
/-! live cmp_Or_int: [0, 2, 3, 5, 6, 7, 8, 9, 14] -/
theorem enter : En Try.prog 18 18 s rv := En.mk (c := Try.f18.body.getD .ret) Try.func18 rfl (by kernel_rfl) (by kernel_rfl) (by kernel_rfl) (by kernel_rfl)
end cmp_Or_int
/-! ### cmp.Compare[uint64] -/
namespace cmp_Compare_uint64
abbrev f : Nat := 19
def s : SCo := (.seq
(F [J 4 (.mv (Z 0))] 1)
(.seq
(F [M 7 0,
 J 8 (.call (C 33) [(.t 7)]),
 M 5 8] 3)
(.seq
(F [M 9 1,
 J 10 (.call (C 33) [(.t 9)]),
 M 6 10] 3)
(.seq
(.seq
(F [M 11 5] 1)
(.cond (.t 11)
(.seq
(.seq
(F [M 12 6] 1)
(.cond (.t 12)
(.seq
(F [J 4 (.mv (Z 0))] 1)
.ret)
.skip))
(.seq
(F [J 4 (.mv (.k (.d (.int .i64 (-1)))))] 1)
.ret))
.skip))
(.seq
(.seq
(F [M 13 6] 1)
(.cond (.t 13)
(.seq
(F [J 4 (.mv (Z 1))] 1)
.ret)
.skip))
(.seq
(.seq
(F [M 14 0,
 M 15 1,
 J 16 (.bin .lss (.t 14) (.t 15))] 3)
(.cond (.t 16)
(.seq
(F [J 4 (.mv (.k (.d (.int .i64 (-1)))))] 1)
.ret)
.skip))
(.seq
(.seq
(F [M 17 0,
 M 18 1,
 J 19 (.bin .gtr (.t 17) (.t 18))] 3)
(.cond (.t 19)
(.seq
(F [J 4 (.mv (Z 1))] 1)
.ret)
.skip))
(.seq
(F [J 4 (.mv (Z 0))] 1)
.ret))))))))
def rv : List RV := [.tmp 4]
/-! live cmp_Compare_uint64: [0, 1, 4, 5, 6, 11, 12, 13, 16, 19] -/
theorem enter : En Try.prog 19 20 s rv := En.mk (c := Try.f19.body.getD .ret) Try.func19 rfl (by kernel_rfl) (by kernel_rfl) (by kernel_rfl) (by kernel_rfl)
end cmp_Compare_uint64
/-! ### cmp.Compare[uint8] -/
namespace cmp_Compare_uint8
abbrev f : Nat := 20
def s : SCo := (.seq
(F [J 4 (.mv (Z 0))] 1)
(.seq
(F [M 7 0,
 J 8 (.call (C 34) [(.t 7)]),
 M 5 8] 3)
(.seq
(F [M 9 1,
 J 10 (.call (C 34) [(.t 9)]),
 M 6 10] 3)
(.seq
(.seq
(F [M 11 5] 1)
(.cond (.t 11)
(.seq
(.seq
(F [M 12 6] 1)
(.cond (.t 12)
(.seq
(F [J 4 (.mv (Z 0))] 1)
.ret)
.skip))
(.seq
(F [J 4 (.mv (.k (.d (.int .i64 (-1)))))] 1)
.ret))
.skip))
(.seq
(.seq
(F [M 13 6] 1)
(.cond (.t 13)
(.seq
(F [J 4 (.mv (Z 1))] 1)
.ret)
.skip))
(.seq
(.seq
(F [M 14 0,
 M 15 1,
 J 16 (.bin .lss (.t 14) (.t 15))] 3)
(.cond (.t 16)
(.seq
(F [J 4 (.mv (.k (.d (.int .i64 (-1)))))] 1)
.ret)
.skip))
(.seq
(.seq
(F [M 17 0,
 M 18 1,
 J 19 (.bin .gtr (.t 17) (.t 18))] 3)
(.cond (.t 19)
(.seq
(F [J 4 (.mv (Z 1))] 1)
.ret)
.skip))
(.seq
(F [J 4 (.mv (Z 0))] 1)
.ret))))))))
def rv : List RV := [.tmp 4]
/-! live cmp_Compare_uint8: [0, 1, 4, 5, 6, 11, 12, 13, 16, 19] -/
theorem enter : En Try.prog 20 20 s rv := En.mk (c := Try.f20.body.getD .ret) Try.func20 rfl (by kernel_rfl) (by kernel_rfl) (by kernel_rfl) (by kernel_rfl)
end cmp_Compare_uint8
/-! ### cmp.Compare[uint32] -/
namespace cmp_Compare_uint32
abbrev f : Nat := 21
def s : SCo := (.seq
(F [J 4 (.mv (Z 0))] 1)
(.seq
(F [M 7 0,
 J 8 (.call (C 35) [(.t 7)]),
 M 5 8] 3)
(.seq
(F [M 9 1,
 J 10 (.call (C 35) [(.t 9)]),
 M 6 10] 3)
(.seq
(.seq
(F [M 11 5] 1)
(.cond (.t 11)
(.seq
(.seq
(F [M 12 6] 1)
(.cond (.t 12)
(.seq
(F [J 4 (.mv (Z 0))] 1)
.ret)
.skip))
(.seq
(F [J 4 (.mv (.k (.d (.int .i64 (-1)))))] 1)
.ret))
.skip))
(.seq
(.seq
(F [M 13 6] 1)
(.cond (.t 13)
(.seq
(F [J 4 (.mv (Z 1))] 1)
.ret)
.skip))
(.seq
(.seq
(F [M 14 0,
 M 15 1,
 J 16 (.bin .lss (.t 14) (.t 15))] 3)
(.cond (.t 16)
(.seq
(F [J 4 (.mv (.k (.d (.int .i64 (-1)))))] 1)
.ret)
.skip))
(.seq
(.seq
(F [M 17 0,
 M 18 1,
 J 19 (.bin .gtr (.t 17) (.t 18))] 3)
(.cond (.t 19)
(.seq
(F [J 4 (.mv (Z 1))] 1)
.ret)
.skip))
(.seq
(F [J 4 (.mv (Z 0))] 1)
.ret))))))))
def rv : List RV := [.tmp 4]
/-! live cmp_Compare_uint32: [0, 1, 4, 5, 6, 11, 12, 13, 16, 19] -/
theorem enter : En Try.prog 21 20 s rv := En.mk (c := Try.f21.body.getD .ret) Try.func21 rfl (by kernel_rfl) (by kernel_rfl) (by kernel_rfl) (by kernel_rfl)
end cmp_Compare_uint32
/-! ### tranter.order.indexOf -/
namespace order_indexOf
abbrev f : Nat := 22
def s : SCo := (.seq
(F [J 2 (.alloc 58 [(.d .nils), (.d .nilm)])] 1)
(.seq
(F [M 8 0,
 J 9 (.mkm),
 J 10 (.bld [(.d .nils), (.d .nilm)] [(0, 1, (.t 8)), (1, 1, (.t 9))]),
 J 3 (.alloc 58 [(.d .nils), (.d .nilm)]),
 N (.store 2 (.t 3) (.t 10))] 5)
(.seq
(.seq
(F [M 11 0,
 J 12 (.len (.t 11)),
 J 13 (.mv (Z 0))] 3)
(.block 0
(.loop
(.seq
(F [J 14 (.bin .lss (.t 13) (.t 12))] 1)
(.seq
(.cond (.t 14)
.skip
(.exit 0))
(.seq
(.block 1
(.seq
(F [M 15 13,
 J 16 (.idxS 29 (.t 11) (.t 13)),
 J 17 (.load (some 29) (.t 16)),
 J 5 (.alloc 33 z29),
 M 4 15,
 N (.store 29 (.t 5) (.t 17))] 6)
(.seq
(F [J 19 (.fld 1 (.t 3)),
 J 20 (.load none (.t 19)),
 J 21 (.fld 0 (.t 5)),
 J 22 (.load (some 2) (.t 21)),
 J 23 (.look [true, true] true (i6 0) (.t 20) (.t 22) true),
 M 18 23,
 J 24 (.ext 0 (.t 18)),
 J 25 (.ext 1 (.t 18)),
 M 6 24,
 M 7 25] 10)
(.seq
(F [M 26 7,
 J 27 (.not (.t 26))] 2)
(.cond (.t 27)
(F [J 28 (.fld 1 (.t 3)),
 J 29 (.load none (.t 28)),
 J 30 (.fld 0 (.t 5)),
 J 31 (.load (some 2) (.t 30)),
 M 32 4,
 N (.mset [true, true] true (.t 29) (.t 31) (.t 32))] 6)
.skip)))))
(F [J 33 (.bin .add (.t 13) (Z 1)),
 M 13 33] 2)))))))
(.seq
(F [J 34 (.load (some 2) (.t 3)),
 N (.store 2 (.t 2) (.t 34))] 2)
.ret))))
def rv : List RV := [.cell 2 (some 2)]
/-! live order_indexOf: [0, 2, 3, 4, 5, 7, 11, 12, 13, 14, 27] -/
theorem enter : En Try.prog 22 35 s rv := En.mk (c := Try.f22.body.getD .ret) Try.func22 rfl (by kernel_rfl) (by kernel_rfl) (by kernel_rfl) (by kernel_rfl)
end order_indexOf
/-! ### slices.SortedFunc[int] -/
namespace slices_SortedFunc_int
abbrev f : Nat := 23
def s : SCo := (.seq
(F [J 4 (.mv (.k (.d .nils)))] 1)
(.seq
(F [M 6 0,
 J 7 (.call (C 36) [(.t 6)]),
 M 5 7] 3)
(.seq
(F [M 8 5,
 M 9 1,
 J 10 (.call (C 37) [(.t 8), (.t 9)])] 3)
(.seq
(F [M 11 5,
 M 4 11] 2)
.ret))))
def rv : List RV := [.tmp 4]
/-! live slices_SortedFunc_int: [0, 1, 4, 5] -/
theorem enter : En Try.prog 23 12 s rv := En.mk (c := Try.f23.body.getD .ret) Try.func23 rfl (by kernel_rfl) (by kernel_rfl) (by kernel_rfl) (by kernel_rfl)
end slices_SortedFunc_int
/-! ### (tranter.order.index).once -/
namespace order_index_once
abbrev f : Nat := 24
def s : SCo := (.seq
(F [J 1 (.box 58 (.t 0)),
 J 2 (.mv (.k (.d .nilf)))] 2)
(.seq
(F [J 3 (.mkf (.func 38) [] [(.t 1)]),
 M 2 3] 2)
.ret))
def rv : List RV := [.tmp 2]
/-! live order_index_once: [0, 1, 2] -/
theorem enter : En Try.prog 24 4 s rv := En.mk (c := Try.f24.body.getD .ret) Try.func24 rfl (by kernel_rfl) (by kernel_rfl) (by kernel_rfl) (by kernel_rfl)
end order_index_once
/-! ### (tranter.order.index).compare -/
namespace order_index_compare
abbrev f : Nat := 25
def s : SCo := (.seq
(F [J 3 (.box 58 (.t 0)),
 J 6 (.mv (Z 0))] 2)
(.seq
(.reg [J 7 (.fld 0 (.t 3)),
 J 8 (.load none (.t 7)),
 M 9 1,
 J 10 (.idxS 29 (.t 8) (.t 9)),
 J 11 (.load (some 29) (.t 10)),
 J 12 (.fld 0 (.t 3)),
 J 13 (.load none (.t 12)),
 M 14 2,
 J 15 (.idxS 29 (.t 13) (.t 14)),
 J 16 (.load (some 29) (.t 15)),
 J 17 (.call (C 7) [(.t 11), (.t 16)]),
 M 6 17] [0,
1,
0,
7,
15,
0,
32,
0,
224,
480,
1023,
2047] true)
.ret))
def rv : List RV := [.tmp 6]
/-! live order_index_compare: [0, 1, 2, 3, 6] -/
theorem enter : En Try.prog 25 18 s rv := En.mk (c := Try.f25.body.getD .ret) Try.func25 rfl (by kernel_rfl) (by kernel_rfl) (by kernel_rfl) (by kernel_rfl)
end order_index_compare
/-! ### tranter.gossip.may -/
namespace gossip_may
abbrev f : Nat := 26
def s : SCo := (.seq
(F [J 2 (.box 41 (.t 0)),
 J 4 (.alloc 41 [b8 0, b8 0, b8 0, b32 0, b32 0, b32 0, b32 0, b32 0, b32 0, b32 0, b32 0, (.d .nils)]),
 J 5 (.mv (Z 0))] 3)
(.seq
(.seq
(F [J 6 (.load (some 12) (.t 2)),
 J 7 (.call (C 39) [(.t 6)]),
 J 8 (.not (.t 7))] 3)
(.cond (.t 8)
(.seq
(F [J 9 (.bld [b8 0, b8 0, b8 0, b32 0, b32 0, b32 0, b32 0, b32 0, b32 0, b32 0, b32 0, (.d .nils)] []),
 M 10 1,
 N (.store 12 (.t 4) (.t 9)),
 M 5 10] 4)
.ret)
.skip))
(.seq
(F [J 11 (.load (some 12) (.t 2)),
 N (.store 12 (.t 4) (.t 11)),
 J 5 (.mv (Z 0))] 3)
.ret)))
def rv : List RV := [.cell 4 (some 12), .tmp 5]
/-! live gossip_may: [0, 1, 2, 4, 5, 8] -/
theorem enter : En Try.prog 26 12 s rv := En.mk (c := Try.f26.body.getD .ret) Try.func26 rfl (by kernel_rfl) (by kernel_rfl) (by kernel_rfl) (by kernel_rfl)
end gossip_may
/-! ### tranter.tranterref05.Same -/
namespace ref05_Same
abbrev f : Nat := 27
def s : SCo := (.seq
(F [J 2 (.box 33 (.t 0)),
 J 3 (.box 33 (.t 1)),
 J 4 (.mv (B false))] 3)
(.seq
(.seq
(F [J 6 (.fld 28 (.t 2)),
 J 7 (.load none (.t 6)),
 J 8 (.len (.t 7)),
 J 9 (.fld 28 (.t 3)),
 J 10 (.load none (.t 9)),
 J 11 (.len (.t 10)),
 J 12 (.bin .neq (.t 8) (.t 11))] 7)
(.cond (.t 12)
(.seq
(F [J 4 (.mv (B false))] 1)
.ret)
.skip))
(.seq
(.seq
(F [J 5 (.mv (Z 0))] 1)
(.block 0
(.loop
(.seq
(.seq
(F [M 13 5,
 J 14 (.fld 28 (.t 2)),
 J 15 (.load none (.t 14)),
 J 16 (.len (.t 15)),
 J 17 (.bin .lss (.t 13) (.t 16))] 5)
(.cond (.t 17)
.skip
(.exit 0)))
(.seq
(.block 1
(.seq
(.reg [J 20 (.fld 28 (.t 2)),
 J 21 (.load none (.t 20)),
 M 22 5,
 J 23 (.idxS 4 (.t 21) (.t 22)),
 J 24 (.load (some 4) (.t 23)),
 J 25 (.fld 28 (.t 3)),
 J 26 (.load none (.t 25)),
 M 27 5,
 J 28 (.idxS 4 (.t 26) (.t 27)),
 J 29 (.load (some 4) (.t 28)),
 J 30 (.eqv true [true, true, true, true] (.t 24) (.t 29))] [0,
1,
0,
7,
15,
0,
32,
0,
224,
480,
1023] true)
(.cond (.t 30)
(.seq
(F [J 4 (.mv (B false))] 1)
.ret)
.skip)))
(F [M 18 5,
 J 19 (.bin .add (.t 18) (Z 1)),
 M 5 19] 3))))))
(.seq
(F (J 31 (.fld 0 (.t 2)) ::
 J 32 (.load (some 2) (.t 31)) ::
 J 33 (.fld 0 (.t 3)) ::
 J 34 (.load (some 2) (.t 33)) ::
 J 35 (.eqv false [true, true] (.t 32) (.t 34)) ::
 M 36 35 ::
 H 37 (.fld 2 (.t 2)) 36 true ::
 H 38 (.load (some 8) (.t 37)) 36 true ::
 H 39 (.fld 2 (.t 3)) 36 true ::
 H 40 (.load (some 8) (.t 39)) 36 true ::
 H 41 (.eqv false [true, true, true, true, true, true, true, true] (.t 38) (.t 40)) 36 true ::
 J 42 (.pick (.t 36) (.t 41) (B false)) ::
 M 43 42 ::
 H 44 (.fld 10 (.t 2)) 43 true ::
 H 45 (.load none (.t 44)) 43 true ::
 H 46 (.fld 10 (.t 3)) 43 true ::
 H 47 (.load none (.t 46)) 43 true ::
 H 48 (.bin .eql (.t 45) (.t 47)) 43 true ::
 J 49 (.pick (.t 43) (.t 48) (B false)) ::
 M 50 49 ::
 H 51 (.fld 11 (.t 2)) 50 true ::
 H 52 (.load none (.t 51)) 50 true ::
 H 53 (.fld 11 (.t 3)) 50 true ::
 H 54 (.load none (.t 53)) 50 true ::
 H 55 (.bin .eql (.t 52) (.t 54)) 50 true ::
 J 56 (.pick (.t 50) (.t 55) (B false)) ::
 M 57 56 ::
 H 58 (.fld 12 (.t 2)) 57 true ::
 H 59 (.load (some 2) (.t 58)) 57 true ::
 H 60 (.fld 12 (.t 3)) 57 true ::
 H 61 (.load (some 2) (.t 60)) 57 true ::
 H 62 (.eqv false [true, true] (.t 59) (.t 61)) 57 true ::
 J 63 (.pick (.t 57) (.t 62) (B false)) ::
 M 64 63 ::
 H 65 (.fld 14 (.t 2)) 64 true ::
 H 66 (.load none (.t 65)) 64 true ::
 H 67 (.fld 14 (.t 3)) 64 true ::
 H 68 (.load none (.t 67)) 64 true ::
 H 69 (.bin .eql (.t 66) (.t 68)) 64 true ::
 J 70 (.pick (.t 64) (.t 69) (B false)) ::
 M 71 70 ::
 H 72 (.fld 15 (.t 2)) 71 true ::
 H 73 (.load (some 2) (.t 72)) 71 true ::
 H 74 (.fld 15 (.t 3)) 71 true ::
 H 75 (.load (some 2) (.t 74)) 71 true ::
 H 76 (.eqv false [true, true] (.t 73) (.t 75)) 71 true ::
 J 77 (.pick (.t 71) (.t 76) (B false)) ::
 M 78 77 ::
 H 79 (.fld 17 (.t 2)) 78 true ::
 H 80 (.load none (.t 79)) 78 true ::
 H 81 (.fld 17 (.t 3)) 78 true ::
 H 82 (.load none (.t 81)) 78 true ::
 H 83 (.bin .eql (.t 80) (.t 82)) 78 true ::
 J 84 (.pick (.t 78) (.t 83) (B false)) ::
 M 85 84 ::
 H 86 (.fld 18 (.t 2)) 85 true ::
 H 87 (.load none (.t 86)) 85 true ::
 H 88 (.fld 18 (.t 3)) 85 true ::
 H 89 (.load none (.t 88)) 85 true ::
 H 90 (.bin .eql (.t 87) (.t 89)) 85 true ::
 J 91 (.pick (.t 85) (.t 90) (B false)) ::
 M 92 91 ::
 H 93 (.fld 19 (.t 2)) 92 true ::
 H 94 (.load none (.t 93)) 92 true ::
 H 95 (.fld 19 (.t 3)) 92 true ::
 H 96 (.load none (.t 95)) 92 true ::
 H 97 (.bin .eql (.t 94) (.t 96)) 92 true ::
 J 98 (.pick (.t 92) (.t 97) (B false)) ::
 M 99 98 ::
 H 100 (.fld 20 (.t 2)) 99 true ::
 H 101 (.load none (.t 100)) 99 true ::
 H 102 (.fld 20 (.t 3)) 99 true ::
 H 103 (.load none (.t 102)) 99 true ::
 H 104 (.bin .eql (.t 101) (.t 103)) 99 true ::
 J 105 (.pick (.t 99) (.t 104) (B false)) ::
 M 106 105 ::
 H 107 (.fld 21 (.t 2)) 106 true ::
 H 108 (.load (some 2) (.t 107)) 106 true ::
 H 109 (.fld 21 (.t 3)) 106 true ::
 H 110 (.load (some 2) (.t 109)) 106 true ::
 H 111 (.eqv false [true, true] (.t 108) (.t 110)) 106 true ::
 J 112 (.pick (.t 106) (.t 111) (B false)) ::
 M 113 112 ::
 H 114 (.fld 23 (.t 2)) 113 true ::
 H 115 (.load (some 2) (.t 114)) 113 true ::
 H 116 (.fld 23 (.t 3)) 113 true ::
 H 117 (.load (some 2) (.t 116)) 113 true ::
 H 118 (.eqv false [true, true] (.t 115) (.t 117)) 113 true ::
 J 119 (.pick (.t 113) (.t 118) (B false)) ::
 M 120 119 ::
 H 121 (.fld 25 (.t 2)) 120 true ::
 H 122 (.load none (.t 121)) 120 true ::
 H 123 (.fld 25 (.t 3)) 120 true ::
 H 124 (.load none (.t 123)) 120 true ::
 H 125 (.bin .eql (.t 122) (.t 124)) 120 true ::
 J 126 (.pick (.t 120) (.t 125) (B false)) ::
 M 127 126 ::
 H 128 (.fld 26 (.t 2)) 127 true ::
 H 129 (.load none (.t 128)) 127 true ::
 H 130 (.fld 26 (.t 3)) 127 true ::
 H 131 (.load none (.t 130)) 127 true ::
 H 132 (.bin .eql (.t 129) (.t 131)) 127 true ::
 J 133 (.pick (.t 127) (.t 132) (B false)) ::
 M 134 133 ::
 H 135 (.fld 27 (.t 2)) 134 true ::
 H 136 (.load none (.t 135)) 134 true ::
 H 137 (.fld 27 (.t 3)) 134 true ::
 H 138 (.load none (.t 137)) 134 true ::
 H 139 (.bin .eql (.t 136) (.t 138)) 134 true ::
 J 140 (.pick (.t 134) (.t 139) (B false)) ::
 M 4 140 :: []) 111)
.ret))))
def rv : List RV := [.tmp 4]
/-! live ref05_Same: [0, 1, 2, 3, 4, 5, 12, 17, 30] -/
theorem enter : En Try.prog 27 141 s rv := En.mk (c := Try.f27.body.getD .ret) Try.func27 rfl (by kernel_rfl) (by kernel_rfl) (by kernel_rfl) (by kernel_rfl)
end ref05_Same
/-! ### slices.AppendSeq[[]tranter.api.Op,tranter.api.Op] -/
namespace slices_AppendSeq_Lapi_Op_api_Op
abbrev f : Nat := 28
def s : SCo := (.seq
(F [J 2 (.box 22 (.t 0)),
 J 4 (.mv (.k (.d .nils)))] 2)
(.seq
(.seq
(F [M 6 1] 1)
(.block 0
(.rfun (.t 6) [7]
(F [J 5 (.alloc 33 z29),
 N (.store 29 (.t 5) (.t 7))] 2)
(.block 1
(F [J 8 (.load none (.t 2)),
 J 9 (.load (some 29) (.t 5)),
 J 10 (.bsl 33 29 1 z29 [(0, 29, (.t 9))]),
 J 11 (.app 33 29 144 (.t 8) (.t 10)),
 N (.store 1 (.t 2) (.t 11))] 5)))))
(.seq
(F [J 12 (.load none (.t 2)),
 M 4 12] 2)
.ret)))
def rv : List RV := [.tmp 4]
/-! live slices_AppendSeq_Lapi_Op_api_Op: [0, 1, 2, 4, 5, 6, 7] -/
theorem enter : En Try.prog 28 13 s rv := En.mk (c := Try.f28.body.getD .ret) Try.func28 rfl (by kernel_rfl) (by kernel_rfl) (by kernel_rfl) (by kernel_rfl)
end slices_AppendSeq_Lapi_Op_api_Op
/-! ### tranter.gossip.lacked$1 -/
namespace gossip_lacked_1
abbrev f : Nat := 29
def s : SCo := (.seq
(F [J 11 (.mkm),
 M 4 11] 2)
(.seq
(F [J 5 (.mv (.k (.d .nils)))] 1)
(.seq
(.seq
(F [J 12 (.load none (.t 1)),
 J 13 (.len (.t 12)),
 J 14 (.mv (Z 0))] 3)
(.block 0
(.loop
(.seq
(F [J 15 (.bin .lss (.t 14) (.t 13))] 1)
(.seq
(.cond (.t 15)
.skip
(.exit 0))
(.seq
(.block 1
(.seq
(F [J 16 (.idxS 29 (.t 12) (.t 14)),
 J 17 (.load (some 29) (.t 16)),
 J 7 (.alloc 33 z29),
 N (.store 29 (.t 7) (.t 17))] 4)
(.seq
(F [J 18 (.fld 0 (.t 7)),
 J 19 (.fld 0 (.t 18)),
 J 20 (.load none (.t 19)),
 J 21 (.conv .u32 (.t 20)),
 J 22 (.fld 0 (.t 7)),
 J 23 (.fld 1 (.t 22)),
 J 24 (.load none (.t 23)),
 J 25 (.bld [b32 0, b32 0] [(0, 1, (.t 21)), (1, 1, (.t 24))]),
 J 8 (.alloc 71 [b32 0, b32 0]),
 N (.store 2 (.t 8) (.t 25))] 10)
(.seq
(.seq
(F [M 26 4,
 J 27 (.load (some 2) (.t 8)),
 J 28 (.look [true, true] true (i6 0) (.t 26) (.t 27) false),
 J 29 (.bin .eql (.t 28) (Z 0)),
 M 30 29,
 H 31 (.load (some 8) (.t 2)) 30 true,
 H 32 (.fld 0 (.t 7)) 30 true,
 H 33 (.load (some 2) (.t 32)) 30 true,
 H 34 (.call (C 30) [(.t 31), (.t 33)]) 30 true,
 H 35 (.not (.t 34)) 30 true,
 J 36 (.pick (.t 30) (.t 35) (B false))] 11)
(.cond (.t 36)
(F [M 37 5,
 J 38 (.load (some 29) (.t 7)),
 J 39 (.bsl 33 29 1 z29 [(0, 29, (.t 38))]),
 J 40 (.app 33 29 144 (.t 37) (.t 39)),
 M 5 40] 5)
.skip))
(F [M 41 4,
 J 42 (.load (some 2) (.t 8)),
 N (.mset [true, true] true (.t 41) (.t 42) (Z 1))] 3)))))
(F [J 43 (.bin .add (.t 14) (Z 1)),
 M 14 43] 2)))))))
(.seq
(F [M 44 5,
 J 45 (.call (C 31) [(.t 44), (C 7)])] 2)
(.seq
(F [M 46 5,
 J 47 (.len (.t 46)),
 J 48 (.mv (Z 0))] 3)
(.block 2
(.loop
(.seq
(F [J 49 (.bin .lss (.t 48) (.t 47))] 1)
(.seq
(.cond (.t 49)
.skip
(.exit 2))
(.seq
(.block 3
(.seq
(F [J 50 (.idxS 29 (.t 46) (.t 48)),
 J 51 (.load (some 29) (.t 50)),
 J 10 (.alloc 33 z29),
 N (.store 29 (.t 10) (.t 51))] 4)
(.seq
(F [J 52 (.fld 28 (.t 10)),
 J 53 (.load none (.t 52)),
 J 54 (.call (C 32) [(.t 53)]),
 J 55 (.fld 28 (.t 10)),
 N (.store 1 (.t 55) (.t 54))] 5)
(.seq
(F [M 56 0,
 J 57 (.load (some 29) (.t 10)),
 J 58 (.call (.t 56) [(.t 57)]),
 J 59 (.not (.t 58))] 4)
(.cond (.t 59)
.ret
.skip)))))
(F [J 60 (.bin .add (.t 48) (Z 1)),
 M 48 60] 2)))))))))))
def rv : List RV := []
/-! live gossip_lacked_1: [0, 1, 2, 4, 5, 7, 8, 10, 12, 13, 14, 15, 36, 46, 47, 48, 49, 59] -/
theorem enter : En Try.prog 29 61 s rv := En.mk (c := Try.f29.body.getD .ret) Try.func29 rfl (by kernel_rfl) (by kernel_rfl) (by kernel_rfl) (by kernel_rfl)
end gossip_lacked_1
/-! ### tranter.vector.Covers -/
namespace vector_Covers
abbrev f : Nat := 30
def s : SCo := (.seq
(F [J 2 (.box 25 (.t 0)),
 J 3 (.box 29 (.t 1)),
 J 4 (.mv (B false))] 3)
(.seq
(.reg [J 5 (.load (some 2) (.t 3)),
 J 6 (.call (C 40) [(.t 5)]),
 M 7 6,
 H 8 (.fld 0 (.t 3)) 7 true,
 H 9 (.load none (.t 8)) 7 true,
 H 10 (.idxA 8 1 (.t 2) (.t 9)) 7 true,
 H 11 (.load none (.t 10)) 7 true,
 H 12 (.fld 1 (.t 3)) 7 true,
 H 13 (.load none (.t 12)) 7 true,
 H 14 (.bin .geq (.t 11) (.t 13)) 7 true,
 J 15 (.pick (.t 7) (.t 14) (B false)),
 M 4 15] [0,
1,
3,
7,
15,
31,
63,
7,
135,
511,
1023,
2047] true)
.ret))
def rv : List RV := [.tmp 4]
/-! live vector_Covers: [0, 1, 2, 3, 4] -/
theorem enter : En Try.prog 30 16 s rv := En.mk (c := Try.f30.body.getD .ret) Try.func30 rfl (by kernel_rfl) (by kernel_rfl) (by kernel_rfl) (by kernel_rfl)
end vector_Covers
/-! ### slices.Clone[[]tranter.api.Claim,tranter.api.Claim] -/
namespace slices_Clone_Lapi_Claim_api_Claim
abbrev f : Nat := 32
def s : SCo := (.seq
(F [J 2 (.mv (.k (.d .nils)))] 1)
(.seq
(.seq
(F [M 3 0,
 J 4 (.eqnil false 3 (.t 3))] 2)
(.cond (.t 4)
(.seq
(F [J 2 (.mv (.k (.d .nils)))] 1)
.ret)
.skip))
(.seq
(F [J 5 (.bsl 76 4 0 [] []),
 M 6 0,
 J 7 (.app 76 4 16 (.t 5) (.t 6)),
 M 2 7] 4)
.ret)))
def rv : List RV := [.tmp 2]
/-! live slices_Clone_Lapi_Claim_api_Claim: [0, 2, 4] -/
theorem enter : En Try.prog 32 8 s rv := En.mk (c := Try.f32.body.getD .ret) Try.func32 rfl (by kernel_rfl) (by kernel_rfl) (by kernel_rfl) (by kernel_rfl)
end slices_Clone_Lapi_Claim_api_Claim
/-! ### cmp.isNaN[uint64] -/
namespace cmp_isNaN_uint64
abbrev f : Nat := 33
def s : SCo := (.seq
(F [J 2 (.mv (B false))] 1)
(.seq
(F [M 3 0,
 M 4 0,
 J 5 (.bin .neq (.t 3) (.t 4)),
 M 2 5] 4)
.ret))
def rv : List RV := [.tmp 2]
/-! live cmp_isNaN_uint64: [0, 2] -/
theorem enter : En Try.prog 33 6 s rv := En.mk (c := Try.f33.body.getD .ret) Try.func33 rfl (by kernel_rfl) (by kernel_rfl) (by kernel_rfl) (by kernel_rfl)
end cmp_isNaN_uint64
/-! ### cmp.isNaN[uint8] -/
namespace cmp_isNaN_uint8
abbrev f : Nat := 34
def s : SCo := (.seq
(F [J 2 (.mv (B false))] 1)
(.seq
(F [M 3 0,
 M 4 0,
 J 5 (.bin .neq (.t 3) (.t 4)),
 M 2 5] 4)
.ret))
def rv : List RV := [.tmp 2]
/-! live cmp_isNaN_uint8: [0, 2] -/
theorem enter : En Try.prog 34 6 s rv := En.mk (c := Try.f34.body.getD .ret) Try.func34 rfl (by kernel_rfl) (by kernel_rfl) (by kernel_rfl) (by kernel_rfl)
end cmp_isNaN_uint8
/-! ### cmp.isNaN[uint32] -/
namespace cmp_isNaN_uint32
abbrev f : Nat := 35
def s : SCo := (.seq
(F [J 2 (.mv (B false))] 1)
(.seq
(F [M 3 0,
 M 4 0,
 J 5 (.bin .neq (.t 3) (.t 4)),
 M 2 5] 4)
.ret))
def rv : List RV := [.tmp 2]
/-! live cmp_isNaN_uint32: [0, 2] -/
theorem enter : En Try.prog 35 6 s rv := En.mk (c := Try.f35.body.getD .ret) Try.func35 rfl (by kernel_rfl) (by kernel_rfl) (by kernel_rfl) (by kernel_rfl)
end cmp_isNaN_uint32
/-! ### slices.Collect[int] -/
namespace slices_Collect_int
abbrev f : Nat := 36
def s : SCo := (.seq
(F [J 2 (.mv (.k (.d .nils)))] 1)
(.seq
(F [M 3 0,
 J 4 (.call (C 43) [(.k (.d .nils)), (.t 3)]),
 M 2 4] 3)
.ret))
def rv : List RV := [.tmp 2]
/-! live slices_Collect_int: [0, 2] -/
theorem enter : En Try.prog 36 5 s rv := En.mk (c := Try.f36.body.getD .ret) Try.func36 rfl (by kernel_rfl) (by kernel_rfl) (by kernel_rfl) (by kernel_rfl)
end slices_Collect_int
/-! ### slices.SortFunc[[]int,int] -/
namespace slices_SortFunc_Lint_int
abbrev f : Nat := 37
def s : SCo := (.seq
(F [M 5 0,
 J 6 (.len (.t 5)),
 M 4 6] 3)
(F [M 7 0,
 M 8 4,
 M 9 4,
 J 10 (.conv .u64 (.t 9)),
 J 11 (.call (C 42) [(.t 10)]),
 M 12 1,
 J 13 (.call (C 44) [(.t 7), (Z 0), (.t 8), (.t 11), (.t 12)])] 7))
def rv : List RV := []
/-! live slices_SortFunc_Lint_int: [0, 1, 4] -/
theorem enter : En Try.prog 37 14 s rv := En.mk (c := Try.f37.body.getD .ret) Try.func37 rfl (by kernel_rfl) (by kernel_rfl) (by kernel_rfl) (by kernel_rfl)
end slices_SortFunc_Lint_int
/-! ### (tranter.order.index).once$1 -/
namespace order_index_once_1
abbrev f : Nat := 38
def s : SCo := (.seq
(F [J 5 (.fld 0 (.t 1)),
 J 6 (.load none (.t 5)),
 J 7 (.len (.t 6)),
 J 8 (.mv (Z 0))] 4)
(.block 0
(.loop
(.seq
(F [J 9 (.bin .lss (.t 8) (.t 7))] 1)
(.seq
(.cond (.t 9)
.skip
(.exit 0))
(.seq
(.block 1
(.seq
(F [M 10 8,
 J 11 (.idxS 29 (.t 6) (.t 8)),
 J 12 (.load (some 29) (.t 11)),
 J 4 (.alloc 33 z29),
 M 3 10,
 N (.store 29 (.t 4) (.t 12))] 6)
(.seq
(F [J 13 (.fld 1 (.t 1)),
 J 14 (.load none (.t 13)),
 J 15 (.fld 0 (.t 4)),
 J 16 (.load (some 2) (.t 15)),
 J 17 (.look [true, true] true (i6 0) (.t 14) (.t 16) false),
 M 18 3,
 J 19 (.bin .eql (.t 17) (.t 18)),
 M 20 19,
 G 21 0 20 true,
 G 22 3 20 true,
 H 23 (.call (.t 21) [(.t 22)]) 20 true,
 H 24 (.not (.t 23)) 20 true,
 J 25 (.pick (.t 20) (.t 24) (B false))] 13)
(.cond (.t 25)
.ret
.skip))))
(F [J 26 (.bin .add (.t 8) (Z 1)),
 M 8 26] 2)))))))
def rv : List RV := []
/-! live order_index_once_1: [0, 1, 3, 4, 6, 7, 8, 9, 25] -/
theorem enter : En Try.prog 38 27 s rv := En.mk (c := Try.f38.body.getD .ret) Try.func38 rfl (by kernel_rfl) (by kernel_rfl) (by kernel_rfl) (by kernel_rfl)
end order_index_once_1
/-! ### tranter.frame.May -/
namespace frame_May
abbrev f : Nat := 39
def s : SCo := (.seq
(F [J 1 (.box 41 (.t 0)),
 J 2 (.mv (B false))] 2)
(.seq
(F [J 4 (.fld 11 (.t 1)),
 J 5 (.load none (.t 4)),
 J 6 (.call (C 45) [(.t 5), (C 46)]),
 M 3 6] 4)
(.seq
(F (J 7 (.fld 0 (.t 1)) ::
 J 8 (.load none (.t 7)) ::
 J 9 (.bin .leq (.t 8) (.k (b8 1))) ::
 J 10 (.fld 1 (.t 1)) ::
 J 11 (.load none (.t 10)) ::
 J 12 (.fld 2 (.t 1)) ::
 J 13 (.load none (.t 12)) ::
 J 14 (.mx (.t 11) (.t 13)) ::
 J 15 (.bin .lss (.t 14) (.k (b8 8))) ::
 J 16 (.fld 1 (.t 1)) ::
 J 17 (.load none (.t 16)) ::
 J 18 (.fld 2 (.t 1)) ::
 J 19 (.load none (.t 18)) ::
 J 20 (.bin .neq (.t 17) (.t 19)) ::
 J 21 (.fld 0 (.t 1)) ::
 J 22 (.load none (.t 21)) ::
 J 23 (.bin .eql (.t 22) (.k (b8 1))) ::
 M 24 23 ::
 H 25 (.fld 11 (.t 1)) 24 false ::
 H 26 (.load none (.t 25)) 24 false ::
 H 27 (.len (.t 26)) 24 false ::
 H 28 (.bin .eql (.t 27) (Z 0)) 24 false ::
 J 29 (.pick (.t 24) (B true) (.t 28)) ::
 J 30 (.fld 11 (.t 1)) ::
 J 31 (.load none (.t 30)) ::
 J 32 (.len (.t 31)) ::
 J 33 (.bin .leq (.t 32) (Z 64)) ::
 M 34 3 ::
 J 35 (.not (.t 34)) ::
 J 36 (.bsl 4 1 6 [(.d (.bool false)), (.d (.bool false)), (.d (.bool false)), (.d (.bool false)), (.d (.bool false)), (.d (.bool false))] [(0, 1, (.t 9)), (1, 1, (.t 15)), (2, 1, (.t 20)), (3, 1, (.t 29)), (4, 1, (.t 33)), (5, 1, (.t 35))]) ::
 J 37 (.call (C 47) [(.t 36)]) ::
 M 2 37 :: []) 32)
.ret)))
def rv : List RV := [.tmp 2]
/-! live frame_May: [0, 1, 2, 3] -/
theorem enter : En Try.prog 39 38 s rv := En.mk (c := Try.f39.body.getD .ret) Try.func39 rfl (by kernel_rfl) (by kernel_rfl) (by kernel_rfl) (by kernel_rfl)
end frame_May
/-! ### tranter.dot.May -/
namespace dot_May
abbrev f : Nat := 40
def s : SCo := (.seq
(F [J 1 (.box 29 (.t 0)),
 J 2 (.mv (B false))] 2)
(.seq
(F [J 3 (.fld 0 (.t 1)),
 J 4 (.load none (.t 3)),
 J 5 (.bin .lss (.t 4) (.k (b8 8))),
 M 6 5,
 H 7 (.fld 1 (.t 1)) 6 true,
 H 8 (.load none (.t 7)) 6 true,
 H 9 (.bin .gtr (.t 8) (.k (b32 0))) 6 true,
 J 10 (.pick (.t 6) (.t 9) (B false)),
 M 2 10] 9)
.ret))
def rv : List RV := [.tmp 2]
/-! live dot_May: [0, 1, 2] -/
theorem enter : En Try.prog 40 11 s rv := En.mk (c := Try.f40.body.getD .ret) Try.func40 rfl (by kernel_rfl) (by kernel_rfl) (by kernel_rfl) (by kernel_rfl)
end dot_May
/-! ### math.bits.Len -/
namespace math_bits_Len
abbrev f : Nat := 42
def s : SCo := (.seq
(F [J 2 (.mv (Z 0))] 1)
(.seq
(.cond (B false)
(.seq
(F [M 3 0,
 J 4 (.conv .u32 (.t 3)),
 J 5 (.call (C 56) [(.t 4)]),
 M 2 5] 4)
.ret)
.skip)
(.seq
(F [M 6 0,
 J 7 (.call (C 57) [(.t 6)]),
 M 2 7] 3)
.ret)))
def rv : List RV := [.tmp 2]
/-! live math_bits_Len: [0, 2] -/
theorem enter : En Try.prog 42 8 s rv := En.mk (c := Try.f42.body.getD .ret) Try.func42 rfl (by kernel_rfl) (by kernel_rfl) (by kernel_rfl) (by kernel_rfl)
end math_bits_Len
/-! ### slices.AppendSeq[[]int,int] -/
namespace slices_AppendSeq_Lint_int
abbrev f : Nat := 43
def s : SCo := (.seq
(F [J 2 (.box 60 (.t 0)),
 J 4 (.mv (.k (.d .nils)))] 2)
(.seq
(.seq
(F [M 6 1] 1)
(.block 0
(.rfun (.t 6) [7]
(F [M 5 7] 1)
(.block 1
(F [J 8 (.load none (.t 2)),
 M 9 5,
 J 10 (.bsl 3 1 1 [i6 0] [(0, 1, (.t 9))]),
 J 11 (.app 3 1 8 (.t 8) (.t 10)),
 N (.store 1 (.t 2) (.t 11))] 5)))))
(.seq
(F [J 12 (.load none (.t 2)),
 M 4 12] 2)
.ret)))
def rv : List RV := [.tmp 4]
/-! live slices_AppendSeq_Lint_int: [0, 1, 2, 4, 5, 6, 7] -/
theorem enter : En Try.prog 43 13 s rv := En.mk (c := Try.f43.body.getD .ret) Try.func43 rfl (by kernel_rfl) (by kernel_rfl) (by kernel_rfl) (by kernel_rfl)
end slices_AppendSeq_Lint_int
/-! ### slices.pdqsortCmpFunc[int] -/
namespace slices_pdqsortCmpFunc_int
abbrev f : Nat := 44
def s : SCo := (.seq
(F [J 10 (.mv (B true))] 1)
(.seq
(F [J 11 (.mv (B true))] 1)
(.block 0
(.loop
(.block 1
(.seq
(F [M 21 2,
 M 22 1,
 J 23 (.bin .sub (.t 21) (.t 22)),
 M 12 23] 4)
(.seq
(.seq
(F [M 24 12,
 J 25 (.bin .leq (.t 24) (Z 12))] 2)
(.cond (.t 25)
(.seq
(F [M 26 0,
 M 27 1,
 M 28 2,
 M 29 4,
 J 30 (.call (C 58) [(.t 26), (.t 27), (.t 28), (.t 29)])] 5)
.ret)
.skip))
(.seq
(.seq
(F [M 31 3,
 J 32 (.bin .eql (.t 31) (Z 0))] 2)
(.cond (.t 32)
(.seq
(F [M 33 0,
 M 34 1,
 M 35 2,
 M 36 4,
 J 37 (.call (C 59) [(.t 33), (.t 34), (.t 35), (.t 36)])] 5)
.ret)
.skip))
(.seq
(.seq
(F [M 38 10,
 J 39 (.not (.t 38))] 2)
(.cond (.t 39)
(.seq
(F [M 40 0,
 M 41 1,
 M 42 2,
 M 43 4,
 J 44 (.call (C 60) [(.t 40), (.t 41), (.t 42), (.t 43)])] 5)
(F [M 45 3,
 J 46 (.bin .sub (.t 45) (Z 1)),
 M 3 46] 3))
.skip))
(.seq
(F [M 48 0,
 M 49 1,
 M 50 2,
 M 51 4,
 J 52 (.call (C 61) [(.t 48), (.t 49), (.t 50), (.t 51)]),
 M 47 52,
 J 53 (.ext 0 (.t 47)),
 J 54 (.ext 1 (.t 47)),
 M 13 53,
 M 14 54] 10)
(.seq
(.seq
(F [M 55 14,
 J 56 (.bin .eql (.t 55) (Z 2))] 2)
(.cond (.t 56)
(.seq
(F [M 57 0,
 M 58 1,
 M 59 2,
 M 60 4,
 J 61 (.call (C 62) [(.t 57), (.t 58), (.t 59), (.t 60)])] 5)
(.seq
(F [M 62 2,
 J 63 (.bin .sub (.t 62) (Z 1)),
 M 64 13,
 M 65 1,
 J 66 (.bin .sub (.t 64) (.t 65)),
 J 67 (.bin .sub (.t 63) (.t 66)),
 M 13 67] 7)
(F [J 14 (.mv (Z 1))] 1)))
.skip))
(.seq
(.seq
(F [M 68 10,
 M 69 68,
 G 70 11 69 true,
 J 71 (.pick (.t 69) (.t 70) (B false)),
 M 72 71,
 G 73 14 72 true,
 H 74 (.bin .eql (.t 73) (Z 1)) 72 true,
 J 75 (.pick (.t 72) (.t 74) (B false))] 8)
(.cond (.t 75)
(.seq
(F [M 76 0,
 M 77 1,
 M 78 2,
 M 79 4,
 J 80 (.call (C 63) [(.t 76), (.t 77), (.t 78), (.t 79)])] 5)
(.cond (.t 80)
.ret
.skip))
.skip))
(.seq
(.seq
(.reg (M 81 1 ::
 J 82 (.bin .gtr (.t 81) (Z 0)) ::
 M 83 82 ::
 G 84 4 83 true ::
 G 85 0 83 true ::
 G 86 1 83 true ::
 H 87 (.bin .sub (.t 86) (Z 1)) 83 true ::
 H 88 (.idxS 1 (.t 85) (.t 87)) 83 true ::
 H 89 (.load none (.t 88)) 83 true ::
 G 90 0 83 true ::
 G 91 13 83 true ::
 H 92 (.idxS 1 (.t 90) (.t 91)) 83 true ::
 H 93 (.load none (.t 92)) 83 true ::
 H 94 (.call (.t 84) [(.t 89), (.t 93)]) 83 true ::
 H 95 (.bin .lss (.t 94) (Z 0)) 83 true ::
 H 96 (.not (.t 95)) 83 true ::
 J 97 (.pick (.t 83) (.t 96) (B false)) :: []) (0 ::
1 ::
3 ::
7 ::
7 ::
7 ::
39 ::
119 ::
247 ::
7 ::
7 ::
1543 ::
3591 ::
8191 ::
16383 ::
32767 ::
65535 :: []) true)
(.cond (.t 97)
(.seq
(F [M 98 0,
 M 99 1,
 M 100 2,
 M 101 13,
 M 102 4,
 J 103 (.call (C 64) [(.t 98), (.t 99), (.t 100), (.t 101), (.t 102)]),
 M 15 103] 7)
(.seq
(F [M 104 15,
 M 1 104] 2)
(.exit 1)))
.skip))
(.seq
(F [M 106 0,
 M 107 1,
 M 108 2,
 M 109 13,
 M 110 4,
 J 111 (.call (C 65) [(.t 106), (.t 107), (.t 108), (.t 109), (.t 110)]),
 M 105 111,
 J 112 (.ext 0 (.t 105)),
 J 113 (.ext 1 (.t 105)),
 M 16 112,
 M 17 113] 11)
(.seq
(F [M 114 17,
 M 11 114] 2)
(.seq
(F [M 115 16,
 M 116 1,
 J 117 (.bin .sub (.t 115) (.t 116)),
 M 118 2,
 M 119 16,
 J 120 (.bin .sub (.t 118) (.t 119)),
 M 18 117,
 M 19 120] 8)
(.seq
(F [M 121 12,
 J 122 (.bin .quo (.t 121) (Z 8)),
 M 20 122] 3)
(.seq
(F [M 123 18,
 M 124 19,
 J 125 (.bin .lss (.t 123) (.t 124))] 3)
(.cond (.t 125)
(.seq
(F [M 126 18,
 M 127 20,
 J 128 (.bin .geq (.t 126) (.t 127)),
 M 10 128] 4)
(.seq
(F [M 129 0,
 M 130 1,
 M 131 16,
 M 132 3,
 M 133 4,
 J 134 (.call (C 44) [(.t 129), (.t 130), (.t 131), (.t 132), (.t 133)])] 6)
(F [M 135 16,
 J 136 (.bin .add (.t 135) (Z 1)),
 M 1 136] 3)))
(.seq
(F [M 137 19,
 M 138 20,
 J 139 (.bin .geq (.t 137) (.t 138)),
 M 10 139] 4)
(.seq
(F [M 140 0,
 M 141 16,
 J 142 (.bin .add (.t 141) (Z 1)),
 M 143 2,
 M 144 3,
 M 145 4,
 J 146 (.call (C 44) [(.t 140), (.t 142), (.t 143), (.t 144), (.t 145)])] 7)
(F [M 147 16,
 M 2 147] 2))))))))))))))))))))))
def rv : List RV := []
/-! live slices_pdqsortCmpFunc_int: [0, 1, 2, 3, 4, 10, 11, 12, 13, 14, 15, 16, 17, 18, 19, 20, 25, 32, 39, 56, 75, 80, 97, 125] -/
theorem enter : En Try.prog 44 148 s rv := En.mk (c := Try.f44.body.getD .ret) Try.func44 rfl (by kernel_rfl) (by kernel_rfl) (by kernel_rfl) (by kernel_rfl)
end slices_pdqsortCmpFunc_int
/-! ### slices.ContainsFunc[[]tranter.api.Op,tranter.api.Op] -/
namespace slices_ContainsFunc_Lapi_Op_api_Op
abbrev f : Nat := 45
def s : SCo := (.seq
(F [J 4 (.mv (B false))] 1)
(.seq
(F [M 5 0,
 M 6 1,
 J 7 (.call (C 66) [(.t 5), (.t 6)]),
 J 8 (.bin .geq (.t 7) (Z 0)),
 M 4 8] 5)
.ret))
def rv : List RV := [.tmp 4]
/-! live slices_ContainsFunc_Lapi_Op_api_Op: [0, 1, 4] -/
theorem enter : En Try.prog 45 9 s rv := En.mk (c := Try.f45.body.getD .ret) Try.func45 rfl (by kernel_rfl) (by kernel_rfl) (by kernel_rfl) (by kernel_rfl)
end slices_ContainsFunc_Lapi_Op_api_Op
/-! ### tranter.frame.May$1 -/
namespace frame_May_1
abbrev f : Nat := 46
def s : SCo := (.seq
(F [J 1 (.box 33 (.t 0)),
 J 2 (.mv (B false))] 2)
(.seq
(F [J 3 (.fld 28 (.t 1)),
 J 4 (.load none (.t 3)),
 J 5 (.len (.t 4)),
 J 6 (.bin .gtr (.t 5) (Z 16)),
 M 2 6] 5)
.ret))
def rv : List RV := [.tmp 2]
/-! live frame_May_1: [0, 1, 2] -/
theorem enter : En Try.prog 46 7 s rv := En.mk (c := Try.f46.body.getD .ret) Try.func46 rfl (by kernel_rfl) (by kernel_rfl) (by kernel_rfl) (by kernel_rfl)
end frame_May_1
/-! ### tranter.frame.all -/
namespace frame_all
abbrev f : Nat := 47
def s : SCo := (.seq
(F [J 2 (.mv (B false))] 1)
(.seq
(F [M 3 0,
 J 4 (.call (C 67) [(.t 3), (B false)]),
 J 5 (.not (.t 4)),
 M 2 5] 4)
.ret))
def rv : List RV := [.tmp 2]
/-! live frame_all: [0, 2] -/
theorem enter : En Try.prog 47 6 s rv := En.mk (c := Try.f47.body.getD .ret) Try.func47 rfl (by kernel_rfl) (by kernel_rfl) (by kernel_rfl) (by kernel_rfl)
end frame_all
/-! ### math.bits.Len64 -/
namespace math_bits_Len64
abbrev f : Nat := 57
def s : SCo := (.seq
(F [J 2 (.mv (Z 0))] 1)
(.seq
(.seq
(F [M 3 0,
 J 4 (.bin .geq (.t 3) (.k (b64 4294967296)))] 2)
(.cond (.t 4)
(.seq
(F [M 5 0,
 J 6 (.bin .shr (.t 5) (.k (b64 32))),
 M 0 6] 3)
(F [J 2 (.mv (Z 32))] 1))
.skip))
(.seq
(.seq
(F [M 7 0,
 J 8 (.bin .geq (.t 7) (.k (b64 65536)))] 2)
(.cond (.t 8)
(.seq
(F [M 9 0,
 J 10 (.bin .shr (.t 9) (.k (b64 16))),
 M 0 10] 3)
(F [M 11 2,
 J 12 (.bin .add (.t 11) (Z 16)),
 M 2 12] 3))
.skip))
(.seq
(.seq
(F [M 13 0,
 J 14 (.bin .geq (.t 13) (.k (b64 256)))] 2)
(.cond (.t 14)
(.seq
(F [M 15 0,
 J 16 (.bin .shr (.t 15) (.k (b64 8))),
 M 0 16] 3)
(F [M 17 2,
 J 18 (.bin .add (.t 17) (Z 8)),
 M 2 18] 3))
.skip))
(.seq
(F [M 19 2,
 M 20 0,
 J 21 (.conv .u8 (.t 20)),
 J 22 (.idxT (.k (.d (.str [0, 1, 2, 2, 3, 3, 3, 3, 4, 4, 4, 4, 4, 4, 4, 4, 5, 5, 5, 5, 5, 5, 5, 5, 5, 5, 5, 5, 5, 5, 5, 5, 6, 6, 6, 6, 6, 6, 6, 6, 6, 6, 6, 6, 6, 6, 6, 6, 6, 6, 6, 6, 6, 6, 6, 6, 6, 6, 6, 6, 6, 6, 6, 6, 7, 7, 7, 7, 7, 7, 7, 7, 7, 7, 7, 7, 7, 7, 7, 7, 7, 7, 7, 7, 7, 7, 7, 7, 7, 7, 7, 7, 7, 7, 7, 7, 7, 7, 7, 7, 7, 7, 7, 7, 7, 7, 7, 7, 7, 7, 7, 7, 7, 7, 7, 7, 7, 7, 7, 7, 7, 7, 7, 7, 7, 7, 7, 7, 8, 8, 8, 8, 8, 8, 8, 8, 8, 8, 8, 8, 8, 8, 8, 8, 8, 8, 8, 8, 8, 8, 8, 8, 8, 8, 8, 8, 8, 8, 8, 8, 8, 8, 8, 8, 8, 8, 8, 8, 8, 8, 8, 8, 8, 8, 8, 8, 8, 8, 8, 8, 8, 8, 8, 8, 8, 8, 8, 8, 8, 8, 8, 8, 8, 8, 8, 8, 8, 8, 8, 8, 8, 8, 8, 8, 8, 8, 8, 8, 8, 8, 8, 8, 8, 8, 8, 8, 8, 8, 8, 8, 8, 8, 8, 8, 8, 8, 8, 8, 8, 8, 8, 8, 8, 8, 8, 8, 8, 8, 8, 8, 8, 8, 8, 8, 8, 8, 8, 8, 8, 8, 8, 8, 8, 8, 8, 8]))) (.t 21)),
 J 23 (.conv .i64 (.t 22)),
 J 24 (.bin .add (.t 19) (.t 23)),
 M 2 24] 7)
.ret)))))
def rv : List RV := [.tmp 2]
/-! live math_bits_Len64: [0, 2, 4, 8, 14] -/
theorem enter : En Try.prog 57 25 s rv := En.mk (c := Try.f57.body.getD .ret) Try.func57 rfl (by kernel_rfl) (by kernel_rfl) (by kernel_rfl) (by kernel_rfl)
end math_bits_Len64
/-! ### slices.insertionSortCmpFunc[int] -/
namespace slices_insertionSortCmpFunc_int
abbrev f : Nat := 58
def s : SCo := (.seq
(F [M 10 1,
 J 11 (.bin .add (.t 10) (Z 1)),
 M 8 11] 3)
(.block 0
(.loop
(.seq
(.seq
(F [M 12 8,
 M 13 2,
 J 14 (.bin .lss (.t 12) (.t 13))] 3)
(.cond (.t 14)
.skip
(.exit 0)))
(.seq
(.block 1
(.seq
(F [M 17 8,
 M 9 17] 2)
(.block 2
(.loop
(.seq
(.seq
(.reg (M 18 9 ::
 M 19 1 ::
 J 20 (.bin .gtr (.t 18) (.t 19)) ::
 M 21 20 ::
 G 22 3 21 true ::
 G 23 0 21 true ::
 G 24 9 21 true ::
 H 25 (.idxS 1 (.t 23) (.t 24)) 21 true ::
 H 26 (.load none (.t 25)) 21 true ::
 G 27 0 21 true ::
 G 28 9 21 true ::
 H 29 (.bin .sub (.t 28) (Z 1)) 21 true ::
 H 30 (.idxS 1 (.t 27) (.t 29)) 21 true ::
 H 31 (.load none (.t 30)) 21 true ::
 H 32 (.call (.t 22) [(.t 26), (.t 31)]) 21 true ::
 H 33 (.bin .lss (.t 32) (Z 0)) 21 true ::
 J 34 (.pick (.t 21) (.t 33) (B false)) :: []) (0 ::
0 ::
3 ::
7 ::
15 ::
15 ::
15 ::
111 ::
239 ::
15 ::
15 ::
1039 ::
3599 ::
7695 ::
16383 ::
32767 ::
65535 :: []) true)
(.cond (.t 34)
.skip
(.exit 2)))
(.seq
(.block 3
(.reg (M 37 0 ::
 M 38 9 ::
 M 39 0 ::
 M 40 9 ::
 J 41 (.bin .sub (.t 40) (Z 1)) ::
 M 42 0 ::
 M 43 9 ::
 J 44 (.bin .sub (.t 43) (Z 1)) ::
 J 45 (.idxS 1 (.t 42) (.t 44)) ::
 J 46 (.load none (.t 45)) ::
 M 47 0 ::
 M 48 9 ::
 J 49 (.idxS 1 (.t 47) (.t 48)) ::
 J 50 (.load none (.t 49)) ::
 J 51 (.idxS 1 (.t 37) (.t 38)) ::
 N (.store 1 (.t 51) (.t 46)) ::
 J 52 (.idxS 1 (.t 39) (.t 41)) ::
 N (.store 1 (.t 52) (.t 50)) :: []) (0 ::
0 ::
0 ::
0 ::
8 ::
0 ::
0 ::
64 ::
224 ::
480 ::
0 ::
0 ::
3072 ::
7168 ::
16355 ::
32739 ::
65535 ::
131071 :: []) true))
(F [M 35 9,
 J 36 (.bin .sub (.t 35) (Z 1)),
 M 9 36] 3)))))))
(F [M 15 8,
 J 16 (.bin .add (.t 15) (Z 1)),
 M 8 16] 3))))))
def rv : List RV := []
/-! live slices_insertionSortCmpFunc_int: [0, 1, 2, 3, 8, 9, 14, 34] -/
theorem enter : En Try.prog 58 53 s rv := En.mk (c := Try.f58.body.getD .ret) Try.func58 rfl (by kernel_rfl) (by kernel_rfl) (by kernel_rfl) (by kernel_rfl)
end slices_insertionSortCmpFunc_int
/-! ### slices.heapSortCmpFunc[int] -/
namespace slices_heapSortCmpFunc_int
abbrev f : Nat := 59
def s : SCo := (.seq
(F [M 13 1,
 M 8 13] 2)
(.seq
(F [J 9 (.mv (Z 0))] 1)
(.seq
(F [M 14 2,
 M 15 1,
 J 16 (.bin .sub (.t 14) (.t 15)),
 M 10 16] 4)
(.seq
(.seq
(F [M 17 10,
 J 18 (.bin .sub (.t 17) (Z 1)),
 J 19 (.bin .quo (.t 18) (Z 2)),
 M 11 19] 4)
(.block 0
(.loop
(.seq
(.seq
(F [M 20 11,
 J 21 (.bin .geq (.t 20) (Z 0))] 2)
(.cond (.t 21)
.skip
(.exit 0)))
(.seq
(.block 1
(F [M 24 0,
 M 25 11,
 M 26 10,
 M 27 8,
 M 28 3,
 J 29 (.call (C 73) [(.t 24), (.t 25), (.t 26), (.t 27), (.t 28)])] 6))
(F [M 22 11,
 J 23 (.bin .sub (.t 22) (Z 1)),
 M 11 23] 3))))))
(.seq
(F [M 30 10,
 J 31 (.bin .sub (.t 30) (Z 1)),
 M 12 31] 3)
(.block 2
(.loop
(.seq
(.seq
(F [M 32 12,
 J 33 (.bin .geq (.t 32) (Z 0))] 2)
(.cond (.t 33)
.skip
(.exit 2)))
(.seq
(.block 3
(.seq
(.reg (M 36 0 ::
 M 37 8 ::
 M 38 0 ::
 M 39 8 ::
 M 40 12 ::
 J 41 (.bin .add (.t 39) (.t 40)) ::
 M 42 0 ::
 M 43 8 ::
 M 44 12 ::
 J 45 (.bin .add (.t 43) (.t 44)) ::
 J 46 (.idxS 1 (.t 42) (.t 45)) ::
 J 47 (.load none (.t 46)) ::
 M 48 0 ::
 M 49 8 ::
 J 50 (.idxS 1 (.t 48) (.t 49)) ::
 J 51 (.load none (.t 50)) ::
 J 52 (.idxS 1 (.t 36) (.t 37)) ::
 N (.store 1 (.t 52) (.t 47)) ::
 J 53 (.idxS 1 (.t 38) (.t 41)) ::
 N (.store 1 (.t 53) (.t 51)) :: []) (0 ::
0 ::
0 ::
0 ::
0 ::
24 ::
0 ::
0 ::
0 ::
384 ::
960 ::
1984 ::
0 ::
0 ::
12288 ::
28672 ::
65475 ::
131011 ::
262143 ::
524287 :: []) true)
(F [M 54 0,
 M 55 9,
 M 56 12,
 M 57 8,
 M 58 3,
 J 59 (.call (C 73) [(.t 54), (.t 55), (.t 56), (.t 57), (.t 58)])] 6)))
(F [M 34 12,
 J 35 (.bin .sub (.t 34) (Z 1)),
 M 12 35] 3))))))))))
def rv : List RV := []
/-! live slices_heapSortCmpFunc_int: [0, 1, 2, 3, 8, 9, 10, 11, 12, 21, 33] -/
theorem enter : En Try.prog 59 60 s rv := En.mk (c := Try.f59.body.getD .ret) Try.func59 rfl (by kernel_rfl) (by kernel_rfl) (by kernel_rfl) (by kernel_rfl)
end slices_heapSortCmpFunc_int
/-! ### slices.breakPatternsCmpFunc[int] -/
namespace slices_breakPatternsCmpFunc_int
abbrev f : Nat := 60
def s : SCo := (.seq
(F [M 13 2,
 M 14 1,
 J 15 (.bin .sub (.t 13) (.t 14)),
 M 8 15] 4)
(.seq
(F [M 16 8,
 J 17 (.bin .geq (.t 16) (Z 8))] 2)
(.cond (.t 17)
(.seq
(F [M 18 8,
 J 19 (.conv .u64 (.t 18)),
 J 9 (.alloc 110 [b64 0]),
 N (.store 1 (.t 9) (.t 19))] 4)
(.seq
(F [M 20 8,
 J 21 (.call (C 69) [(.t 20)]),
 M 10 21] 3)
(.seq
(F [M 22 1,
 M 23 8,
 J 24 (.bin .quo (.t 23) (Z 4)),
 J 25 (.bin .mul (.t 24) (Z 2)),
 J 26 (.bin .add (.t 22) (.t 25)),
 J 27 (.bin .sub (.t 26) (Z 1)),
 M 11 27] 7)
(.block 0
(.loop
(.seq
(.seq
(F [M 28 11,
 M 29 1,
 M 30 8,
 J 31 (.bin .quo (.t 30) (Z 4)),
 J 32 (.bin .mul (.t 31) (Z 2)),
 J 33 (.bin .add (.t 29) (.t 32)),
 J 34 (.bin .add (.t 33) (Z 1)),
 J 35 (.bin .leq (.t 28) (.t 34))] 8)
(.cond (.t 35)
.skip
(.exit 0)))
(.seq
(.block 1
(.seq
(F [J 38 (.call (C 70) [(.t 9)]),
 M 39 10,
 J 40 (.bin .sub (.t 39) (.k (b64 1))),
 J 41 (.bin .and (.t 38) (.t 40)),
 J 42 (.conv .i64 (.t 41)),
 M 12 42] 6)
(.seq
(.seq
(F [M 43 12,
 M 44 8,
 J 45 (.bin .geq (.t 43) (.t 44))] 3)
(.cond (.t 45)
(F [M 46 12,
 M 47 8,
 J 48 (.bin .sub (.t 46) (.t 47)),
 M 12 48] 4)
.skip))
(.reg (M 49 0 ::
 M 50 11 ::
 M 51 0 ::
 M 52 1 ::
 M 53 12 ::
 J 54 (.bin .add (.t 52) (.t 53)) ::
 M 55 0 ::
 M 56 1 ::
 M 57 12 ::
 J 58 (.bin .add (.t 56) (.t 57)) ::
 J 59 (.idxS 1 (.t 55) (.t 58)) ::
 J 60 (.load none (.t 59)) ::
 M 61 0 ::
 M 62 11 ::
 J 63 (.idxS 1 (.t 61) (.t 62)) ::
 J 64 (.load none (.t 63)) ::
 J 65 (.idxS 1 (.t 49) (.t 50)) ::
 N (.store 1 (.t 65) (.t 60)) ::
 J 66 (.idxS 1 (.t 51) (.t 54)) ::
 N (.store 1 (.t 66) (.t 64)) :: []) (0 ::
0 ::
0 ::
0 ::
0 ::
24 ::
0 ::
0 ::
0 ::
384 ::
960 ::
1984 ::
0 ::
0 ::
12288 ::
28672 ::
65475 ::
131011 ::
262143 ::
524287 :: []) true))))
(F [M 36 11,
 J 37 (.bin .add (.t 36) (Z 1)),
 M 11 37] 3))))))))
.skip)))
def rv : List RV := []
/-! live slices_breakPatternsCmpFunc_int: [0, 1, 2, 8, 9, 10, 11, 12, 17, 35, 45] -/
theorem enter : En Try.prog 60 67 s rv := En.mk (c := Try.f60.body.getD .ret) Try.func60 rfl (by kernel_rfl) (by kernel_rfl) (by kernel_rfl) (by kernel_rfl)
end slices_breakPatternsCmpFunc_int
/-! ### slices.choosePivotCmpFunc[int] -/
namespace slices_choosePivotCmpFunc_int
abbrev f : Nat := 61
def s : SCo := (.seq
(F [J 8 (.mv (Z 0)),
 J 9 (.mv (Z 0))] 2)
(.seq
(F [M 15 2,
 M 16 1,
 J 17 (.bin .sub (.t 15) (.t 16)),
 M 10 17] 4)
(.seq
(F [J 11 (.alloc 3 [i6 0])] 1)
(.seq
(F [M 18 1,
 M 19 10,
 J 20 (.bin .quo (.t 19) (Z 4)),
 J 21 (.bin .mul (.t 20) (Z 1)),
 J 22 (.bin .add (.t 18) (.t 21)),
 M 12 22] 6)
(.seq
(F [M 23 1,
 M 24 10,
 J 25 (.bin .quo (.t 24) (Z 4)),
 J 26 (.bin .mul (.t 25) (Z 2)),
 J 27 (.bin .add (.t 23) (.t 26)),
 M 13 27] 6)
(.seq
(F [M 28 1,
 M 29 10,
 J 30 (.bin .quo (.t 29) (Z 4)),
 J 31 (.bin .mul (.t 30) (Z 3)),
 J 32 (.bin .add (.t 28) (.t 31)),
 M 14 32] 6)
(.seq
(.seq
(F [M 33 10,
 J 34 (.bin .geq (.t 33) (Z 8))] 2)
(.cond (.t 34)
(.seq
(.seq
(F [M 35 10,
 J 36 (.bin .geq (.t 35) (Z 50))] 2)
(.cond (.t 36)
(.seq
(F [M 37 0,
 M 38 12,
 M 39 3,
 J 40 (.call (C 74) [(.t 37), (.t 38), (.t 11), (.t 39)]),
 M 12 40] 5)
(.seq
(F [M 41 0,
 M 42 13,
 M 43 3,
 J 44 (.call (C 74) [(.t 41), (.t 42), (.t 11), (.t 43)]),
 M 13 44] 5)
(F [M 45 0,
 M 46 14,
 M 47 3,
 J 48 (.call (C 74) [(.t 45), (.t 46), (.t 11), (.t 47)]),
 M 14 48] 5)))
.skip))
(F [M 49 0,
 M 50 12,
 M 51 13,
 M 52 14,
 M 53 3,
 J 54 (.call (C 75) [(.t 49), (.t 50), (.t 51), (.t 52), (.t 11), (.t 53)]),
 M 13 54] 7))
.skip))
(.seq
(F [J 55 (.load none (.t 11))] 1)
(.block 0
(.seq
(F [J 58 (.bin .eql (.t 55) (Z 0)),
 M 57 58] 2)
(.cond (.t 57)
(.seq
(F [M 59 13,
 M 8 59,
 J 9 (.mv (Z 1))] 3)
.ret)
(.seq
(F [J 61 (.bin .eql (.t 55) (Z 12)),
 M 60 61] 2)
(.cond (.t 60)
(.seq
(F [M 62 13,
 M 8 62,
 J 9 (.mv (Z 2))] 3)
.ret)
(.seq
(F [M 56 13,
 M 8 56,
 J 9 (.mv (Z 0))] 3)
.ret))))))))))))))
def rv : List RV := [.tmp 8, .tmp 9]
/-! live slices_choosePivotCmpFunc_int: [0, 1, 2, 3, 8, 9, 10, 11, 12, 13, 14, 34, 36, 55, 57, 60] -/
theorem enter : En Try.prog 61 63 s rv := En.mk (c := Try.f61.body.getD .ret) Try.func61 rfl (by kernel_rfl) (by kernel_rfl) (by kernel_rfl) (by kernel_rfl)
end slices_choosePivotCmpFunc_int
/-! ### slices.reverseRangeCmpFunc[int] -/
namespace slices_reverseRangeCmpFunc_int
abbrev f : Nat := 62
def s : SCo := (.seq
(F [M 10 1,
 M 8 10] 2)
(.seq
(F [M 11 2,
 J 12 (.bin .sub (.t 11) (Z 1)),
 M 9 12] 3)
(.block 0
(.loop
(.seq
(.seq
(F [M 13 8,
 M 14 9,
 J 15 (.bin .lss (.t 13) (.t 14))] 3)
(.cond (.t 15)
.skip
(.exit 0)))
(.block 1
(.seq
(.reg (M 16 0 ::
 M 17 8 ::
 M 18 0 ::
 M 19 9 ::
 M 20 0 ::
 M 21 9 ::
 J 22 (.idxS 1 (.t 20) (.t 21)) ::
 J 23 (.load none (.t 22)) ::
 M 24 0 ::
 M 25 8 ::
 J 26 (.idxS 1 (.t 24) (.t 25)) ::
 J 27 (.load none (.t 26)) ::
 J 28 (.idxS 1 (.t 16) (.t 17)) ::
 N (.store 1 (.t 28) (.t 23)) ::
 J 29 (.idxS 1 (.t 18) (.t 19)) ::
 N (.store 1 (.t 29) (.t 27)) :: []) (0 ::
0 ::
0 ::
0 ::
0 ::
0 ::
48 ::
112 ::
0 ::
0 ::
768 ::
1792 ::
4083 ::
8179 ::
16383 ::
32767 :: []) true)
(.seq
(F [M 30 8,
 J 31 (.bin .add (.t 30) (Z 1)),
 M 8 31] 3)
(F [M 32 9,
 J 33 (.bin .sub (.t 32) (Z 1)),
 M 9 33] 3)))))))))
def rv : List RV := []
/-! live slices_reverseRangeCmpFunc_int: [0, 1, 2, 8, 9, 15] -/
theorem enter : En Try.prog 62 34 s rv := En.mk (c := Try.f62.body.getD .ret) Try.func62 rfl (by kernel_rfl) (by kernel_rfl) (by kernel_rfl) (by kernel_rfl)
end slices_reverseRangeCmpFunc_int
/-! ### slices.partialInsertionSortCmpFunc[int] -/
namespace slices_partialInsertionSortCmpFunc_int
abbrev f : Nat := 63
def s : SCo := (.seq
(F [J 8 (.mv (B false))] 1)
(.seq
(F [M 13 1,
 J 14 (.bin .add (.t 13) (Z 1)),
 M 9 14] 3)
(.seq
(.seq
(F [J 10 (.mv (Z 0))] 1)
(.block 0
(.loop
(.seq
(.seq
(F [M 15 10,
 J 16 (.bin .lss (.t 15) (Z 5))] 2)
(.cond (.t 16)
.skip
(.exit 0)))
(.seq
(.block 1
(.seq
(.block 2
(.loop
(.seq
(.seq
(.reg (M 19 9 ::
 M 20 2 ::
 J 21 (.bin .lss (.t 19) (.t 20)) ::
 M 22 21 ::
 G 23 3 22 true ::
 G 24 0 22 true ::
 G 25 9 22 true ::
 H 26 (.idxS 1 (.t 24) (.t 25)) 22 true ::
 H 27 (.load none (.t 26)) 22 true ::
 G 28 0 22 true ::
 G 29 9 22 true ::
 H 30 (.bin .sub (.t 29) (Z 1)) 22 true ::
 H 31 (.idxS 1 (.t 28) (.t 30)) 22 true ::
 H 32 (.load none (.t 31)) 22 true ::
 H 33 (.call (.t 23) [(.t 27), (.t 32)]) 22 true ::
 H 34 (.bin .lss (.t 33) (Z 0)) 22 true ::
 H 35 (.not (.t 34)) 22 true ::
 J 36 (.pick (.t 22) (.t 35) (B false)) :: []) (0 ::
0 ::
3 ::
7 ::
15 ::
15 ::
15 ::
111 ::
239 ::
15 ::
15 ::
1039 ::
3599 ::
7695 ::
16383 ::
32767 ::
65535 ::
131071 :: []) true)
(.cond (.t 36)
.skip
(.exit 2)))
(.block 3
(F [M 37 9,
 J 38 (.bin .add (.t 37) (Z 1)),
 M 9 38] 3)))))
(.seq
(.seq
(F [M 39 9,
 M 40 2,
 J 41 (.bin .eql (.t 39) (.t 40))] 3)
(.cond (.t 41)
(.seq
(F [J 8 (.mv (B true))] 1)
.ret)
.skip))
(.seq
(.seq
(F [M 42 2,
 M 43 1,
 J 44 (.bin .sub (.t 42) (.t 43)),
 J 45 (.bin .lss (.t 44) (Z 50))] 4)
(.cond (.t 45)
(.seq
(F [J 8 (.mv (B false))] 1)
.ret)
.skip))
(.seq
(.reg (M 46 0 ::
 M 47 9 ::
 M 48 0 ::
 M 49 9 ::
 J 50 (.bin .sub (.t 49) (Z 1)) ::
 M 51 0 ::
 M 52 9 ::
 J 53 (.bin .sub (.t 52) (Z 1)) ::
 J 54 (.idxS 1 (.t 51) (.t 53)) ::
 J 55 (.load none (.t 54)) ::
 M 56 0 ::
 M 57 9 ::
 J 58 (.idxS 1 (.t 56) (.t 57)) ::
 J 59 (.load none (.t 58)) ::
 J 60 (.idxS 1 (.t 46) (.t 47)) ::
 N (.store 1 (.t 60) (.t 55)) ::
 J 61 (.idxS 1 (.t 48) (.t 50)) ::
 N (.store 1 (.t 61) (.t 59)) :: []) (0 ::
0 ::
0 ::
0 ::
8 ::
0 ::
0 ::
64 ::
224 ::
480 ::
0 ::
0 ::
3072 ::
7168 ::
16355 ::
32739 ::
65535 ::
131071 :: []) true)
(.seq
(.seq
(F [M 62 9,
 M 63 1,
 J 64 (.bin .sub (.t 62) (.t 63)),
 J 65 (.bin .geq (.t 64) (Z 2))] 4)
(.cond (.t 65)
(.seq
(F [M 66 9,
 J 67 (.bin .sub (.t 66) (Z 1)),
 M 11 67] 3)
(.block 4
(.loop
(.seq
(.seq
(F [M 68 11,
 J 69 (.bin .geq (.t 68) (Z 1))] 2)
(.cond (.t 69)
.skip
(.exit 4)))
(.seq
(.block 5
(.seq
(.seq
(.reg [M 72 3,
 M 73 0,
 M 74 11,
 J 75 (.idxS 1 (.t 73) (.t 74)),
 J 76 (.load none (.t 75)),
 M 77 0,
 M 78 11,
 J 79 (.bin .sub (.t 78) (Z 1)),
 J 80 (.idxS 1 (.t 77) (.t 79)),
 J 81 (.load none (.t 80)),
 J 82 (.call (.t 72) [(.t 76), (.t 81)]),
 J 83 (.bin .lss (.t 82) (Z 0)),
 J 84 (.not (.t 83))] [0,
0,
0,
6,
14,
0,
0,
64,
224,
480,
1023,
2047,
4095] true)
(.cond (.t 84)
(.exit 4)
.skip))
(.reg (M 85 0 ::
 M 86 11 ::
 M 87 0 ::
 M 88 11 ::
 J 89 (.bin .sub (.t 88) (Z 1)) ::
 M 90 0 ::
 M 91 11 ::
 J 92 (.bin .sub (.t 91) (Z 1)) ::
 J 93 (.idxS 1 (.t 90) (.t 92)) ::
 J 94 (.load none (.t 93)) ::
 M 95 0 ::
 M 96 11 ::
 J 97 (.idxS 1 (.t 95) (.t 96)) ::
 J 98 (.load none (.t 97)) ::
 J 99 (.idxS 1 (.t 85) (.t 86)) ::
 N (.store 1 (.t 99) (.t 94)) ::
 J 100 (.idxS 1 (.t 87) (.t 89)) ::
 N (.store 1 (.t 100) (.t 98)) :: []) (0 ::
0 ::
0 ::
0 ::
8 ::
0 ::
0 ::
64 ::
224 ::
480 ::
0 ::
0 ::
3072 ::
7168 ::
16355 ::
32739 ::
65535 ::
131071 :: []) true)))
(F [M 70 11,
 J 71 (.bin .sub (.t 70) (Z 1)),
 M 11 71] 3))))))
.skip))
(.seq
(F [M 101 2,
 M 102 9,
 J 103 (.bin .sub (.t 101) (.t 102)),
 J 104 (.bin .geq (.t 103) (Z 2))] 4)
(.cond (.t 104)
(.seq
(F [M 105 9,
 J 106 (.bin .add (.t 105) (Z 1)),
 M 12 106] 3)
(.block 6
(.loop
(.seq
(.seq
(F [M 107 12,
 M 108 2,
 J 109 (.bin .lss (.t 107) (.t 108))] 3)
(.cond (.t 109)
.skip
(.exit 6)))
(.seq
(.block 7
(.seq
(.seq
(.reg [M 112 3,
 M 113 0,
 M 114 12,
 J 115 (.idxS 1 (.t 113) (.t 114)),
 J 116 (.load none (.t 115)),
 M 117 0,
 M 118 12,
 J 119 (.bin .sub (.t 118) (Z 1)),
 J 120 (.idxS 1 (.t 117) (.t 119)),
 J 121 (.load none (.t 120)),
 J 122 (.call (.t 112) [(.t 116), (.t 121)]),
 J 123 (.bin .lss (.t 122) (Z 0)),
 J 124 (.not (.t 123))] [0,
0,
0,
6,
14,
0,
0,
64,
224,
480,
1023,
2047,
4095] true)
(.cond (.t 124)
(.exit 6)
.skip))
(.reg (M 125 0 ::
 M 126 12 ::
 M 127 0 ::
 M 128 12 ::
 J 129 (.bin .sub (.t 128) (Z 1)) ::
 M 130 0 ::
 M 131 12 ::
 J 132 (.bin .sub (.t 131) (Z 1)) ::
 J 133 (.idxS 1 (.t 130) (.t 132)) ::
 J 134 (.load none (.t 133)) ::
 M 135 0 ::
 M 136 12 ::
 J 137 (.idxS 1 (.t 135) (.t 136)) ::
 J 138 (.load none (.t 137)) ::
 J 139 (.idxS 1 (.t 125) (.t 126)) ::
 N (.store 1 (.t 139) (.t 134)) ::
 J 140 (.idxS 1 (.t 127) (.t 129)) ::
 N (.store 1 (.t 140) (.t 138)) :: []) (0 ::
0 ::
0 ::
0 ::
8 ::
0 ::
0 ::
64 ::
224 ::
480 ::
0 ::
0 ::
3072 ::
7168 ::
16355 ::
32739 ::
65535 ::
131071 :: []) true)))
(F [M 110 12,
 J 111 (.bin .add (.t 110) (Z 1)),
 M 12 111] 3))))))
.skip))))))))
(F [M 17 10,
 J 18 (.bin .add (.t 17) (Z 1)),
 M 10 18] 3))))))
(.seq
(F [J 8 (.mv (B false))] 1)
.ret))))
def rv : List RV := [.tmp 8]
/-! live slices_partialInsertionSortCmpFunc_int: [0, 1, 2, 3, 8, 9, 10, 11, 12, 16, 36, 41, 45, 65, 69, 84, 104, 109, 124] -/
theorem enter : En Try.prog 63 141 s rv := En.mk (c := Try.f63.body.getD .ret) Try.func63 rfl (by kernel_rfl) (by kernel_rfl) (by kernel_rfl) (by kernel_rfl)
end slices_partialInsertionSortCmpFunc_int
/-! ### slices.partitionCmpFunc[int] -/
namespace slices_partitionCmpFunc_int
abbrev f : Nat := 65
def s : SCo := (.seq
(F [J 10 (.mv (Z 0)),
 J 11 (.mv (B false))] 2)
(.seq
(.reg (M 14 0 ::
 M 15 1 ::
 M 16 0 ::
 M 17 3 ::
 M 18 0 ::
 M 19 3 ::
 J 20 (.idxS 1 (.t 18) (.t 19)) ::
 J 21 (.load none (.t 20)) ::
 M 22 0 ::
 M 23 1 ::
 J 24 (.idxS 1 (.t 22) (.t 23)) ::
 J 25 (.load none (.t 24)) ::
 J 26 (.idxS 1 (.t 14) (.t 15)) ::
 N (.store 1 (.t 26) (.t 21)) ::
 J 27 (.idxS 1 (.t 16) (.t 17)) ::
 N (.store 1 (.t 27) (.t 25)) :: []) (0 ::
0 ::
0 ::
0 ::
0 ::
0 ::
48 ::
112 ::
0 ::
0 ::
768 ::
1792 ::
4083 ::
8179 ::
16383 ::
32767 :: []) true)
(.seq
(F [M 28 1,
 J 29 (.bin .add (.t 28) (Z 1)),
 M 30 2,
 J 31 (.bin .sub (.t 30) (Z 1)),
 M 12 29,
 M 13 31] 6)
(.seq
(.block 0
(.loop
(.seq
(.seq
(.reg (M 32 12 ::
 M 33 13 ::
 J 34 (.bin .leq (.t 32) (.t 33)) ::
 M 35 34 ::
 G 36 4 35 true ::
 G 37 0 35 true ::
 G 38 12 35 true ::
 H 39 (.idxS 1 (.t 37) (.t 38)) 35 true ::
 H 40 (.load none (.t 39)) 35 true ::
 G 41 0 35 true ::
 G 42 1 35 true ::
 H 43 (.idxS 1 (.t 41) (.t 42)) 35 true ::
 H 44 (.load none (.t 43)) 35 true ::
 H 45 (.call (.t 36) [(.t 40), (.t 44)]) 35 true ::
 H 46 (.bin .lss (.t 45) (Z 0)) 35 true ::
 J 47 (.pick (.t 35) (.t 46) (B false)) :: []) (0 ::
0 ::
3 ::
7 ::
15 ::
15 ::
15 ::
111 ::
239 ::
15 ::
15 ::
1551 ::
3599 ::
8191 ::
16383 ::
32767 :: []) true)
(.cond (.t 47)
.skip
(.exit 0)))
(.block 1
(F [M 48 12,
 J 49 (.bin .add (.t 48) (Z 1)),
 M 12 49] 3)))))
(.seq
(.block 2
(.loop
(.seq
(.seq
(.reg (M 50 12 ::
 M 51 13 ::
 J 52 (.bin .leq (.t 50) (.t 51)) ::
 M 53 52 ::
 G 54 4 53 true ::
 G 55 0 53 true ::
 G 56 13 53 true ::
 H 57 (.idxS 1 (.t 55) (.t 56)) 53 true ::
 H 58 (.load none (.t 57)) 53 true ::
 G 59 0 53 true ::
 G 60 1 53 true ::
 H 61 (.idxS 1 (.t 59) (.t 60)) 53 true ::
 H 62 (.load none (.t 61)) 53 true ::
 H 63 (.call (.t 54) [(.t 58), (.t 62)]) 53 true ::
 H 64 (.bin .lss (.t 63) (Z 0)) 53 true ::
 H 65 (.not (.t 64)) 53 true ::
 J 66 (.pick (.t 53) (.t 65) (B false)) :: []) (0 ::
0 ::
3 ::
7 ::
15 ::
15 ::
15 ::
111 ::
239 ::
15 ::
15 ::
1551 ::
3599 ::
8191 ::
16383 ::
32767 ::
65535 :: []) true)
(.cond (.t 66)
.skip
(.exit 2)))
(.block 3
(F [M 67 13,
 J 68 (.bin .sub (.t 67) (Z 1)),
 M 13 68] 3)))))
(.seq
(.seq
(F [M 69 12,
 M 70 13,
 J 71 (.bin .gtr (.t 69) (.t 70))] 3)
(.cond (.t 71)
(.seq
(.reg (M 72 0 ::
 M 73 13 ::
 M 74 0 ::
 M 75 1 ::
 M 76 0 ::
 M 77 1 ::
 J 78 (.idxS 1 (.t 76) (.t 77)) ::
 J 79 (.load none (.t 78)) ::
 M 80 0 ::
 M 81 13 ::
 J 82 (.idxS 1 (.t 80) (.t 81)) ::
 J 83 (.load none (.t 82)) ::
 J 84 (.idxS 1 (.t 72) (.t 73)) ::
 N (.store 1 (.t 84) (.t 79)) ::
 J 85 (.idxS 1 (.t 74) (.t 75)) ::
 N (.store 1 (.t 85) (.t 83)) :: []) (0 ::
0 ::
0 ::
0 ::
0 ::
0 ::
48 ::
112 ::
0 ::
0 ::
768 ::
1792 ::
4083 ::
8179 ::
16383 ::
32767 :: []) true)
(.seq
(F [M 86 13,
 M 10 86,
 J 11 (.mv (B true))] 3)
.ret))
.skip))
(.seq
(.reg (M 87 0 ::
 M 88 12 ::
 M 89 0 ::
 M 90 13 ::
 M 91 0 ::
 M 92 13 ::
 J 93 (.idxS 1 (.t 91) (.t 92)) ::
 J 94 (.load none (.t 93)) ::
 M 95 0 ::
 M 96 12 ::
 J 97 (.idxS 1 (.t 95) (.t 96)) ::
 J 98 (.load none (.t 97)) ::
 J 99 (.idxS 1 (.t 87) (.t 88)) ::
 N (.store 1 (.t 99) (.t 94)) ::
 J 100 (.idxS 1 (.t 89) (.t 90)) ::
 N (.store 1 (.t 100) (.t 98)) :: []) (0 ::
0 ::
0 ::
0 ::
0 ::
0 ::
48 ::
112 ::
0 ::
0 ::
768 ::
1792 ::
4083 ::
8179 ::
16383 ::
32767 :: []) true)
(.seq
(F [M 101 12,
 J 102 (.bin .add (.t 101) (Z 1)),
 M 12 102] 3)
(.seq
(F [M 103 13,
 J 104 (.bin .sub (.t 103) (Z 1)),
 M 13 104] 3)
(.seq
(.block 4
(.loop
(.block 5
(.seq
(.block 6
(.loop
(.seq
(.seq
(.reg (M 105 12 ::
 M 106 13 ::
 J 107 (.bin .leq (.t 105) (.t 106)) ::
 M 108 107 ::
 G 109 4 108 true ::
 G 110 0 108 true ::
 G 111 12 108 true ::
 H 112 (.idxS 1 (.t 110) (.t 111)) 108 true ::
 H 113 (.load none (.t 112)) 108 true ::
 G 114 0 108 true ::
 G 115 1 108 true ::
 H 116 (.idxS 1 (.t 114) (.t 115)) 108 true ::
 H 117 (.load none (.t 116)) 108 true ::
 H 118 (.call (.t 109) [(.t 113), (.t 117)]) 108 true ::
 H 119 (.bin .lss (.t 118) (Z 0)) 108 true ::
 J 120 (.pick (.t 108) (.t 119) (B false)) :: []) (0 ::
0 ::
3 ::
7 ::
15 ::
15 ::
15 ::
111 ::
239 ::
15 ::
15 ::
1551 ::
3599 ::
8191 ::
16383 ::
32767 :: []) true)
(.cond (.t 120)
.skip
(.exit 6)))
(.block 7
(F [M 121 12,
 J 122 (.bin .add (.t 121) (Z 1)),
 M 12 122] 3)))))
(.seq
(.block 8
(.loop
(.seq
(.seq
(.reg (M 123 12 ::
 M 124 13 ::
 J 125 (.bin .leq (.t 123) (.t 124)) ::
 M 126 125 ::
 G 127 4 126 true ::
 G 128 0 126 true ::
 G 129 13 126 true ::
 H 130 (.idxS 1 (.t 128) (.t 129)) 126 true ::
 H 131 (.load none (.t 130)) 126 true ::
 G 132 0 126 true ::
 G 133 1 126 true ::
 H 134 (.idxS 1 (.t 132) (.t 133)) 126 true ::
 H 135 (.load none (.t 134)) 126 true ::
 H 136 (.call (.t 127) [(.t 131), (.t 135)]) 126 true ::
 H 137 (.bin .lss (.t 136) (Z 0)) 126 true ::
 H 138 (.not (.t 137)) 126 true ::
 J 139 (.pick (.t 126) (.t 138) (B false)) :: []) (0 ::
0 ::
3 ::
7 ::
15 ::
15 ::
15 ::
111 ::
239 ::
15 ::
15 ::
1551 ::
3599 ::
8191 ::
16383 ::
32767 ::
65535 :: []) true)
(.cond (.t 139)
.skip
(.exit 8)))
(.block 9
(F [M 140 13,
 J 141 (.bin .sub (.t 140) (Z 1)),
 M 13 141] 3)))))
(.seq
(.seq
(F [M 142 12,
 M 143 13,
 J 144 (.bin .gtr (.t 142) (.t 143))] 3)
(.cond (.t 144)
(.exit 4)
.skip))
(.seq
(.reg (M 145 0 ::
 M 146 12 ::
 M 147 0 ::
 M 148 13 ::
 M 149 0 ::
 M 150 13 ::
 J 151 (.idxS 1 (.t 149) (.t 150)) ::
 J 152 (.load none (.t 151)) ::
 M 153 0 ::
 M 154 12 ::
 J 155 (.idxS 1 (.t 153) (.t 154)) ::
 J 156 (.load none (.t 155)) ::
 J 157 (.idxS 1 (.t 145) (.t 146)) ::
 N (.store 1 (.t 157) (.t 152)) ::
 J 158 (.idxS 1 (.t 147) (.t 148)) ::
 N (.store 1 (.t 158) (.t 156)) :: []) (0 ::
0 ::
0 ::
0 ::
0 ::
0 ::
48 ::
112 ::
0 ::
0 ::
768 ::
1792 ::
4083 ::
8179 ::
16383 ::
32767 :: []) true)
(.seq
(F [M 159 12,
 J 160 (.bin .add (.t 159) (Z 1)),
 M 12 160] 3)
(F [M 161 13,
 J 162 (.bin .sub (.t 161) (Z 1)),
 M 13 162] 3)))))))))
(.seq
(.reg (M 163 0 ::
 M 164 13 ::
 M 165 0 ::
 M 166 1 ::
 M 167 0 ::
 M 168 1 ::
 J 169 (.idxS 1 (.t 167) (.t 168)) ::
 J 170 (.load none (.t 169)) ::
 M 171 0 ::
 M 172 13 ::
 J 173 (.idxS 1 (.t 171) (.t 172)) ::
 J 174 (.load none (.t 173)) ::
 J 175 (.idxS 1 (.t 163) (.t 164)) ::
 N (.store 1 (.t 175) (.t 170)) ::
 J 176 (.idxS 1 (.t 165) (.t 166)) ::
 N (.store 1 (.t 176) (.t 174)) :: []) (0 ::
0 ::
0 ::
0 ::
0 ::
0 ::
48 ::
112 ::
0 ::
0 ::
768 ::
1792 ::
4083 ::
8179 ::
16383 ::
32767 :: []) true)
(.seq
(F [M 177 13,
 M 10 177,
 J 11 (.mv (B false))] 3)
.ret))))))))))))
def rv : List RV := [.tmp 10, .tmp 11]
/-! live slices_partitionCmpFunc_int: [0, 1, 2, 3, 4, 10, 11, 12, 13, 47, 66, 71, 120, 139, 144] -/
theorem enter : En Try.prog 65 178 s rv := En.mk (c := Try.f65.body.getD .ret) Try.func65 rfl (by kernel_rfl) (by kernel_rfl) (by kernel_rfl) (by kernel_rfl)
end slices_partitionCmpFunc_int
/-! ### slices.IndexFunc[[]tranter.api.Op,tranter.api.Op] -/
namespace slices_IndexFunc_Lapi_Op_api_Op
abbrev f : Nat := 66
def s : SCo := (.seq
(F [J 4 (.mv (Z 0))] 1)
(.seq
(.seq
(F [M 6 0,
 J 7 (.len (.t 6)),
 J 8 (.mv (Z 0))] 3)
(.block 0
(.loop
(.seq
(F [J 9 (.bin .lss (.t 8) (.t 7))] 1)
(.seq
(.cond (.t 9)
.skip
(.exit 0))
(.seq
(.block 1
(.seq
(F [M 10 8,
 M 5 10] 2)
(.seq
(F [M 11 1,
 M 12 0,
 M 13 5,
 J 14 (.idxS 29 (.t 12) (.t 13)),
 J 15 (.load (some 29) (.t 14)),
 J 16 (.call (.t 11) [(.t 15)])] 6)
(.cond (.t 16)
(.seq
(F [M 17 5,
 M 4 17] 2)
.ret)
.skip))))
(F [J 18 (.bin .add (.t 8) (Z 1)),
 M 8 18] 2)))))))
(.seq
(F [J 4 (.mv (.k (.d (.int .i64 (-1)))))] 1)
.ret)))
def rv : List RV := [.tmp 4]
/-! live slices_IndexFunc_Lapi_Op_api_Op: [0, 1, 4, 5, 7, 8, 9, 16] -/
theorem enter : En Try.prog 66 19 s rv := En.mk (c := Try.f66.body.getD .ret) Try.func66 rfl (by kernel_rfl) (by kernel_rfl) (by kernel_rfl) (by kernel_rfl)
end slices_IndexFunc_Lapi_Op_api_Op
/-! ### slices.Contains[[]bool,bool] -/
namespace slices_Contains_Lbool_bool
abbrev f : Nat := 67
def s : SCo := (.seq
(F [J 4 (.mv (B false))] 1)
(.seq
(F [M 5 0,
 M 6 1,
 J 7 (.call (C 76) [(.t 5), (.t 6)]),
 J 8 (.bin .geq (.t 7) (Z 0)),
 M 4 8] 5)
.ret))
def rv : List RV := [.tmp 4]
/-! live slices_Contains_Lbool_bool: [0, 1, 4] -/
theorem enter : En Try.prog 67 9 s rv := En.mk (c := Try.f67.body.getD .ret) Try.func67 rfl (by kernel_rfl) (by kernel_rfl) (by kernel_rfl) (by kernel_rfl)
end slices_Contains_Lbool_bool
/-! ### slices.nextPowerOfTwo -/
namespace slices_nextPowerOfTwo
abbrev f : Nat := 69
def s : SCo := (.seq
(F [J 2 (.mv (.k (b64 0)))] 1)
(.seq
(F [M 3 0,
 J 4 (.conv .u64 (.t 3)),
 J 5 (.call (C 42) [(.t 4)]),
 J 6 (.bin .shl (.k (b64 1)) (.t 5)),
 M 2 6] 5)
.ret))
def rv : List RV := [.tmp 2]
/-! live slices_nextPowerOfTwo: [0, 2] -/
theorem enter : En Try.prog 69 7 s rv := En.mk (c := Try.f69.body.getD .ret) Try.func69 rfl (by kernel_rfl) (by kernel_rfl) (by kernel_rfl) (by kernel_rfl)
end slices_nextPowerOfTwo
/-! ### (slices.xorshift).Next -/
namespace slices_xorshift_Next
abbrev f : Nat := 70
def s : SCo := (.seq
(F [J 2 (.mv (.k (b64 0)))] 1)
(.seq
(.reg [M 3 0,
 J 4 (.nilc (.t 3)),
 J 5 (.load none (.t 4)),
 M 6 0,
 J 7 (.nilc (.t 6)),
 J 8 (.load none (.t 7)),
 J 9 (.bin .shl (.t 8) (.k (b64 13))),
 J 10 (.bin .xor (.t 5) (.t 9)),
 J 11 (.nilc (.t 3)),
 N (.store 1 (.t 11) (.t 10))] [0,
1,
3,
0,
8,
24,
56,
127,
255,
511] true)
(.seq
(.reg [M 12 0,
 J 13 (.nilc (.t 12)),
 J 14 (.load none (.t 13)),
 M 15 0,
 J 16 (.nilc (.t 15)),
 J 17 (.load none (.t 16)),
 J 18 (.bin .shr (.t 17) (.k (b64 7))),
 J 19 (.bin .xor (.t 14) (.t 18)),
 J 20 (.nilc (.t 12)),
 N (.store 1 (.t 20) (.t 19))] [0,
1,
3,
0,
8,
24,
56,
127,
255,
511] true)
(.seq
(.reg [M 21 0,
 J 22 (.nilc (.t 21)),
 J 23 (.load none (.t 22)),
 M 24 0,
 J 25 (.nilc (.t 24)),
 J 26 (.load none (.t 25)),
 J 27 (.bin .shl (.t 26) (.k (b64 17))),
 J 28 (.bin .xor (.t 23) (.t 27)),
 J 29 (.nilc (.t 21)),
 N (.store 1 (.t 29) (.t 28))] [0,
1,
3,
0,
8,
24,
56,
127,
255,
511] true)
(.seq
(F [M 30 0,
 J 31 (.nilc (.t 30)),
 J 32 (.load none (.t 31)),
 M 2 32] 4)
.ret)))))
def rv : List RV := [.tmp 2]
/-! live slices_xorshift_Next: [0, 2] -/
theorem enter : En Try.prog 70 33 s rv := En.mk (c := Try.f70.body.getD .ret) Try.func70 rfl (by kernel_rfl) (by kernel_rfl) (by kernel_rfl) (by kernel_rfl)
end slices_xorshift_Next
/-! ### slices.siftDownCmpFunc[int] -/
namespace slices_siftDownCmpFunc_int
abbrev f : Nat := 73
def s : SCo := (.seq
(F [M 12 1,
 M 10 12] 2)
(.block 0
(.loop
(.block 1
(.seq
(F [M 13 10,
 J 14 (.bin .mul (Z 2) (.t 13)),
 J 15 (.bin .add (.t 14) (Z 1)),
 M 11 15] 4)
(.seq
(.seq
(F [M 16 11,
 M 17 2,
 J 18 (.bin .geq (.t 16) (.t 17))] 3)
(.cond (.t 18)
(.exit 0)
.skip))
(.seq
(.seq
(.reg (M 19 11 ::
 J 20 (.bin .add (.t 19) (Z 1)) ::
 M 21 2 ::
 J 22 (.bin .lss (.t 20) (.t 21)) ::
 M 23 22 ::
 G 24 4 23 true ::
 G 25 0 23 true ::
 G 26 3 23 true ::
 G 27 11 23 true ::
 H 28 (.bin .add (.t 26) (.t 27)) 23 true ::
 H 29 (.idxS 1 (.t 25) (.t 28)) 23 true ::
 H 30 (.load none (.t 29)) 23 true ::
 G 31 0 23 true ::
 G 32 3 23 true ::
 G 33 11 23 true ::
 H 34 (.bin .add (.t 32) (.t 33)) 23 true ::
 H 35 (.bin .add (.t 34) (Z 1)) 23 true ::
 H 36 (.idxS 1 (.t 31) (.t 35)) 23 true ::
 H 37 (.load none (.t 36)) 23 true ::
 H 38 (.call (.t 24) [(.t 30), (.t 37)]) 23 true ::
 H 39 (.bin .lss (.t 38) (Z 0)) 23 true ::
 J 40 (.pick (.t 23) (.t 39) (B false)) :: []) (0 ::
1 ::
0 ::
7 ::
15 ::
31 ::
31 ::
31 ::
31 ::
415 ::
991 ::
2015 ::
31 ::
31 ::
31 ::
24607 ::
57375 ::
127007 ::
258079 ::
524287 ::
1048575 ::
2097151 :: []) true)
(.cond (.t 40)
(F [M 41 11,
 J 42 (.bin .add (.t 41) (Z 1)),
 M 11 42] 3)
.skip))
(.seq
(.seq
(.reg (M 43 4 ::
 M 44 0 ::
 M 45 3 ::
 M 46 10 ::
 J 47 (.bin .add (.t 45) (.t 46)) ::
 J 48 (.idxS 1 (.t 44) (.t 47)) ::
 J 49 (.load none (.t 48)) ::
 M 50 0 ::
 M 51 3 ::
 M 52 11 ::
 J 53 (.bin .add (.t 51) (.t 52)) ::
 J 54 (.idxS 1 (.t 50) (.t 53)) ::
 J 55 (.load none (.t 54)) ::
 J 56 (.call (.t 43) [(.t 49), (.t 55)]) ::
 J 57 (.bin .lss (.t 56) (Z 0)) ::
 J 58 (.not (.t 57)) :: []) (0 ::
0 ::
0 ::
0 ::
12 ::
30 ::
62 ::
0 ::
0 ::
0 ::
768 ::
1920 ::
3968 ::
8191 ::
16383 ::
32767 :: []) true)
(.cond (.t 58)
.ret
.skip))
(.seq
(.reg (M 59 0 ::
 M 60 3 ::
 M 61 10 ::
 J 62 (.bin .add (.t 60) (.t 61)) ::
 M 63 0 ::
 M 64 3 ::
 M 65 11 ::
 J 66 (.bin .add (.t 64) (.t 65)) ::
 M 67 0 ::
 M 68 3 ::
 M 69 11 ::
 J 70 (.bin .add (.t 68) (.t 69)) ::
 J 71 (.idxS 1 (.t 67) (.t 70)) ::
 J 72 (.load none (.t 71)) ::
 M 73 0 ::
 M 74 3 ::
 M 75 10 ::
 J 76 (.bin .add (.t 74) (.t 75)) ::
 J 77 (.idxS 1 (.t 73) (.t 76)) ::
 J 78 (.load none (.t 77)) ::
 J 79 (.idxS 1 (.t 59) (.t 62)) ::
 N (.store 1 (.t 79) (.t 72)) ::
 J 80 (.idxS 1 (.t 63) (.t 66)) ::
 N (.store 1 (.t 80) (.t 78)) :: []) (0 ::
0 ::
0 ::
6 ::
0 ::
0 ::
0 ::
96 ::
0 ::
0 ::
0 ::
1536 ::
3840 ::
7936 ::
0 ::
0 ::
0 ::
98304 ::
245760 ::
507904 ::
1048335 ::
2096911 ::
4194303 ::
8388607 :: []) true)
(F [M 81 11,
 M 10 81] 2))))))))))
def rv : List RV := []
/-! live slices_siftDownCmpFunc_int: [0, 1, 2, 3, 4, 10, 11, 18, 40, 58] -/
theorem enter : En Try.prog 73 82 s rv := En.mk (c := Try.f73.body.getD .ret) Try.func73 rfl (by kernel_rfl) (by kernel_rfl) (by kernel_rfl) (by kernel_rfl)
end slices_siftDownCmpFunc_int
/-! ### slices.medianAdjacentCmpFunc[int] -/
namespace slices_medianAdjacentCmpFunc_int
abbrev f : Nat := 74
def s : SCo := (.seq
(F [J 8 (.mv (Z 0))] 1)
(.seq
(F [M 9 0,
 M 10 1,
 J 11 (.bin .sub (.t 10) (Z 1)),
 M 12 1,
 M 13 1,
 J 14 (.bin .add (.t 13) (Z 1)),
 M 15 2,
 M 16 3,
 J 17 (.call (C 75) [(.t 9), (.t 11), (.t 12), (.t 14), (.t 15), (.t 16)]),
 M 8 17] 10)
.ret))
def rv : List RV := [.tmp 8]
/-! live slices_medianAdjacentCmpFunc_int: [0, 1, 2, 3, 8] -/
theorem enter : En Try.prog 74 18 s rv := En.mk (c := Try.f74.body.getD .ret) Try.func74 rfl (by kernel_rfl) (by kernel_rfl) (by kernel_rfl) (by kernel_rfl)
end slices_medianAdjacentCmpFunc_int
/-! ### slices.medianCmpFunc[int] -/
namespace slices_medianCmpFunc_int
abbrev f : Nat := 75
def s : SCo := (.seq
(F [J 12 (.mv (Z 0))] 1)
(.seq
(F [M 14 0,
 M 15 1,
 M 16 2,
 M 17 4,
 M 18 5,
 J 19 (.call (C 78) [(.t 14), (.t 15), (.t 16), (.t 17), (.t 18)]),
 M 13 19,
 J 20 (.ext 0 (.t 13)),
 J 21 (.ext 1 (.t 13)),
 M 1 20,
 M 2 21] 11)
(.seq
(F [M 23 0,
 M 24 2,
 M 25 3,
 M 26 4,
 M 27 5,
 J 28 (.call (C 78) [(.t 23), (.t 24), (.t 25), (.t 26), (.t 27)]),
 M 22 28,
 J 29 (.ext 0 (.t 22)),
 J 30 (.ext 1 (.t 22)),
 M 2 29,
 M 3 30] 11)
(.seq
(F [M 32 0,
 M 33 1,
 M 34 2,
 M 35 4,
 M 36 5,
 J 37 (.call (C 78) [(.t 32), (.t 33), (.t 34), (.t 35), (.t 36)]),
 M 31 37,
 J 38 (.ext 0 (.t 31)),
 J 39 (.ext 1 (.t 31)),
 M 1 38,
 M 2 39] 11)
(.seq
(F [M 40 2,
 M 12 40] 2)
.ret)))))
def rv : List RV := [.tmp 12]
/-! live slices_medianCmpFunc_int: [0, 1, 2, 3, 4, 5, 12] -/
theorem enter : En Try.prog 75 41 s rv := En.mk (c := Try.f75.body.getD .ret) Try.func75 rfl (by kernel_rfl) (by kernel_rfl) (by kernel_rfl) (by kernel_rfl)
end slices_medianCmpFunc_int
/-! ### slices.Index[[]bool,bool] -/
namespace slices_Index_Lbool_bool
abbrev f : Nat := 76
def s : SCo := (.seq
(F [J 4 (.mv (Z 0))] 1)
(.seq
(.seq
(F [M 6 0,
 J 7 (.len (.t 6)),
 J 8 (.mv (Z 0))] 3)
(.block 0
(.loop
(.seq
(F [J 9 (.bin .lss (.t 8) (.t 7))] 1)
(.seq
(.cond (.t 9)
.skip
(.exit 0))
(.seq
(.block 1
(.seq
(F [M 10 8,
 M 5 10] 2)
(.seq
(F [M 11 1,
 M 12 0,
 M 13 5,
 J 14 (.idxS 1 (.t 12) (.t 13)),
 J 15 (.load none (.t 14)),
 J 16 (.eqb false (.t 11) (.t 15))] 6)
(.cond (.t 16)
(.seq
(F [M 17 5,
 M 4 17] 2)
.ret)
.skip))))
(F [J 18 (.bin .add (.t 8) (Z 1)),
 M 8 18] 2)))))))
(.seq
(F [J 4 (.mv (.k (.d (.int .i64 (-1)))))] 1)
.ret)))
def rv : List RV := [.tmp 4]
/-! live slices_Index_Lbool_bool: [0, 1, 4, 5, 7, 8, 9, 16] -/
theorem enter : En Try.prog 76 19 s rv := En.mk (c := Try.f76.body.getD .ret) Try.func76 rfl (by kernel_rfl) (by kernel_rfl) (by kernel_rfl) (by kernel_rfl)
end slices_Index_Lbool_bool
/-! ### slices.order2CmpFunc[int] -/
namespace slices_order2CmpFunc_int
abbrev f : Nat := 78
def s : SCo := (.seq
(F [J 10 (.mv (Z 0)),
 J 11 (.mv (Z 0))] 2)
(.seq
(.seq
(.reg [M 12 4,
 M 13 0,
 M 14 2,
 J 15 (.idxS 1 (.t 13) (.t 14)),
 J 16 (.load none (.t 15)),
 M 17 0,
 M 18 1,
 J 19 (.idxS 1 (.t 17) (.t 18)),
 J 20 (.load none (.t 19)),
 J 21 (.call (.t 12) [(.t 16), (.t 20)]),
 J 22 (.bin .lss (.t 21) (Z 0))] [0,
0,
0,
6,
14,
0,
0,
96,
224,
511,
1023] true)
(.cond (.t 22)
(.seq
(F [M 23 3,
 J 24 (.nilc (.t 23)),
 J 25 (.load none (.t 24)),
 J 26 (.bin .add (.t 25) (Z 1)),
 J 27 (.nilc (.t 23)),
 N (.store 1 (.t 27) (.t 26))] 6)
(.seq
(F [M 28 2,
 M 29 1,
 M 10 28,
 M 11 29] 4)
.ret))
.skip))
(.seq
(F [M 30 1,
 M 31 2,
 M 10 30,
 M 11 31] 4)
.ret)))
def rv : List RV := [.tmp 10, .tmp 11]
/-! live slices_order2CmpFunc_int: [0, 1, 2, 3, 4, 10, 11, 22] -/
theorem enter : En Try.prog 78 32 s rv := En.mk (c := Try.f78.body.getD .ret) Try.func78 rfl (by kernel_rfl) (by kernel_rfl) (by kernel_rfl) (by kernel_rfl)
end slices_order2CmpFunc_int
end Go.Proofs.Ytamokhfmnhpnlaa
