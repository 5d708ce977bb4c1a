/-
  The code of the functions in the small form, by program (gen.py); each is checked against the translation by the kernel.
-/
import Derived.Test.YtgjgfamgbhlmfaaChecked
import Derived.Test.YtgjgfamgbhlmfaaU7
set_option linter.unusedVariables false
set_option linter.unusedSimpArgs false
set_option linter.unusedSectionVars false
namespace Go.Proofs.Ytgjgfamgbhlmfaa
open Go.Sl Go.Sl.Co Go.Proofs
theorem mixed : Try.prog.follows .mixedOrders = true := by kernel_rfl
abbrev T_ : Nat := 0
abbrev T_func : Nat := 1
abbrev T_int64 : Nat := 2
abbrev T_int : Nat := 3
abbrev T_bool : Nat := 4
abbrev T_uint8 : Nat := 5
abbrev T_abi_BoundsErrorCode : Nat := 6
abbrev T_runtime_boundsError : Nat := 8
abbrev T_string : Nat := 9
abbrev T_runtime_errorString : Nat := 10
abbrev T_runtime_plainError : Nat := 11
abbrev T_uintptr : Nat := 12
abbrev T_struct_msg_string_addr_uintptr : Nat := 13
abbrev T_runtime_errorAddressString : Nat := 14
abbrev T_P_runtime_TypeAssertionError : Nat := 15
abbrev T_P_runtime_PanicNilError : Nat := 16
abbrev T_P_abi_Type : Nat := 17
abbrev T_struct_typ_P_abi_Type : Nat := 18
abbrev T_maps_unhashableTypeError : Nat := 19
abbrev T_interface : Nat := 20
abbrev T_int32 : Nat := 21
abbrev T_L_api_Op : Nat := 22
abbrev T_uint32 : Nat := 23
abbrev T_A8_uint32 : Nat := 24
abbrev T_api_Vector : Nat := 25
abbrev T_struct_From_uint8_To_uint8_Most_int : Nat := 26
abbrev T_tranterlaw14_Ends : Nat := 27
abbrev T_func_L_api_Op_bool : Nat := 28
abbrev T_func_bool : Nat := 29
abbrev T_api_Frame : Nat := 31
abbrev T_api_Errno : Nat := 32
abbrev T_api_Frame_api_Errno : Nat := 33
abbrev T_api_Frame_int : Nat := 35
abbrev T_func_L_api_Op_L_api_Op_bool : Nat := 39
abbrev T_func_L_api_Op_api_Vector_L_api_Op : Nat := 40
abbrev T_func_api_Frame_api_Frame_bool : Nat := 41
abbrev T_struct_R_uint8_N_uint32 : Nat := 43
abbrev T_api_Dot : Nat := 44
abbrev T_uint64 : Nat := 45
abbrev T_L_api_Claim : Nat := 46
abbrev T_api_Op : Nat := 48
abbrev T_func_L_api_Op : Nat := 49
abbrev T_func_int_int_int : Nat := 50
abbrev T_func_api_Frame_bool : Nat := 52
abbrev T_func_L_api_Op_api_Vector : Nat := 53
abbrev T_func_func_api_Op_bool : Nat := 54
abbrev T_iter_SeqAtranter_api_Op : Nat := 55
abbrev T_func_api_Op_api_Op_bool : Nat := 57
abbrev T_func_iter_SeqAtranter_api_Op_L_api_Op : Nat := 58
abbrev T_func_api_Vector_api_Dot_bool : Nat := 59
abbrev T_func_L_api_Op_api_Dot_bool : Nat := 60
abbrev T_func_L_api_Op_L_api_Op : Nat := 61
abbrev T_func_api_Op_bool : Nat := 62
abbrev T_mapAgossip_name_int : Nat := 63
abbrev T_A2_uint32 : Nat := 64
abbrev T_gossip_name : Nat := 65
abbrev T_func_L_api_Op_func_api_Op_api_Op_int : Nat := 66
abbrev T_func_api_Op_api_Op_int : Nat := 67
abbrev T_func_L_api_Claim_L_api_Claim : Nat := 68
abbrev T_struct_Line_api_Dot_Version_api_Dot : Nat := 69
abbrev T_api_Claim : Nat := 70
abbrev T_func_L_api_Op_func_api_Op_bool_bool : Nat := 72
abbrev T_func_bool_bool : Nat := 73
abbrev T_func_api_Dot_bool : Nat := 74
abbrev T_func_uint_int : Nat := 76
abbrev T_uint : Nat := 77
abbrev T_func_int_int : Nat := 78
abbrev T_func_uint64_uint64_int : Nat := 79
abbrev T_func_uint8_uint8_int : Nat := 80
abbrev T_func_uint32_uint32_int : Nat := 81
abbrev T_func_L_api_Op_func_api_Op_bool_int : Nat := 82
abbrev T_L_bool : Nat := 83
abbrev T_func_L_bool_bool_bool : Nat := 84
abbrev T_slices_sortedHint : Nat := 86
abbrev T_int_slices_sortedHint : Nat := 87
abbrev T_int_bool : Nat := 91
abbrev T_func_uint32_int : Nat := 93
abbrev T_func_uint64_int : Nat := 94
abbrev T_L_int : Nat := 95
abbrev T_func_uint64_bool : Nat := 96
abbrev T_func_uint8_bool : Nat := 97
abbrev T_func_uint32_bool : Nat := 98
abbrev T_func_L_bool_bool_int : Nat := 99
abbrev T_slices_xorshift : Nat := 100
abbrev T_func_int_uint : Nat := 101
abbrev T_func_uint64 : Nat := 102
abbrev T_P_int : Nat := 104
abbrev T_P_slices_xorshift : Nat := 106
abbrev T_int_int : Nat := 107
abbrev T_func_string : Nat := 109
abbrev T_runtime_TypeAssertionError : Nat := 111
abbrev T_A0_P_runtime_PanicNilError : Nat := 112
abbrev T_struct_A0_P_runtime_PanicNilError : Nat := 113
abbrev T_runtime_PanicNilError : Nat := 114
abbrev T_func_int : Nat := 115
abbrev T_abi_TFlag : Nat := 116
abbrev T_abi_Kind : Nat := 117
abbrev T_func_unsafe_Pointer_unsafe_Pointer_bool : Nat := 118
abbrev T_P_uint8 : Nat := 119
abbrev T_abi_NameOff : Nat := 120
abbrev T_abi_TypeOff : Nat := 121
abbrev T_abi_Type : Nat := 123
abbrev T_unsafe_Pointer : Nat := 124
/-! ### gosem.cut.init -/
/-! ### tranter.tranterlaw14.GossipTells -/
namespace law14_GossipTells
abbrev f : Nat := 3
def s : SCo := (.seq
(F [J 4 (.box 25 (.t 1)),
 J 5 (.box 27 (.t 2)),
 J 6 (.mv (B false))] 3)
(.seq
(.seq
(F [M 15 0,
 J 16 (.call (C 4) [(.t 15)])] 2)
(.cond (.t 16)
(.seq
(F [J 17 (.call (C 5) []),
 M 6 17] 2)
.ret)
.skip))
(.seq
(F [J 19 (.fld 0 (.t 5)),
 J 20 (.load none (.t 19)),
 J 21 (.fld 1 (.t 5)),
 J 22 (.load none (.t 21)),
 J 23 (.load (some 8) (.t 4)),
 J 24 (.call (C 6) [(.t 20), (.t 22), (.t 23)]),
 M 18 24,
 J 25 (.ext 0 (.t 18)),
 J 26 (.ext 1 (.t 18)),
 J 7 (.alloc 31 [b8 0, b8 0, b8 0, b32 0, b32 0, b32 0, b32 0, b32 0, b32 0, b32 0, b32 0, (.d .nils)]),
 N (.store 12 (.t 7) (.t 25)),
 M 8 26] 12)
(.seq
(F [J 28 (.fld 0 (.t 5)),
 J 29 (.load none (.t 28)),
 J 30 (.fld 1 (.t 5)),
 J 31 (.load none (.t 30)),
 J 32 (.load (some 8) (.t 4)),
 J 33 (.call (C 7) [(.t 29), (.t 31), (.t 32)]),
 M 27 33,
 J 34 (.ext 0 (.t 27)),
 J 35 (.ext 1 (.t 27)),
 J 9 (.alloc 31 [b8 0, b8 0, b8 0, b32 0, b32 0, b32 0, b32 0, b32 0, b32 0, b32 0, b32 0, (.d .nils)]),
 N (.store 12 (.t 9) (.t 34)),
 M 10 35] 12)
(.seq
(F [J 37 (.fld 0 (.t 5)),
 J 38 (.load none (.t 37)),
 J 39 (.fld 1 (.t 5)),
 J 40 (.load none (.t 39)),
 M 41 0,
 J 42 (.load (some 8) (.t 4)),
 J 43 (.fld 2 (.t 5)),
 J 44 (.load none (.t 43)),
 J 45 (.call (C 8) [(.t 38), (.t 40), (.t 41), (.t 42), (.t 44)]),
 M 36 45,
 J 46 (.ext 0 (.t 36)),
 J 47 (.ext 1 (.t 36)),
 J 11 (.alloc 31 [b8 0, b8 0, b8 0, b32 0, b32 0, b32 0, b32 0, b32 0, b32 0, b32 0, b32 0, (.d .nils)]),
 N (.store 12 (.t 11) (.t 46)),
 M 12 47] 15)
(.seq
(F [J 49 (.fld 0 (.t 5)),
 J 50 (.load none (.t 49)),
 J 51 (.fld 1 (.t 5)),
 J 52 (.load none (.t 51)),
 M 53 0,
 J 54 (.load (some 8) (.t 4)),
 J 55 (.fld 2 (.t 5)),
 J 56 (.load none (.t 55)),
 J 57 (.call (C 9) [(.t 50), (.t 52), (.t 53), (.t 54), (.t 56)]),
 M 48 57,
 J 58 (.ext 0 (.t 48)),
 J 59 (.ext 1 (.t 48)),
 J 13 (.alloc 31 [b8 0, b8 0, b8 0, b32 0, b32 0, b32 0, b32 0, b32 0, b32 0, b32 0, b32 0, (.d .nils)]),
 N (.store 12 (.t 13) (.t 58)),
 M 14 59] 15)
(.seq
(.reg (M 60 0 ::
 J 61 (.load (some 8) (.t 4)) ::
 J 62 (.call (C 11) [(.t 60), (.t 61)]) ::
 M 63 0 ::
 J 64 (.load (some 8) (.t 4)) ::
 J 65 (.call (C 12) [(.t 63), (.t 64)]) ::
 J 66 (.call (C 10) [(.t 62), (.t 65)]) ::
 M 67 66 ::
 H 68 (.load (some 12) (.t 7)) 67 true ::
 H 69 (.load (some 12) (.t 9)) 67 true ::
 H 70 (.call (C 13) [(.t 68), (.t 69)]) 67 true ::
 J 71 (.pick (.t 67) (.t 70) (B false)) ::
 M 72 71 ::
 G 73 8 72 true ::
 G 74 10 72 true ::
 H 75 (.bin .eql (.t 73) (.t 74)) 72 true ::
 J 76 (.pick (.t 72) (.t 75) (B false)) ::
 M 77 76 ::
 H 78 (.load (some 12) (.t 11)) 77 true ::
 H 79 (.load (some 12) (.t 13)) 77 true ::
 H 80 (.call (C 13) [(.t 78), (.t 79)]) 77 true ::
 J 81 (.pick (.t 77) (.t 80) (B false)) ::
 M 82 81 ::
 G 83 12 82 true ::
 G 84 14 82 true ::
 H 85 (.bin .eql (.t 83) (.t 84)) 82 true ::
 J 86 (.pick (.t 82) (.t 85) (B false)) ::
 M 87 86 ::
 H 88 (.call (C 5) []) 87 true ::
 J 89 (.pick (.t 87) (.t 88) (B false)) ::
 M 6 89 :: []) (0 ::
0 ::
3 ::
0 ::
0 ::
31 ::
63 ::
127 ::
255 ::
255 ::
1023 ::
2047 ::
4095 ::
8191 ::
8191 ::
32767 ::
65535 ::
131071 ::
262143 ::
262143 ::
1048575 ::
2097151 ::
4194303 ::
8388607 ::
8388607 ::
33554431 ::
67108863 ::
134217727 ::
268435455 ::
536870911 ::
1073741823 :: []) true)
.ret)))))))
def rv : List RV := [.tmp 6]
/-! live law14_GossipTells: [0, 1, 2, 4, 5, 6, 7, 8, 9, 10, 11, 12, 13, 14, 16] -/
theorem enter : En Try.prog 3 90 s rv := En.mk (c := Try.f3.body.getD .ret) Try.func3 rfl (by kernel_rfl) (by kernel_rfl) (by kernel_rfl) (by kernel_rfl)
end law14_GossipTells
/-! ### tranter.tranterlaw14.great -/
namespace law14_great
abbrev f : Nat := 4
def s : SCo := (.seq
(F [J 2 (.mv (B false))] 1)
(.seq
(F [J 3 (.mv (Z 0))] 1)
(.seq
(.seq
(F [J 4 (.mv (Z 0))] 1)
(.block 0
(.loop
(.seq
(.seq
(F [M 5 4,
 M 6 0,
 J 7 (.len (.t 6)),
 J 8 (.bin .lss (.t 5) (.t 7))] 4)
(.cond (.t 8)
.skip
(.exit 0)))
(.seq
(.block 1
(F [M 11 3,
 M 12 0,
 M 13 4,
 J 14 (.idxS 29 (.t 12) (.t 13)),
 J 15 (.fld 28 (.t 14)),
 J 16 (.load none (.t 15)),
 J 17 (.len (.t 16)),
 J 18 (.bin .add (.t 11) (.t 17)),
 M 3 18] 9))
(F [M 9 4,
 J 10 (.bin .add (.t 9) (Z 1)),
 M 4 10] 3))))))
(.seq
(F [M 19 0,
 J 20 (.len (.t 19)),
 J 21 (.bin .gtr (.t 20) (Z 120)),
 M 22 21,
 G 23 3 22 false,
 H 24 (.bin .gtr (.t 23) (Z 300)) 22 false,
 J 25 (.pick (.t 22) (B true) (.t 24)),
 M 2 25] 8)
.ret))))
def rv : List RV := [.tmp 2]
/-! live law14_great: [0, 2, 3, 4, 8] -/
theorem enter : En Try.prog 4 26 s rv := En.mk (c := Try.f4.body.getD .ret) Try.func4 rfl (by kernel_rfl) (by kernel_rfl) (by kernel_rfl) (by kernel_rfl)
end law14_great
/-! ### tranter.tranterlaw14.head -/
namespace law14_head
abbrev f : Nat := 5
def s : SCo := (.seq
(F [J 0 (.mv (B false))] 1)
(.seq
(F [J 8 (.call (C 14) []),
 M 1 8] 2)
(.seq
(F [M 10 1,
 J 11 (.bld z8 []),
 J 12 (.call (C 8) [(.k (b8 0)), (.k (b8 1)), (.t 10), (.t 11), (Z 2)]),
 M 9 12,
 J 13 (.ext 0 (.t 9)),
 J 14 (.ext 1 (.t 9)),
 J 2 (.alloc 31 [b8 0, b8 0, b8 0, b32 0, b32 0, b32 0, b32 0, b32 0, b32 0, b32 0, b32 0, (.d .nils)]),
 N (.store 12 (.t 2) (.t 13)),
 M 3 14] 9)
(.seq
(F [M 16 1,
 J 17 (.bld z8 []),
 J 18 (.call (C 8) [(.k (b8 0)), (.k (b8 0)), (.t 16), (.t 17), (Z 2)]),
 M 15 18,
 J 19 (.ext 0 (.t 15)),
 J 20 (.ext 1 (.t 15)),
 J 4 (.alloc 31 [b8 0, b8 0, b8 0, b32 0, b32 0, b32 0, b32 0, b32 0, b32 0, b32 0, b32 0, (.d .nils)]),
 N (.store 12 (.t 4) (.t 19)),
 M 5 20] 9)
(.seq
(F [M 22 1,
 J 23 (.bld z8 []),
 J 24 (.call (C 8) [(.k (b8 0)), (.k (b8 1)), (.t 22), (.t 23), (Z 65)]),
 M 21 24,
 J 25 (.ext 0 (.t 21)),
 J 26 (.ext 1 (.t 21)),
 J 6 (.alloc 31 [b8 0, b8 0, b8 0, b32 0, b32 0, b32 0, b32 0, b32 0, b32 0, b32 0, b32 0, (.d .nils)]),
 N (.store 12 (.t 6) (.t 25)),
 M 7 26] 9)
(.seq
(.reg (M 27 1 ::
 J 28 (.bld z8 [(0, 1, (.k (b32 1)))]) ::
 J 29 (.call (C 11) [(.t 27), (.t 28)]) ::
 M 30 1 ::
 J 31 (.idxS 29 (.t 30) (Z 2)) ::
 J 32 (.load (some 29) (.t 31)) ::
 M 33 1 ::
 J 34 (.idxS 29 (.t 33) (Z 0)) ::
 J 35 (.load (some 29) (.t 34)) ::
 J 36 (.bsl 48 29 2 [b8 0, b32 0, b32 0, b32 0, b32 0, b32 0, b32 0, b32 0, b32 0, b32 0, b64 0, b32 0, b8 0, b32 0, b8 0, b8 0, b32 0, b32 0, b8 0, b8 0, b64 0, b8 0, b32 0, b8 0, b32 0, b32 0, b32 0, b32 0, (.d .nils), b8 0, b32 0, b32 0, b32 0, b32 0, b32 0, b32 0, b32 0, b32 0, b32 0, b64 0, b32 0, b8 0, b32 0, b8 0, b8 0, b32 0, b32 0, b8 0, b8 0, b64 0, b8 0, b32 0, b8 0, b32 0, b32 0, b32 0, b32 0, (.d .nils)] [(0, 29, (.t 32)), (29, 29, (.t 35))]) ::
 J 37 (.call (C 10) [(.t 29), (.t 36)]) ::
 M 38 37 ::
 G 39 1 38 true ::
 H 40 (.bld z8 [(0, 1, (.k (b32 2))), (1, 1, (.k (b32 1)))]) 38 true ::
 H 41 (.call (C 11) [(.t 39), (.t 40)]) 38 true ::
 H 42 (.len (.t 41)) 38 true ::
 H 43 (.bin .eql (.t 42) (Z 0)) 38 true ::
 J 44 (.pick (.t 38) (.t 43) (B false)) ::
 M 45 44 ::
 G 46 3 45 true ::
 H 47 (.bin .eql (.t 46) (Z 0)) 45 true ::
 J 48 (.pick (.t 45) (.t 47) (B false)) ::
 M 49 48 ::
 H 50 (.load (some 12) (.t 2)) 49 true ::
 H 51 (.bld z8 [(0, 1, (.k (b32 2))), (1, 1, (.k (b32 1)))]) 49 true ::
 G 52 1 49 true ::
 H 53 (.slc 29 (.t 52) (some (Z 1)) none) 49 true ::
 H 54 (.bld [b8 0, b8 0, b8 0, b32 0, b32 0, b32 0, b32 0, b32 0, b32 0, b32 0, b32 0, (.d .nils)] [(0, 1, (.k (b8 1))), (2, 1, (.k (b8 1))), (3, 8, (.t 51)), (11, 1, (.t 53))]) 49 true ::
 H 55 (.call (C 13) [(.t 50), (.t 54)]) 49 true ::
 J 56 (.pick (.t 49) (.t 55) (B false)) ::
 M 57 56 ::
 G 58 5 57 true ::
 H 59 (.bin .eql (.t 58) (Z 2)) 57 true ::
 J 60 (.pick (.t 57) (.t 59) (B false)) ::
 M 61 60 ::
 G 62 7 61 true ::
 H 63 (.bin .eql (.t 62) (Z 2)) 61 true ::
 J 64 (.pick (.t 61) (.t 63) (B false)) ::
 M 65 64 ::
 H 66 (.call (C 15) [(Z 5), (Z 2)]) 65 true ::
 H 67 (.bin .eql (.t 66) (Z 3)) 65 true ::
 J 68 (.pick (.t 65) (.t 67) (B false)) ::
 M 69 68 ::
 H 70 (.call (C 15) [(Z 4), (Z 2)]) 69 true ::
 H 71 (.bin .eql (.t 70) (Z 2)) 69 true ::
 J 72 (.pick (.t 69) (.t 71) (B false)) ::
 M 73 72 ::
 H 74 (.call (C 15) [(.k (.d (.int .i64 (-1)))), (Z 2)]) 73 true ::
 H 75 (.bin .eql (.t 74) (Z 0)) 73 true ::
 J 76 (.pick (.t 73) (.t 75) (B false)) ::
 M 77 76 ::
 H 78 (.call (C 15) [(Z 3), (Z 0)]) 77 true ::
 H 79 (.bin .eql (.t 78) (Z 3)) 77 true ::
 J 80 (.pick (.t 77) (.t 79) (B false)) ::
 M 0 80 :: []) (0 ::
0 ::
3 ::
0 ::
8 ::
24 ::
0 ::
64 ::
192 ::
504 ::
1023 ::
2047 ::
4095 ::
4095 ::
16383 ::
32767 ::
65535 ::
131071 ::
262143 ::
524287 ::
1048575 ::
2097151 ::
4194303 ::
8388607 ::
8388607 ::
8388607 ::
41943039 ::
125829119 ::
268435455 ::
536870911 ::
1073741823 ::
2147483647 ::
4294967295 ::
8589934591 ::
17179869183 ::
34359738367 ::
68719476735 ::
137438953471 ::
274877906943 ::
549755813887 ::
1099511627775 ::
2199023255551 ::
4398046511103 ::
8796093022207 ::
17592186044415 ::
35184372088831 ::
70368744177663 ::
140737488355327 ::
281474976710655 ::
562949953421311 ::
1125899906842623 ::
2251799813685247 ::
4503599627370495 ::
9007199254740991 ::
18014398509481983 :: []) true)
.ret))))))
def rv : List RV := [.tmp 0]
/-! live law14_head: [0, 1, 2, 3, 5, 7] -/
theorem enter : En Try.prog 5 81 s rv := En.mk (c := Try.f5.body.getD .ret) Try.func5 rfl (by kernel_rfl) (by kernel_rfl) (by kernel_rfl) (by kernel_rfl)
end law14_head
/-! ### tranter.gossip.Digest -/
namespace gossip_Digest
abbrev f : Nat := 6
def s : SCo := (.seq
(F [J 5 (.box 25 (.t 2)),
 J 6 (.alloc 31 [b8 0, b8 0, b8 0, b32 0, b32 0, b32 0, b32 0, b32 0, b32 0, b32 0, b32 0, (.d .nils)]),
 J 7 (.mv (Z 0))] 3)
(.seq
(F [M 8 0,
 M 9 1,
 J 10 (.load (some 8) (.t 5)),
 J 11 (.bld [b8 0, b8 0, b8 0, b32 0, b32 0, b32 0, b32 0, b32 0, b32 0, b32 0, b32 0, (.d .nils)] [(0, 1, (.k (b8 0))), (1, 1, (.t 8)), (2, 1, (.t 9)), (3, 8, (.t 10))]),
 J 12 (.call (C 16) [(.t 11), (Z 2)]),
 J 13 (.ext 0 (.t 12)),
 J 14 (.ext 1 (.t 12)),
 N (.store 12 (.t 6) (.t 13)),
 M 7 14] 9)
.ret))
def rv : List RV := [.cell 6 (some 12), .tmp 7]
/-! live gossip_Digest: [0, 1, 2, 5, 6, 7] -/
theorem enter : En Try.prog 6 15 s rv := En.mk (c := Try.f6.body.getD .ret) Try.func6 rfl (by kernel_rfl) (by kernel_rfl) (by kernel_rfl) (by kernel_rfl)
end gossip_Digest
/-! ### tranter.tranterref14.Digest -/
namespace ref14_Digest
abbrev f : Nat := 7
def s : SCo := (.seq
(F [J 5 (.box 25 (.t 2)),
 J 6 (.alloc 31 [b8 0, b8 0, b8 0, b32 0, b32 0, b32 0, b32 0, b32 0, b32 0, b32 0, b32 0, (.d .nils)]),
 J 7 (.mv (Z 0))] 3)
(.seq
(F [M 9 0,
 M 10 1,
 J 11 (.load (some 8) (.t 5)),
 J 12 (.bld [b8 0, b8 0, b8 0, b32 0, b32 0, b32 0, b32 0, b32 0, b32 0, b32 0, b32 0, (.d .nils)] [(1, 1, (.t 9)), (2, 1, (.t 10)), (3, 8, (.t 11))]),
 J 8 (.alloc 31 [b8 0, b8 0, b8 0, b32 0, b32 0, b32 0, b32 0, b32 0, b32 0, b32 0, b32 0, (.d .nils)]),
 N (.store 12 (.t 8) (.t 12))] 6)
(.seq
(.seq
(F [J 13 (.load (some 12) (.t 8)),
 J 14 (.call (C 17) [(.t 13)]),
 J 15 (.not (.t 14))] 3)
(.cond (.t 15)
(.seq
(F [J 16 (.bld [b8 0, b8 0, b8 0, b32 0, b32 0, b32 0, b32 0, b32 0, b32 0, b32 0, b32 0, (.d .nils)] []),
 N (.store 12 (.t 6) (.t 16)),
 J 7 (.mv (Z 2))] 3)
.ret)
.skip))
(.seq
(F [J 17 (.load (some 12) (.t 8)),
 N (.store 12 (.t 6) (.t 17)),
 J 7 (.mv (Z 0))] 3)
.ret))))
def rv : List RV := [.cell 6 (some 12), .tmp 7]
/-! live ref14_Digest: [0, 1, 2, 5, 6, 7, 8, 15] -/
theorem enter : En Try.prog 7 18 s rv := En.mk (c := Try.f7.body.getD .ret) Try.func7 rfl (by kernel_rfl) (by kernel_rfl) (by kernel_rfl) (by kernel_rfl)
end ref14_Digest
/-! ### tranter.gossip.Delta -/
namespace gossip_Delta
abbrev f : Nat := 8
def s : SCo := (.seq
(F [J 8 (.box 25 (.t 3)),
 J 9 (.box 3 (.t 4)),
 J 10 (.alloc 31 [b8 0, b8 0, b8 0, b32 0, b32 0, b32 0, b32 0, b32 0, b32 0, b32 0, b32 0, (.d .nils)]),
 J 11 (.mv (Z 0))] 4)
(.seq
(F [M 16 0,
 M 17 1,
 M 18 2,
 J 19 (.call (C 18) [(.t 18)]),
 J 20 (.bld [b8 0, b8 0, b8 0, b32 0, b32 0, b32 0, b32 0, b32 0, b32 0, b32 0, b32 0, (.d .nils)] [(0, 1, (.k (b8 1))), (1, 1, (.t 16)), (2, 1, (.t 17)), (3, 8, (.t 19))]),
 J 21 (.call (C 16) [(.t 20), (Z 2)]),
 M 15 21,
 J 22 (.ext 0 (.t 15)),
 J 23 (.ext 1 (.t 15)),
 J 12 (.alloc 31 [b8 0, b8 0, b8 0, b32 0, b32 0, b32 0, b32 0, b32 0, b32 0, b32 0, b32 0, (.d .nils)]),
 N (.store 12 (.t 12) (.t 22)),
 M 13 23] 12)
(.seq
(.block 0
(.seq
(F [M 25 13,
 J 26 (.bin .neq (.t 25) (Z 0)),
 M 24 26] 3)
(.cond (.t 24)
(.seq
(F [J 27 (.load (some 12) (.t 12)),
 M 28 13,
 N (.store 12 (.t 10) (.t 27)),
 M 11 28] 4)
.ret)
(.seq
(F [J 30 (.load none (.t 9)),
 J 31 (.bin .lss (.t 30) (Z 1)),
 M 32 31,
 H 33 (.load none (.t 9)) 32 false,
 H 34 (.bin .gtr (.t 33) (Z 64)) 32 false,
 J 35 (.pick (.t 32) (B true) (.t 34)),
 M 29 35] 7)
(.cond (.t 29)
(.seq
(F [J 36 (.bld [b8 0, b8 0, b8 0, b32 0, b32 0, b32 0, b32 0, b32 0, b32 0, b32 0, b32 0, (.d .nils)] []),
 N (.store 12 (.t 10) (.t 36)),
 J 11 (.mv (Z 2))] 3)
.ret)
.skip)))))
(.seq
(.seq
(F [M 37 2,
 J 38 (.load (some 8) (.t 8)),
 J 39 (.call (C 19) [(.t 37), (.t 38)])] 3)
(.block 1
(.rfun (.t 39) [40]
(F [J 14 (.alloc 48 z29),
 N (.store 29 (.t 14) (.t 40))] 2)
(.block 2
(.seq
(.seq
(F [J 41 (.fld 11 (.t 12)),
 J 42 (.load none (.t 41)),
 J 43 (.len (.t 42)),
 J 44 (.load none (.t 9)),
 J 45 (.bin .eql (.t 43) (.t 44))] 5)
(.cond (.t 45)
(.exit 1)
.skip))
(F [J 46 (.fld 11 (.t 12)),
 J 47 (.load none (.t 46)),
 J 48 (.load (some 29) (.t 14)),
 J 49 (.bsl 48 29 1 z29 [(0, 29, (.t 48))]),
 J 50 (.app 48 29 144 (.t 47) (.t 49)),
 J 51 (.fld 11 (.t 12)),
 N (.store 1 (.t 51) (.t 50))] 7))))))
(.seq
(F [J 52 (.load (some 12) (.t 12)),
 J 53 (.call (C 16) [(.t 52), (Z 3)]),
 J 54 (.ext 0 (.t 53)),
 J 55 (.ext 1 (.t 53)),
 N (.store 12 (.t 10) (.t 54)),
 M 11 55] 6)
.ret)))))
def rv : List RV := [.cell 10 (some 12), .tmp 11]
/-! live gossip_Delta: [0, 1, 2, 3, 4, 8, 9, 10, 11, 12, 13, 14, 24, 29, 39, 40, 45] -/
theorem enter : En Try.prog 8 56 s rv := En.mk (c := Try.f8.body.getD .ret) Try.func8 rfl (by kernel_rfl) (by kernel_rfl) (by kernel_rfl) (by kernel_rfl)
end gossip_Delta
/-! ### tranter.tranterref14.Delta -/
namespace ref14_Delta
abbrev f : Nat := 9
def s : SCo := (.seq
(F [J 8 (.box 25 (.t 3)),
 J 10 (.alloc 31 [b8 0, b8 0, b8 0, b32 0, b32 0, b32 0, b32 0, b32 0, b32 0, b32 0, b32 0, (.d .nils)]),
 J 11 (.mv (Z 0))] 3)
(.seq
(F [M 14 0,
 M 15 1,
 M 16 2,
 J 17 (.call (C 20) [(.t 16)]),
 J 18 (.bld [b8 0, b8 0, b8 0, b32 0, b32 0, b32 0, b32 0, b32 0, b32 0, b32 0, b32 0, (.d .nils)] [(0, 1, (.k (b8 1))), (1, 1, (.t 14)), (2, 1, (.t 15)), (3, 8, (.t 17))]),
 J 12 (.alloc 31 [b8 0, b8 0, b8 0, b32 0, b32 0, b32 0, b32 0, b32 0, b32 0, b32 0, b32 0, (.d .nils)]),
 N (.store 12 (.t 12) (.t 18))] 7)
(.seq
(.seq
(F [J 19 (.load (some 12) (.t 12)),
 J 20 (.call (C 17) [(.t 19)]),
 J 21 (.not (.t 20)),
 M 22 21,
 G 23 4 22 false,
 H 24 (.bin .lss (.t 23) (Z 1)) 22 false,
 J 25 (.pick (.t 22) (B true) (.t 24)),
 M 26 25,
 G 27 4 26 false,
 H 28 (.bin .gtr (.t 27) (Z 64)) 26 false,
 J 29 (.pick (.t 26) (B true) (.t 28))] 11)
(.cond (.t 29)
(.seq
(F [J 30 (.bld [b8 0, b8 0, b8 0, b32 0, b32 0, b32 0, b32 0, b32 0, b32 0, b32 0, b32 0, (.d .nils)] []),
 N (.store 12 (.t 10) (.t 30)),
 J 11 (.mv (Z 2))] 3)
.ret)
.skip))
(.seq
(F [M 31 2,
 J 32 (.load (some 8) (.t 8)),
 J 33 (.call (C 12) [(.t 31), (.t 32)]),
 M 13 33] 4)
(.seq
(F [M 34 13,
 M 35 13,
 J 36 (.len (.t 35)),
 M 37 4,
 J 38 (.mn (.t 36) (.t 37)),
 J 39 (.slc 29 (.t 34) none (some (.t 38))),
 J 40 (.fld 11 (.t 12)),
 N (.store 1 (.t 40) (.t 39))] 8)
(.seq
(.seq
(F [J 41 (.load (some 12) (.t 12)),
 J 42 (.call (C 17) [(.t 41)]),
 J 43 (.not (.t 42))] 3)
(.cond (.t 43)
(.seq
(F [J 44 (.bld [b8 0, b8 0, b8 0, b32 0, b32 0, b32 0, b32 0, b32 0, b32 0, b32 0, b32 0, (.d .nils)] []),
 N (.store 12 (.t 10) (.t 44)),
 J 11 (.mv (Z 3))] 3)
.ret)
.skip))
(.seq
(F [J 45 (.load (some 12) (.t 12)),
 N (.store 12 (.t 10) (.t 45)),
 J 11 (.mv (Z 0))] 3)
.ret)))))))
def rv : List RV := [.cell 10 (some 12), .tmp 11]
/-! live ref14_Delta: [0, 1, 2, 3, 4, 8, 10, 11, 12, 13, 29, 43] -/
theorem enter : En Try.prog 9 46 s rv := En.mk (c := Try.f9.body.getD .ret) Try.func9 rfl (by kernel_rfl) (by kernel_rfl) (by kernel_rfl) (by kernel_rfl)
end ref14_Delta
/-! ### tranter.tranterref05.SameAll -/
namespace ref05_SameAll
abbrev f : Nat := 10
def s : SCo := (.seq
(F [J 4 (.mv (B false))] 1)
(.seq
(.seq
(F [M 6 0,
 J 7 (.len (.t 6)),
 M 8 1,
 J 9 (.len (.t 8)),
 J 10 (.bin .neq (.t 7) (.t 9))] 5)
(.cond (.t 10)
(.seq
(F [J 4 (.mv (B false))] 1)
.ret)
.skip))
(.seq
(.seq
(F [J 5 (.mv (Z 0))] 1)
(.block 0
(.loop
(.seq
(.seq
(F [M 11 5,
 M 12 0,
 J 13 (.len (.t 12)),
 J 14 (.bin .lss (.t 11) (.t 13))] 4)
(.cond (.t 14)
.skip
(.exit 0)))
(.seq
(.block 1
(.seq
(.reg [M 17 0,
 M 18 5,
 J 19 (.idxS 29 (.t 17) (.t 18)),
 J 20 (.load (some 29) (.t 19)),
 M 21 1,
 M 22 5,
 J 23 (.idxS 29 (.t 21) (.t 22)),
 J 24 (.load (some 29) (.t 23)),
 J 25 (.call (C 21) [(.t 20), (.t 24)]),
 J 26 (.not (.t 25))] [0,
0,
3,
7,
0,
0,
48,
112,
255,
511] true)
(.cond (.t 26)
(.seq
(F [J 4 (.mv (B false))] 1)
.ret)
.skip)))
(F [M 15 5,
 J 16 (.bin .add (.t 15) (Z 1)),
 M 5 16] 3))))))
(.seq
(F [J 4 (.mv (B true))] 1)
.ret))))
def rv : List RV := [.tmp 4]
/-! live ref05_SameAll: [0, 1, 4, 5, 10, 14, 26] -/
theorem enter : En Try.prog 10 27 s rv := En.mk (c := Try.f10.body.getD .ret) Try.func10 rfl (by kernel_rfl) (by kernel_rfl) (by kernel_rfl) (by kernel_rfl)
end ref05_SameAll
/-! ### tranter.gossip.Lacks -/
namespace gossip_Lacks
abbrev f : Nat := 11
def s : SCo := (.seq
(F [J 3 (.box 25 (.t 1)),
 J 4 (.mv (.k (.d .nils)))] 2)
(.seq
(F [M 5 0,
 J 6 (.load (some 8) (.t 3)),
 J 7 (.call (C 19) [(.t 5), (.t 6)]),
 J 8 (.call (C 22) [(.t 7)]),
 M 4 8] 5)
.ret))
def rv : List RV := [.tmp 4]
/-! live gossip_Lacks: [0, 1, 3, 4] -/
theorem enter : En Try.prog 11 9 s rv := En.mk (c := Try.f11.body.getD .ret) Try.func11 rfl (by kernel_rfl) (by kernel_rfl) (by kernel_rfl) (by kernel_rfl)
end gossip_Lacks
/-! ### tranter.tranterref14.Lacks -/
namespace ref14_Lacks
abbrev f : Nat := 12
def s : SCo := (.seq
(F [J 3 (.box 25 (.t 1)),
 J 4 (.mv (.k (.d .nils)))] 2)
(.seq
(F [J 5 (.mv (.k (.d .nils)))] 1)
(.seq
(.seq
(F [J 6 (.mv (Z 0))] 1)
(.block 0
(.loop
(.seq
(.seq
(F [M 7 6,
 M 8 0,
 J 9 (.len (.t 8)),
 J 10 (.bin .lss (.t 7) (.t 9))] 4)
(.cond (.t 10)
.skip
(.exit 0)))
(.seq
(.block 1
(.seq
(.reg (J 13 (.load (some 8) (.t 3)) ::
 M 14 0 ::
 M 15 6 ::
 J 16 (.idxS 29 (.t 14) (.t 15)) ::
 J 17 (.fld 0 (.t 16)) ::
 J 18 (.load (some 2) (.t 17)) ::
 J 19 (.call (C 23) [(.t 13), (.t 18)]) ::
 J 20 (.not (.t 19)) ::
 M 21 20 ::
 G 22 0 21 true ::
 G 23 6 21 true ::
 H 24 (.slc 29 (.t 22) none (some (.t 23))) 21 true ::
 G 25 0 21 true ::
 G 26 6 21 true ::
 H 27 (.idxS 29 (.t 25) (.t 26)) 21 true ::
 H 28 (.fld 0 (.t 27)) 21 true ::
 H 29 (.load (some 2) (.t 28)) 21 true ::
 H 30 (.call (C 24) [(.t 24), (.t 29)]) 21 true ::
 H 31 (.not (.t 30)) 21 true ::
 J 32 (.pick (.t 21) (.t 31) (B false)) :: []) (0 ::
0 ::
0 ::
6 ::
14 ::
30 ::
63 ::
127 ::
255 ::
511 ::
511 ::
2047 ::
511 ::
511 ::
12799 ::
29183 ::
61951 ::
131071 ::
262143 ::
524287 :: []) true)
(.cond (.t 32)
(F [M 33 5,
 M 34 0,
 M 35 6,
 J 36 (.idxS 29 (.t 34) (.t 35)),
 J 37 (.load (some 29) (.t 36)),
 J 38 (.bsl 48 29 1 z29 [(0, 29, (.t 37))]),
 J 39 (.app 48 29 144 (.t 33) (.t 38)),
 M 5 39] 8)
.skip)))
(F [M 11 6,
 J 12 (.bin .add (.t 11) (Z 1)),
 M 6 12] 3))))))
(.seq
(F [M 40 5,
 J 41 (.call (C 25) [(.t 40)]),
 M 4 41] 3)
.ret))))
def rv : List RV := [.tmp 4]
/-! live ref14_Lacks: [0, 1, 3, 4, 5, 6, 10, 32] -/
theorem enter : En Try.prog 12 42 s rv := En.mk (c := Try.f12.body.getD .ret) Try.func12 rfl (by kernel_rfl) (by kernel_rfl) (by kernel_rfl) (by kernel_rfl)
end ref14_Lacks
/-! ### tranter.tranterref06.Same -/
namespace ref06_Same
abbrev f : Nat := 13
def s : SCo := (.seq
(F [J 2 (.box 31 (.t 0)),
 J 3 (.box 31 (.t 1)),
 J 4 (.mv (B false))] 3)
(.seq
(F (J 5 (.fld 0 (.t 2)) ::
 J 6 (.load none (.t 5)) ::
 J 7 (.fld 0 (.t 3)) ::
 J 8 (.load none (.t 7)) ::
 J 9 (.bin .eql (.t 6) (.t 8)) ::
 M 10 9 ::
 H 11 (.fld 1 (.t 2)) 10 true ::
 H 12 (.load none (.t 11)) 10 true ::
 H 13 (.fld 1 (.t 3)) 10 true ::
 H 14 (.load none (.t 13)) 10 true ::
 H 15 (.bin .eql (.t 12) (.t 14)) 10 true ::
 J 16 (.pick (.t 10) (.t 15) (B false)) ::
 M 17 16 ::
 H 18 (.fld 2 (.t 2)) 17 true ::
 H 19 (.load none (.t 18)) 17 true ::
 H 20 (.fld 2 (.t 3)) 17 true ::
 H 21 (.load none (.t 20)) 17 true ::
 H 22 (.bin .eql (.t 19) (.t 21)) 17 true ::
 J 23 (.pick (.t 17) (.t 22) (B false)) ::
 M 24 23 ::
 H 25 (.fld 3 (.t 2)) 24 true ::
 H 26 (.load (some 8) (.t 25)) 24 true ::
 H 27 (.fld 3 (.t 3)) 24 true ::
 H 28 (.load (some 8) (.t 27)) 24 true ::
 H 29 (.eqv false [true, true, true, true, true, true, true, true] (.t 26) (.t 28)) 24 true ::
 J 30 (.pick (.t 24) (.t 29) (B false)) ::
 M 31 30 ::
 H 32 (.fld 11 (.t 2)) 31 true ::
 H 33 (.load none (.t 32)) 31 true ::
 H 34 (.fld 11 (.t 3)) 31 true ::
 H 35 (.load none (.t 34)) 31 true ::
 H 36 (.call (C 10) [(.t 33), (.t 35)]) 31 true ::
 J 37 (.pick (.t 31) (.t 36) (B false)) ::
 M 4 37 :: []) 34)
.ret))
def rv : List RV := [.tmp 4]
/-! live ref06_Same: [0, 1, 2, 3, 4] -/
theorem enter : En Try.prog 13 38 s rv := En.mk (c := Try.f13.body.getD .ret) Try.func13 rfl (by kernel_rfl) (by kernel_rfl) (by kernel_rfl) (by kernel_rfl)
end ref06_Same
/-! ### tranter.tranterlaw14.three -/
namespace law14_three
abbrev f : Nat := 14
def s : SCo := (.seq
(F [J 0 (.mv (.k (.d .nils)))] 1)
(.seq
(F [J 4 (.bld [b8 0, b32 0] [(1, 1, (.k (b32 1)))]),
 J 5 (.bld [b8 0, b32 0] [(1, 1, (.k (b32 1)))]),
 J 6 (.bld z29 [(0, 2, (.t 4)), (10, 1, (.k (b64 1))), (11, 1, (.k (b32 1))), (12, 2, (.t 5))]),
 J 1 (.alloc 48 z29),
 N (.store 29 (.t 1) (.t 6))] 5)
(.seq
(F [J 7 (.bld [b8 0, b32 0] [(0, 1, (.k (b8 1))), (1, 1, (.k (b32 1)))]),
 J 8 (.bld z8 [(0, 1, (.k (b32 1)))]),
 J 9 (.bld [b8 0, b32 0] [(0, 1, (.k (b8 1))), (1, 1, (.k (b32 1)))]),
 J 10 (.bld z29 [(0, 2, (.t 7)), (2, 8, (.t 8)), (10, 1, (.k (b64 2))), (11, 1, (.k (b32 1))), (12, 2, (.t 9))]),
 J 2 (.alloc 48 z29),
 N (.store 29 (.t 2) (.t 10))] 6)
(.seq
(F [J 11 (.bld [b8 0, b32 0] [(1, 1, (.k (b32 2)))]),
 J 12 (.bld z8 [(0, 1, (.k (b32 1))), (1, 1, (.k (b32 1)))]),
 J 13 (.bld [b8 0, b32 0] [(1, 1, (.k (b32 2)))]),
 J 14 (.bld z29 [(0, 2, (.t 11)), (2, 8, (.t 12)), (10, 1, (.k (b64 3))), (11, 1, (.k (b32 1))), (12, 2, (.t 13))]),
 J 3 (.alloc 48 z29),
 N (.store 29 (.t 3) (.t 14))] 6)
(.seq
(F [J 15 (.load (some 29) (.t 3)),
 J 16 (.load (some 29) (.t 1)),
 J 17 (.load (some 29) (.t 2)),
 J 18 (.bsl 48 29 3 [b8 0, b32 0, b32 0, b32 0, b32 0, b32 0, b32 0, b32 0, b32 0, b32 0, b64 0, b32 0, b8 0, b32 0, b8 0, b8 0, b32 0, b32 0, b8 0, b8 0, b64 0, b8 0, b32 0, b8 0, b32 0, b32 0, b32 0, b32 0, (.d .nils), b8 0, b32 0, b32 0, b32 0, b32 0, b32 0, b32 0, b32 0, b32 0, b32 0, b64 0, b32 0, b8 0, b32 0, b8 0, b8 0, b32 0, b32 0, b8 0, b8 0, b64 0, b8 0, b32 0, b8 0, b32 0, b32 0, b32 0, b32 0, (.d .nils), b8 0, b32 0, b32 0, b32 0, b32 0, b32 0, b32 0, b32 0, b32 0, b32 0, b64 0, b32 0, b8 0, b32 0, b8 0, b8 0, b32 0, b32 0, b8 0, b8 0, b64 0, b8 0, b32 0, b8 0, b32 0, b32 0, b32 0, b32 0, (.d .nils)] [(0, 29, (.t 15)), (29, 29, (.t 16)), (58, 29, (.t 17))]),
 M 0 18] 5)
.ret)))))
def rv : List RV := [.tmp 0]
/-! live law14_three: [0, 1, 2, 3] -/
theorem enter : En Try.prog 14 19 s rv := En.mk (c := Try.f14.body.getD .ret) Try.func14 rfl (by kernel_rfl) (by kernel_rfl) (by kernel_rfl) (by kernel_rfl)
end law14_three
/-! ### tranter.gossip.Rounds -/
namespace gossip_Rounds
abbrev f : Nat := 15
def s : SCo := (.seq
(F [J 4 (.mv (Z 0))] 1)
(.seq
(.block 0
(.seq
(F [M 6 0,
 J 7 (.bin .leq (.t 6) (Z 0)),
 M 5 7] 3)
(.cond (.t 5)
(.seq
(F [J 4 (.mv (Z 0))] 1)
.ret)
(.seq
(F [M 9 1,
 J 10 (.bin .leq (.t 9) (Z 0)),
 M 8 10] 3)
(.cond (.t 8)
(.seq
(F [M 11 0,
 M 4 11] 2)
.ret)
.skip)))))
(.seq
(F [M 12 0,
 J 13 (.bin .sub (.t 12) (Z 1)),
 M 14 1,
 J 15 (.bin .quo (.t 13) (.t 14)),
 J 16 (.bin .add (.t 15) (Z 1)),
 M 4 16] 6)
.ret)))
def rv : List RV := [.tmp 4]
/-! live gossip_Rounds: [0, 1, 4, 5, 8] -/
theorem enter : En Try.prog 15 17 s rv := En.mk (c := Try.f15.body.getD .ret) Try.func15 rfl (by kernel_rfl) (by kernel_rfl) (by kernel_rfl) (by kernel_rfl)
end gossip_Rounds
/-! ### tranter.gossip.may -/
namespace gossip_may
abbrev f : Nat := 16
def s : SCo := (.seq
(F [J 2 (.box 31 (.t 0)),
 J 4 (.alloc 31 [b8 0, b8 0, b8 0, b32 0, b32 0, b32 0, b32 0, b32 0, b32 0, b32 0, b32 0, (.d .nils)]),
 J 5 (.mv (Z 0))] 3)
(.seq
(.seq
(F [J 6 (.load (some 12) (.t 2)),
 J 7 (.call (C 26) [(.t 6)]),
 J 8 (.not (.t 7))] 3)
(.cond (.t 8)
(.seq
(F [J 9 (.bld [b8 0, b8 0, b8 0, b32 0, b32 0, b32 0, b32 0, b32 0, b32 0, b32 0, b32 0, (.d .nils)] []),
 M 10 1,
 N (.store 12 (.t 4) (.t 9)),
 M 5 10] 4)
.ret)
.skip))
(.seq
(F [J 11 (.load (some 12) (.t 2)),
 N (.store 12 (.t 4) (.t 11)),
 J 5 (.mv (Z 0))] 3)
.ret)))
def rv : List RV := [.cell 4 (some 12), .tmp 5]
/-! live gossip_may: [0, 1, 2, 4, 5, 8] -/
theorem enter : En Try.prog 16 12 s rv := En.mk (c := Try.f16.body.getD .ret) Try.func16 rfl (by kernel_rfl) (by kernel_rfl) (by kernel_rfl) (by kernel_rfl)
end gossip_may
/-! ### tranter.tranterref06.May -/
namespace ref06_May
abbrev f : Nat := 17
def s : SCo := (.seq
(F [J 1 (.box 31 (.t 0)),
 J 2 (.mv (B false))] 2)
(.seq
(.seq
(F (J 4 (.fld 0 (.t 1)) ::
 J 5 (.load none (.t 4)) ::
 J 6 (.bin .gtr (.t 5) (.k (b8 1))) ::
 M 7 6 ::
 H 8 (.fld 1 (.t 1)) 7 false ::
 H 9 (.load none (.t 8)) 7 false ::
 H 10 (.bin .gtr (.t 9) (.k (b8 7))) 7 false ::
 J 11 (.pick (.t 7) (B true) (.t 10)) ::
 M 12 11 ::
 H 13 (.fld 2 (.t 1)) 12 false ::
 H 14 (.load none (.t 13)) 12 false ::
 H 15 (.bin .gtr (.t 14) (.k (b8 7))) 12 false ::
 J 16 (.pick (.t 12) (B true) (.t 15)) ::
 M 17 16 ::
 H 18 (.fld 1 (.t 1)) 17 false ::
 H 19 (.load none (.t 18)) 17 false ::
 H 20 (.fld 2 (.t 1)) 17 false ::
 H 21 (.load none (.t 20)) 17 false ::
 H 22 (.bin .eql (.t 19) (.t 21)) 17 false ::
 J 23 (.pick (.t 17) (B true) (.t 22)) ::
 M 24 23 ::
 H 25 (.fld 0 (.t 1)) 24 false ::
 H 26 (.load none (.t 25)) 24 false ::
 H 27 (.bin .eql (.t 26) (.k (b8 0))) 24 false ::
 G 28 27 24 false ::
 H 29 (.fld 11 (.t 1)) 28 true ::
 H 30 (.load none (.t 29)) 28 true ::
 H 31 (.len (.t 30)) 28 true ::
 H 32 (.bin .gtr (.t 31) (Z 0)) 28 true ::
 H 33 (.pick (.t 28) (.t 32) (B false)) 24 false ::
 J 34 (.pick (.t 24) (B true) (.t 33)) ::
 M 35 34 ::
 H 36 (.fld 11 (.t 1)) 35 false ::
 H 37 (.load none (.t 36)) 35 false ::
 H 38 (.len (.t 37)) 35 false ::
 H 39 (.bin .gtr (.t 38) (Z 64)) 35 false ::
 J 40 (.pick (.t 35) (B true) (.t 39)) :: []) 37)
(.cond (.t 40)
(.seq
(F [J 2 (.mv (B false))] 1)
.ret)
.skip))
(.seq
(.seq
(F [J 3 (.mv (Z 0))] 1)
(.block 0
(.loop
(.seq
(.seq
(F [M 41 3,
 J 42 (.fld 11 (.t 1)),
 J 43 (.load none (.t 42)),
 J 44 (.len (.t 43)),
 J 45 (.bin .lss (.t 41) (.t 44))] 5)
(.cond (.t 45)
.skip
(.exit 0)))
(.seq
(.block 1
(.seq
(F [J 48 (.fld 11 (.t 1)),
 J 49 (.load none (.t 48)),
 M 50 3,
 J 51 (.idxS 29 (.t 49) (.t 50)),
 J 52 (.fld 28 (.t 51)),
 J 53 (.load none (.t 52)),
 J 54 (.len (.t 53)),
 J 55 (.bin .gtr (.t 54) (Z 16))] 8)
(.cond (.t 55)
(.seq
(F [J 2 (.mv (B false))] 1)
.ret)
.skip)))
(F [M 46 3,
 J 47 (.bin .add (.t 46) (Z 1)),
 M 3 47] 3))))))
(.seq
(F [J 2 (.mv (B true))] 1)
.ret))))
def rv : List RV := [.tmp 2]
/-! live ref06_May: [0, 1, 2, 3, 40, 45, 55] -/
theorem enter : En Try.prog 17 56 s rv := En.mk (c := Try.f17.body.getD .ret) Try.func17 rfl (by kernel_rfl) (by kernel_rfl) (by kernel_rfl) (by kernel_rfl)
end ref06_May
/-! ### tranter.order.Known -/
namespace order_Known
abbrev f : Nat := 18
def s : SCo := (.seq
(F [J 2 (.alloc 25 z8)] 1)
(.seq
(F [J 3 (.alloc 25 z8)] 1)
(.seq
(.seq
(F [M 6 0,
 J 7 (.len (.t 6)),
 J 8 (.mv (Z 0))] 3)
(.block 0
(.loop
(.seq
(F [J 9 (.bin .lss (.t 8) (.t 7))] 1)
(.seq
(.cond (.t 9)
.skip
(.exit 0))
(.seq
(.block 1
(.seq
(F [J 10 (.idxS 29 (.t 6) (.t 8)),
 J 11 (.load (some 29) (.t 10)),
 J 5 (.alloc 48 z29),
 N (.store 29 (.t 5) (.t 11))] 4)
(.seq
(F [J 12 (.fld 0 (.t 5)),
 J 13 (.fld 0 (.t 12)),
 J 14 (.load none (.t 13)),
 J 15 (.conv .i64 (.t 14)),
 J 16 (.bin .lss (.t 15) (Z 8))] 5)
(.cond (.t 16)
(.reg [J 17 (.fld 0 (.t 5)),
 J 18 (.fld 0 (.t 17)),
 J 19 (.load none (.t 18)),
 J 20 (.fld 0 (.t 5)),
 J 21 (.fld 0 (.t 20)),
 J 22 (.load none (.t 21)),
 J 23 (.idxA 8 1 (.t 3) (.t 22)),
 J 24 (.load none (.t 23)),
 J 25 (.fld 0 (.t 5)),
 J 26 (.fld 1 (.t 25)),
 J 27 (.load none (.t 26)),
 J 28 (.mx (.t 24) (.t 27)),
 J 29 (.idxA 8 1 (.t 3) (.t 19)),
 N (.store 1 (.t 29) (.t 28))] [0,
1,
3,
0,
8,
24,
56,
120,
0,
256,
768,
2040,
4095,
8191] true)
.skip))))
(F [J 30 (.bin .add (.t 8) (Z 1)),
 M 8 30] 2)))))))
(.seq
(F [J 31 (.load (some 8) (.t 3)),
 N (.store 8 (.t 2) (.t 31))] 2)
.ret))))
def rv : List RV := [.cell 2 (some 8)]
/-! live order_Known: [0, 2, 3, 5, 6, 7, 8, 9, 16] -/
theorem enter : En Try.prog 18 32 s rv := En.mk (c := Try.f18.body.getD .ret) Try.func18 rfl (by kernel_rfl) (by kernel_rfl) (by kernel_rfl) (by kernel_rfl)
end order_Known
/-! ### tranter.gossip.lacked -/
namespace gossip_lacked
abbrev f : Nat := 19
def s : SCo := (.seq
(F [J 2 (.box 22 (.t 0)),
 J 3 (.box 25 (.t 1)),
 J 4 (.mv (.k (.d .nilf)))] 3)
(.seq
(F [J 5 (.mkf (.func 27) [] [(.t 2), (.t 3)]),
 M 4 5] 2)
.ret))
def rv : List RV := [.tmp 4]
/-! live gossip_lacked: [0, 1, 2, 3, 4] -/
theorem enter : En Try.prog 19 6 s rv := En.mk (c := Try.f19.body.getD .ret) Try.func19 rfl (by kernel_rfl) (by kernel_rfl) (by kernel_rfl) (by kernel_rfl)
end gossip_lacked
/-! ### tranter.tranterref14.Known -/
namespace ref14_Known
abbrev f : Nat := 20
def s : SCo := (.seq
(F [J 2 (.alloc 25 z8)] 1)
(.seq
(F [J 3 (.alloc 25 z8)] 1)
(.seq
(.seq
(F [J 4 (.mv (Z 0))] 1)
(.block 0
(.loop
(.seq
(.seq
(F [M 6 4,
 M 7 0,
 J 8 (.len (.t 7)),
 J 9 (.bin .lss (.t 6) (.t 8))] 4)
(.cond (.t 9)
.skip
(.exit 0)))
(.seq
(.block 1
(.seq
(F [M 12 0,
 M 13 4,
 J 14 (.idxS 29 (.t 12) (.t 13)),
 J 15 (.fld 0 (.t 14)),
 J 16 (.load (some 2) (.t 15)),
 J 5 (.alloc 44 [b8 0, b32 0]),
 N (.store 2 (.t 5) (.t 16))] 7)
(.seq
(F [J 17 (.fld 0 (.t 5)),
 J 18 (.load none (.t 17)),
 J 19 (.bin .lss (.t 18) (.k (b8 8)))] 3)
(.cond (.t 19)
(.reg [J 20 (.fld 0 (.t 5)),
 J 21 (.load none (.t 20)),
 J 22 (.fld 0 (.t 5)),
 J 23 (.load none (.t 22)),
 J 24 (.idxA 8 1 (.t 3) (.t 23)),
 J 25 (.load none (.t 24)),
 J 26 (.fld 1 (.t 5)),
 J 27 (.load none (.t 26)),
 J 28 (.mx (.t 25) (.t 27)),
 J 29 (.idxA 8 1 (.t 3) (.t 21)),
 N (.store 1 (.t 29) (.t 28))] [0,
1,
0,
4,
12,
28,
0,
64,
252,
511,
1023] true)
.skip))))
(F [M 10 4,
 J 11 (.bin .add (.t 10) (Z 1)),
 M 4 11] 3))))))
(.seq
(F [J 30 (.load (some 8) (.t 3)),
 N (.store 8 (.t 2) (.t 30))] 2)
.ret))))
def rv : List RV := [.cell 2 (some 8)]
/-! live ref14_Known: [0, 2, 3, 4, 5, 9, 19] -/
theorem enter : En Try.prog 20 31 s rv := En.mk (c := Try.f20.body.getD .ret) Try.func20 rfl (by kernel_rfl) (by kernel_rfl) (by kernel_rfl) (by kernel_rfl)
end ref14_Known
/-! ### tranter.tranterref05.Same -/
namespace ref05_Same
abbrev f : Nat := 21
def s : SCo := (.seq
(F [J 2 (.box 48 (.t 0)),
 J 3 (.box 48 (.t 1)),
 J 4 (.mv (B false))] 3)
(.seq
(.seq
(F [J 6 (.fld 28 (.t 2)),
 J 7 (.load none (.t 6)),
 J 8 (.len (.t 7)),
 J 9 (.fld 28 (.t 3)),
 J 10 (.load none (.t 9)),
 J 11 (.len (.t 10)),
 J 12 (.bin .neq (.t 8) (.t 11))] 7)
(.cond (.t 12)
(.seq
(F [J 4 (.mv (B false))] 1)
.ret)
.skip))
(.seq
(.seq
(F [J 5 (.mv (Z 0))] 1)
(.block 0
(.loop
(.seq
(.seq
(F [M 13 5,
 J 14 (.fld 28 (.t 2)),
 J 15 (.load none (.t 14)),
 J 16 (.len (.t 15)),
 J 17 (.bin .lss (.t 13) (.t 16))] 5)
(.cond (.t 17)
.skip
(.exit 0)))
(.seq
(.block 1
(.seq
(.reg [J 20 (.fld 28 (.t 2)),
 J 21 (.load none (.t 20)),
 M 22 5,
 J 23 (.idxS 4 (.t 21) (.t 22)),
 J 24 (.load (some 4) (.t 23)),
 J 25 (.fld 28 (.t 3)),
 J 26 (.load none (.t 25)),
 M 27 5,
 J 28 (.idxS 4 (.t 26) (.t 27)),
 J 29 (.load (some 4) (.t 28)),
 J 30 (.eqv true [true, true, true, true] (.t 24) (.t 29))] [0,
1,
0,
7,
15,
0,
32,
0,
224,
480,
1023] true)
(.cond (.t 30)
(.seq
(F [J 4 (.mv (B false))] 1)
.ret)
.skip)))
(F [M 18 5,
 J 19 (.bin .add (.t 18) (Z 1)),
 M 5 19] 3))))))
(.seq
(F (J 31 (.fld 0 (.t 2)) ::
 J 32 (.load (some 2) (.t 31)) ::
 J 33 (.fld 0 (.t 3)) ::
 J 34 (.load (some 2) (.t 33)) ::
 J 35 (.eqv false [true, true] (.t 32) (.t 34)) ::
 M 36 35 ::
 H 37 (.fld 2 (.t 2)) 36 true ::
 H 38 (.load (some 8) (.t 37)) 36 true ::
 H 39 (.fld 2 (.t 3)) 36 true ::
 H 40 (.load (some 8) (.t 39)) 36 true ::
 H 41 (.eqv false [true, true, true, true, true, true, true, true] (.t 38) (.t 40)) 36 true ::
 J 42 (.pick (.t 36) (.t 41) (B false)) ::
 M 43 42 ::
 H 44 (.fld 10 (.t 2)) 43 true ::
 H 45 (.load none (.t 44)) 43 true ::
 H 46 (.fld 10 (.t 3)) 43 true ::
 H 47 (.load none (.t 46)) 43 true ::
 H 48 (.bin .eql (.t 45) (.t 47)) 43 true ::
 J 49 (.pick (.t 43) (.t 48) (B false)) ::
 M 50 49 ::
 H 51 (.fld 11 (.t 2)) 50 true ::
 H 52 (.load none (.t 51)) 50 true ::
 H 53 (.fld 11 (.t 3)) 50 true ::
 H 54 (.load none (.t 53)) 50 true ::
 H 55 (.bin .eql (.t 52) (.t 54)) 50 true ::
 J 56 (.pick (.t 50) (.t 55) (B false)) ::
 M 57 56 ::
 H 58 (.fld 12 (.t 2)) 57 true ::
 H 59 (.load (some 2) (.t 58)) 57 true ::
 H 60 (.fld 12 (.t 3)) 57 true ::
 H 61 (.load (some 2) (.t 60)) 57 true ::
 H 62 (.eqv false [true, true] (.t 59) (.t 61)) 57 true ::
 J 63 (.pick (.t 57) (.t 62) (B false)) ::
 M 64 63 ::
 H 65 (.fld 14 (.t 2)) 64 true ::
 H 66 (.load none (.t 65)) 64 true ::
 H 67 (.fld 14 (.t 3)) 64 true ::
 H 68 (.load none (.t 67)) 64 true ::
 H 69 (.bin .eql (.t 66) (.t 68)) 64 true ::
 J 70 (.pick (.t 64) (.t 69) (B false)) ::
 M 71 70 ::
 H 72 (.fld 15 (.t 2)) 71 true ::
 H 73 (.load (some 2) (.t 72)) 71 true ::
 H 74 (.fld 15 (.t 3)) 71 true ::
 H 75 (.load (some 2) (.t 74)) 71 true ::
 H 76 (.eqv false [true, true] (.t 73) (.t 75)) 71 true ::
 J 77 (.pick (.t 71) (.t 76) (B false)) ::
 M 78 77 ::
 H 79 (.fld 17 (.t 2)) 78 true ::
 H 80 (.load none (.t 79)) 78 true ::
 H 81 (.fld 17 (.t 3)) 78 true ::
 H 82 (.load none (.t 81)) 78 true ::
 H 83 (.bin .eql (.t 80) (.t 82)) 78 true ::
 J 84 (.pick (.t 78) (.t 83) (B false)) ::
 M 85 84 ::
 H 86 (.fld 18 (.t 2)) 85 true ::
 H 87 (.load none (.t 86)) 85 true ::
 H 88 (.fld 18 (.t 3)) 85 true ::
 H 89 (.load none (.t 88)) 85 true ::
 H 90 (.bin .eql (.t 87) (.t 89)) 85 true ::
 J 91 (.pick (.t 85) (.t 90) (B false)) ::
 M 92 91 ::
 H 93 (.fld 19 (.t 2)) 92 true ::
 H 94 (.load none (.t 93)) 92 true ::
 H 95 (.fld 19 (.t 3)) 92 true ::
 H 96 (.load none (.t 95)) 92 true ::
 H 97 (.bin .eql (.t 94) (.t 96)) 92 true ::
 J 98 (.pick (.t 92) (.t 97) (B false)) ::
 M 99 98 ::
 H 100 (.fld 20 (.t 2)) 99 true ::
 H 101 (.load none (.t 100)) 99 true ::
 H 102 (.fld 20 (.t 3)) 99 true ::
 H 103 (.load none (.t 102)) 99 true ::
 H 104 (.bin .eql (.t 101) (.t 103)) 99 true ::
 J 105 (.pick (.t 99) (.t 104) (B false)) ::
 M 106 105 ::
 H 107 (.fld 21 (.t 2)) 106 true ::
 H 108 (.load (some 2) (.t 107)) 106 true ::
 H 109 (.fld 21 (.t 3)) 106 true ::
 H 110 (.load (some 2) (.t 109)) 106 true ::
 H 111 (.eqv false [true, true] (.t 108) (.t 110)) 106 true ::
 J 112 (.pick (.t 106) (.t 111) (B false)) ::
 M 113 112 ::
 H 114 (.fld 23 (.t 2)) 113 true ::
 H 115 (.load (some 2) (.t 114)) 113 true ::
 H 116 (.fld 23 (.t 3)) 113 true ::
 H 117 (.load (some 2) (.t 116)) 113 true ::
 H 118 (.eqv false [true, true] (.t 115) (.t 117)) 113 true ::
 J 119 (.pick (.t 113) (.t 118) (B false)) ::
 M 120 119 ::
 H 121 (.fld 25 (.t 2)) 120 true ::
 H 122 (.load none (.t 121)) 120 true ::
 H 123 (.fld 25 (.t 3)) 120 true ::
 H 124 (.load none (.t 123)) 120 true ::
 H 125 (.bin .eql (.t 122) (.t 124)) 120 true ::
 J 126 (.pick (.t 120) (.t 125) (B false)) ::
 M 127 126 ::
 H 128 (.fld 26 (.t 2)) 127 true ::
 H 129 (.load none (.t 128)) 127 true ::
 H 130 (.fld 26 (.t 3)) 127 true ::
 H 131 (.load none (.t 130)) 127 true ::
 H 132 (.bin .eql (.t 129) (.t 131)) 127 true ::
 J 133 (.pick (.t 127) (.t 132) (B false)) ::
 M 134 133 ::
 H 135 (.fld 27 (.t 2)) 134 true ::
 H 136 (.load none (.t 135)) 134 true ::
 H 137 (.fld 27 (.t 3)) 134 true ::
 H 138 (.load none (.t 137)) 134 true ::
 H 139 (.bin .eql (.t 136) (.t 138)) 134 true ::
 J 140 (.pick (.t 134) (.t 139) (B false)) ::
 M 4 140 :: []) 111)
.ret))))
def rv : List RV := [.tmp 4]
/-! live ref05_Same: [0, 1, 2, 3, 4, 5, 12, 17, 30] -/
theorem enter : En Try.prog 21 141 s rv := En.mk (c := Try.f21.body.getD .ret) Try.func21 rfl (by kernel_rfl) (by kernel_rfl) (by kernel_rfl) (by kernel_rfl)
end ref05_Same
/-! ### slices.Collect[tranter.api.Op] -/
namespace slices_Collect_api_Op
abbrev f : Nat := 22
def s : SCo := (.seq
(F [J 2 (.mv (.k (.d .nils)))] 1)
(.seq
(F [M 3 0,
 J 4 (.call (C 32) [(.k (.d .nils)), (.t 3)]),
 M 2 4] 3)
.ret))
def rv : List RV := [.tmp 2]
/-! live slices_Collect_api_Op: [0, 2] -/
theorem enter : En Try.prog 22 5 s rv := En.mk (c := Try.f22.body.getD .ret) Try.func22 rfl (by kernel_rfl) (by kernel_rfl) (by kernel_rfl) (by kernel_rfl)
end slices_Collect_api_Op
/-! ### tranter.tranterref14.covers -/
namespace ref14_covers
abbrev f : Nat := 23
def s : SCo := (.seq
(F [J 2 (.box 25 (.t 0)),
 J 3 (.box 44 (.t 1)),
 J 4 (.mv (B false))] 3)
(.seq
(.reg (J 5 (.fld 0 (.t 3)) ::
 J 6 (.load none (.t 5)) ::
 J 7 (.bin .lss (.t 6) (.k (b8 8))) ::
 M 8 7 ::
 H 9 (.fld 1 (.t 3)) 8 true ::
 H 10 (.load none (.t 9)) 8 true ::
 H 11 (.bin .geq (.t 10) (.k (b32 1))) 8 true ::
 J 12 (.pick (.t 8) (.t 11) (B false)) ::
 M 13 12 ::
 H 14 (.fld 0 (.t 3)) 13 true ::
 H 15 (.load none (.t 14)) 13 true ::
 H 16 (.idxA 8 1 (.t 2) (.t 15)) 13 true ::
 H 17 (.load none (.t 16)) 13 true ::
 H 18 (.fld 1 (.t 3)) 13 true ::
 H 19 (.load none (.t 18)) 13 true ::
 H 20 (.bin .geq (.t 17) (.t 19)) 13 true ::
 J 21 (.pick (.t 13) (.t 20) (B false)) ::
 M 4 21 :: []) (0 ::
1 ::
3 ::
7 ::
15 ::
31 ::
63 ::
127 ::
255 ::
511 ::
1023 ::
2047 ::
4095 ::
511 ::
8703 ::
32767 ::
65535 ::
131071 :: []) true)
.ret))
def rv : List RV := [.tmp 4]
/-! live ref14_covers: [0, 1, 2, 3, 4] -/
theorem enter : En Try.prog 23 22 s rv := En.mk (c := Try.f23.body.getD .ret) Try.func23 rfl (by kernel_rfl) (by kernel_rfl) (by kernel_rfl) (by kernel_rfl)
end ref14_covers
/-! ### tranter.tranterref14.has -/
namespace ref14_has
abbrev f : Nat := 24
def s : SCo := (.seq
(F [J 3 (.box 44 (.t 1)),
 J 4 (.mv (B false))] 2)
(.seq
(.seq
(F [J 5 (.mv (Z 0))] 1)
(.block 0
(.loop
(.seq
(.seq
(F [M 6 5,
 M 7 0,
 J 8 (.len (.t 7)),
 J 9 (.bin .lss (.t 6) (.t 8))] 4)
(.cond (.t 9)
.skip
(.exit 0)))
(.seq
(.block 1
(.seq
(.reg [M 12 0,
 M 13 5,
 J 14 (.idxS 29 (.t 12) (.t 13)),
 J 15 (.fld 0 (.t 14)),
 J 16 (.load (some 2) (.t 15)),
 J 17 (.load (some 2) (.t 3)),
 J 18 (.eqv false [true, true] (.t 16) (.t 17))] [0,
0,
3,
7,
15,
0,
63] true)
(.cond (.t 18)
(.seq
(F [J 4 (.mv (B true))] 1)
.ret)
.skip)))
(F [M 10 5,
 J 11 (.bin .add (.t 10) (Z 1)),
 M 5 11] 3))))))
(.seq
(F [J 4 (.mv (B false))] 1)
.ret)))
def rv : List RV := [.tmp 4]
/-! live ref14_has: [0, 1, 3, 4, 5, 9, 18] -/
theorem enter : En Try.prog 24 19 s rv := En.mk (c := Try.f24.body.getD .ret) Try.func24 rfl (by kernel_rfl) (by kernel_rfl) (by kernel_rfl) (by kernel_rfl)
end ref14_has
/-! ### tranter.tranterref11.Sorted -/
namespace ref11_Sorted
abbrev f : Nat := 25
def s : SCo := (.seq
(F [J 2 (.mv (.k (.d .nils)))] 1)
(.seq
(F [J 3 (.mv (.k (.d .nils)))] 1)
(.seq
(.seq
(F [J 4 (.mv (Z 0))] 1)
(.block 0
(.loop
(.seq
(.seq
(F [M 6 4,
 M 7 0,
 J 8 (.len (.t 7)),
 J 9 (.bin .lss (.t 6) (.t 8))] 4)
(.cond (.t 9)
.skip
(.exit 0)))
(.seq
(.block 1
(.seq
(F [J 5 (.mv (Z 0))] 1)
(.seq
(.block 2
(.loop
(.seq
(.seq
(.reg [M 12 5,
 M 13 3,
 J 14 (.len (.t 13)),
 J 15 (.bin .lss (.t 12) (.t 14)),
 M 16 15,
 G 17 3 16 true,
 G 18 5 16 true,
 H 19 (.idxS 29 (.t 17) (.t 18)) 16 true,
 H 20 (.load (some 29) (.t 19)) 16 true,
 G 21 0 16 true,
 G 22 4 16 true,
 H 23 (.idxS 29 (.t 21) (.t 22)) 16 true,
 H 24 (.load (some 29) (.t 23)) 16 true,
 H 25 (.call (C 33) [(.t 20), (.t 24)]) 16 true,
 J 26 (.pick (.t 16) (.t 25) (B false))] [0,
0,
2,
7,
15,
31,
31,
127,
255,
31,
31,
1567,
3615,
8191,
16383] true)
(.cond (.t 26)
.skip
(.exit 2)))
(.block 3
(F [M 27 5,
 J 28 (.bin .add (.t 27) (Z 1)),
 M 5 28] 3)))))
(.reg (J 29 (.bsl 48 29 0 [] []) ::
 M 30 3 ::
 M 31 5 ::
 J 32 (.slc 29 (.t 30) none (some (.t 31))) ::
 J 33 (.app 48 29 144 (.t 29) (.t 32)) ::
 M 34 0 ::
 M 35 4 ::
 J 36 (.idxS 29 (.t 34) (.t 35)) ::
 J 37 (.load (some 29) (.t 36)) ::
 J 38 (.bsl 48 29 1 z29 [(0, 29, (.t 37))]) ::
 J 39 (.app 48 29 144 (.t 33) (.t 38)) ::
 M 40 3 ::
 M 41 5 ::
 J 42 (.slc 29 (.t 40) (some (.t 41)) none) ::
 J 43 (.app 48 29 144 (.t 39) (.t 42)) ::
 M 3 43 :: []) (0 ::
0 ::
0 ::
6 ::
15 ::
0 ::
0 ::
96 ::
224 ::
480 ::
1023 ::
0 ::
0 ::
6144 ::
16383 ::
32767 :: []) true))))
(F [M 10 4,
 J 11 (.bin .add (.t 10) (Z 1)),
 M 4 11] 3))))))
(.seq
(F [M 44 3,
 M 2 44] 2)
.ret))))
def rv : List RV := [.tmp 2]
/-! live ref11_Sorted: [0, 2, 3, 4, 5, 9, 26] -/
theorem enter : En Try.prog 25 45 s rv := En.mk (c := Try.f25.body.getD .ret) Try.func25 rfl (by kernel_rfl) (by kernel_rfl) (by kernel_rfl) (by kernel_rfl)
end ref11_Sorted
/-! ### tranter.frame.May -/
namespace frame_May
abbrev f : Nat := 26
def s : SCo := (.seq
(F [J 1 (.box 31 (.t 0)),
 J 2 (.mv (B false))] 2)
(.seq
(F [J 4 (.fld 11 (.t 1)),
 J 5 (.load none (.t 4)),
 J 6 (.call (C 34) [(.t 5), (C 35)]),
 M 3 6] 4)
(.seq
(F (J 7 (.fld 0 (.t 1)) ::
 J 8 (.load none (.t 7)) ::
 J 9 (.bin .leq (.t 8) (.k (b8 1))) ::
 J 10 (.fld 1 (.t 1)) ::
 J 11 (.load none (.t 10)) ::
 J 12 (.fld 2 (.t 1)) ::
 J 13 (.load none (.t 12)) ::
 J 14 (.mx (.t 11) (.t 13)) ::
 J 15 (.bin .lss (.t 14) (.k (b8 8))) ::
 J 16 (.fld 1 (.t 1)) ::
 J 17 (.load none (.t 16)) ::
 J 18 (.fld 2 (.t 1)) ::
 J 19 (.load none (.t 18)) ::
 J 20 (.bin .neq (.t 17) (.t 19)) ::
 J 21 (.fld 0 (.t 1)) ::
 J 22 (.load none (.t 21)) ::
 J 23 (.bin .eql (.t 22) (.k (b8 1))) ::
 M 24 23 ::
 H 25 (.fld 11 (.t 1)) 24 false ::
 H 26 (.load none (.t 25)) 24 false ::
 H 27 (.len (.t 26)) 24 false ::
 H 28 (.bin .eql (.t 27) (Z 0)) 24 false ::
 J 29 (.pick (.t 24) (B true) (.t 28)) ::
 J 30 (.fld 11 (.t 1)) ::
 J 31 (.load none (.t 30)) ::
 J 32 (.len (.t 31)) ::
 J 33 (.bin .leq (.t 32) (Z 64)) ::
 M 34 3 ::
 J 35 (.not (.t 34)) ::
 J 36 (.bsl 4 1 6 [(.d (.bool false)), (.d (.bool false)), (.d (.bool false)), (.d (.bool false)), (.d (.bool false)), (.d (.bool false))] [(0, 1, (.t 9)), (1, 1, (.t 15)), (2, 1, (.t 20)), (3, 1, (.t 29)), (4, 1, (.t 33)), (5, 1, (.t 35))]) ::
 J 37 (.call (C 36) [(.t 36)]) ::
 M 2 37 :: []) 32)
.ret)))
def rv : List RV := [.tmp 2]
/-! live frame_May: [0, 1, 2, 3] -/
theorem enter : En Try.prog 26 38 s rv := En.mk (c := Try.f26.body.getD .ret) Try.func26 rfl (by kernel_rfl) (by kernel_rfl) (by kernel_rfl) (by kernel_rfl)
end frame_May
/-! ### tranter.gossip.lacked$1 -/
namespace gossip_lacked_1
abbrev f : Nat := 27
def s : SCo := (.seq
(F [J 11 (.mkm),
 M 4 11] 2)
(.seq
(F [J 5 (.mv (.k (.d .nils)))] 1)
(.seq
(.seq
(F [J 12 (.load none (.t 1)),
 J 13 (.len (.t 12)),
 J 14 (.mv (Z 0))] 3)
(.block 0
(.loop
(.seq
(F [J 15 (.bin .lss (.t 14) (.t 13))] 1)
(.seq
(.cond (.t 15)
.skip
(.exit 0))
(.seq
(.block 1
(.seq
(F [J 16 (.idxS 29 (.t 12) (.t 14)),
 J 17 (.load (some 29) (.t 16)),
 J 7 (.alloc 48 z29),
 N (.store 29 (.t 7) (.t 17))] 4)
(.seq
(F [J 18 (.fld 0 (.t 7)),
 J 19 (.fld 0 (.t 18)),
 J 20 (.load none (.t 19)),
 J 21 (.conv .u32 (.t 20)),
 J 22 (.fld 0 (.t 7)),
 J 23 (.fld 1 (.t 22)),
 J 24 (.load none (.t 23)),
 J 25 (.bld [b32 0, b32 0] [(0, 1, (.t 21)), (1, 1, (.t 24))]),
 J 8 (.alloc 65 [b32 0, b32 0]),
 N (.store 2 (.t 8) (.t 25))] 10)
(.seq
(.seq
(F [M 26 4,
 J 27 (.load (some 2) (.t 8)),
 J 28 (.look [true, true] true (i6 0) (.t 26) (.t 27) false),
 J 29 (.bin .eql (.t 28) (Z 0)),
 M 30 29,
 H 31 (.load (some 8) (.t 2)) 30 true,
 H 32 (.fld 0 (.t 7)) 30 true,
 H 33 (.load (some 2) (.t 32)) 30 true,
 H 34 (.call (C 28) [(.t 31), (.t 33)]) 30 true,
 H 35 (.not (.t 34)) 30 true,
 J 36 (.pick (.t 30) (.t 35) (B false))] 11)
(.cond (.t 36)
(F [M 37 5,
 J 38 (.load (some 29) (.t 7)),
 J 39 (.bsl 48 29 1 z29 [(0, 29, (.t 38))]),
 J 40 (.app 48 29 144 (.t 37) (.t 39)),
 M 5 40] 5)
.skip))
(F [M 41 4,
 J 42 (.load (some 2) (.t 8)),
 N (.mset [true, true] true (.t 41) (.t 42) (Z 1))] 3)))))
(F [J 43 (.bin .add (.t 14) (Z 1)),
 M 14 43] 2)))))))
(.seq
(F [M 44 5,
 J 45 (.call (C 29) [(.t 44), (C 30)])] 2)
(.seq
(F [M 46 5,
 J 47 (.len (.t 46)),
 J 48 (.mv (Z 0))] 3)
(.block 2
(.loop
(.seq
(F [J 49 (.bin .lss (.t 48) (.t 47))] 1)
(.seq
(.cond (.t 49)
.skip
(.exit 2))
(.seq
(.block 3
(.seq
(F [J 50 (.idxS 29 (.t 46) (.t 48)),
 J 51 (.load (some 29) (.t 50)),
 J 10 (.alloc 48 z29),
 N (.store 29 (.t 10) (.t 51))] 4)
(.seq
(F [J 52 (.fld 28 (.t 10)),
 J 53 (.load none (.t 52)),
 J 54 (.call (C 31) [(.t 53)]),
 J 55 (.fld 28 (.t 10)),
 N (.store 1 (.t 55) (.t 54))] 5)
(.seq
(F [M 56 0,
 J 57 (.load (some 29) (.t 10)),
 J 58 (.call (.t 56) [(.t 57)]),
 J 59 (.not (.t 58))] 4)
(.cond (.t 59)
.ret
.skip)))))
(F [J 60 (.bin .add (.t 48) (Z 1)),
 M 48 60] 2)))))))))))
def rv : List RV := []
/-! live gossip_lacked_1: [0, 1, 2, 4, 5, 7, 8, 10, 12, 13, 14, 15, 36, 46, 47, 48, 49, 59] -/
theorem enter : En Try.prog 27 61 s rv := En.mk (c := Try.f27.body.getD .ret) Try.func27 rfl (by kernel_rfl) (by kernel_rfl) (by kernel_rfl) (by kernel_rfl)
end gossip_lacked_1
/-! ### tranter.vector.Covers -/
namespace vector_Covers
abbrev f : Nat := 28
def s : SCo := (.seq
(F [J 2 (.box 25 (.t 0)),
 J 3 (.box 44 (.t 1)),
 J 4 (.mv (B false))] 3)
(.seq
(.reg [J 5 (.load (some 2) (.t 3)),
 J 6 (.call (C 37) [(.t 5)]),
 M 7 6,
 H 8 (.fld 0 (.t 3)) 7 true,
 H 9 (.load none (.t 8)) 7 true,
 H 10 (.idxA 8 1 (.t 2) (.t 9)) 7 true,
 H 11 (.load none (.t 10)) 7 true,
 H 12 (.fld 1 (.t 3)) 7 true,
 H 13 (.load none (.t 12)) 7 true,
 H 14 (.bin .geq (.t 11) (.t 13)) 7 true,
 J 15 (.pick (.t 7) (.t 14) (B false)),
 M 4 15] [0,
1,
3,
7,
15,
31,
63,
7,
135,
511,
1023,
2047] true)
.ret))
def rv : List RV := [.tmp 4]
/-! live vector_Covers: [0, 1, 2, 3, 4] -/
theorem enter : En Try.prog 28 16 s rv := En.mk (c := Try.f28.body.getD .ret) Try.func28 rfl (by kernel_rfl) (by kernel_rfl) (by kernel_rfl) (by kernel_rfl)
end vector_Covers
/-! ### slices.SortFunc[[]tranter.api.Op,tranter.api.Op] -/
/-! ### tranter.order.Compare -/
namespace order_Compare
abbrev f : Nat := 30
def s : SCo := (.seq
(F [J 2 (.box 48 (.t 0)),
 J 3 (.box 48 (.t 1)),
 J 4 (.mv (Z 0))] 3)
(.seq
(.reg (J 5 (.fld 10 (.t 2)) ::
 J 6 (.load none (.t 5)) ::
 J 7 (.fld 10 (.t 3)) ::
 J 8 (.load none (.t 7)) ::
 J 9 (.call (C 41) [(.t 6), (.t 8)]) ::
 J 10 (.fld 0 (.t 2)) ::
 J 11 (.fld 0 (.t 10)) ::
 J 12 (.load none (.t 11)) ::
 J 13 (.fld 0 (.t 3)) ::
 J 14 (.fld 0 (.t 13)) ::
 J 15 (.load none (.t 14)) ::
 J 16 (.call (C 42) [(.t 12), (.t 15)]) ::
 J 17 (.fld 0 (.t 2)) ::
 J 18 (.fld 1 (.t 17)) ::
 J 19 (.load none (.t 18)) ::
 J 20 (.fld 0 (.t 3)) ::
 J 21 (.fld 1 (.t 20)) ::
 J 22 (.load none (.t 21)) ::
 J 23 (.call (C 43) [(.t 19), (.t 22)]) ::
 J 24 (.bsl 3 1 3 [i6 0, i6 0, i6 0] [(0, 1, (.t 9)), (1, 1, (.t 16)), (2, 1, (.t 23))]) ::
 J 25 (.call (C 40) [(.t 24)]) ::
 M 4 25 :: []) (0 ::
1 ::
0 ::
4 ::
15 ::
0 ::
32 ::
96 ::
0 ::
256 ::
768 ::
2047 ::
0 ::
4096 ::
12288 ::
0 ::
32768 ::
98304 ::
262143 ::
524287 ::
1048575 ::
2097151 :: []) true)
.ret))
def rv : List RV := [.tmp 4]
/-! live order_Compare: [0, 1, 2, 3, 4] -/
theorem enter : En Try.prog 30 26 s rv := En.mk (c := Try.f30.body.getD .ret) Try.func30 rfl (by kernel_rfl) (by kernel_rfl) (by kernel_rfl) (by kernel_rfl)
end order_Compare
/-! ### slices.Clone[[]tranter.api.Claim,tranter.api.Claim] -/
namespace slices_Clone_Lapi_Claim_api_Claim
abbrev f : Nat := 31
def s : SCo := (.seq
(F [J 2 (.mv (.k (.d .nils)))] 1)
(.seq
(.seq
(F [M 3 0,
 J 4 (.eqnil false 3 (.t 3))] 2)
(.cond (.t 4)
(.seq
(F [J 2 (.mv (.k (.d .nils)))] 1)
.ret)
.skip))
(.seq
(F [J 5 (.bsl 70 4 0 [] []),
 M 6 0,
 J 7 (.app 70 4 16 (.t 5) (.t 6)),
 M 2 7] 4)
.ret)))
def rv : List RV := [.tmp 2]
/-! live slices_Clone_Lapi_Claim_api_Claim: [0, 2, 4] -/
theorem enter : En Try.prog 31 8 s rv := En.mk (c := Try.f31.body.getD .ret) Try.func31 rfl (by kernel_rfl) (by kernel_rfl) (by kernel_rfl) (by kernel_rfl)
end slices_Clone_Lapi_Claim_api_Claim
/-! ### slices.AppendSeq[[]tranter.api.Op,tranter.api.Op] -/
namespace slices_AppendSeq_Lapi_Op_api_Op
abbrev f : Nat := 32
def s : SCo := (.seq
(F [J 2 (.box 22 (.t 0)),
 J 4 (.mv (.k (.d .nils)))] 2)
(.seq
(.seq
(F [M 6 1] 1)
(.block 0
(.rfun (.t 6) [7]
(F [J 5 (.alloc 48 z29),
 N (.store 29 (.t 5) (.t 7))] 2)
(.block 1
(F [J 8 (.load none (.t 2)),
 J 9 (.load (some 29) (.t 5)),
 J 10 (.bsl 48 29 1 z29 [(0, 29, (.t 9))]),
 J 11 (.app 48 29 144 (.t 8) (.t 10)),
 N (.store 1 (.t 2) (.t 11))] 5)))))
(.seq
(F [J 12 (.load none (.t 2)),
 M 4 12] 2)
.ret)))
def rv : List RV := [.tmp 4]
/-! live slices_AppendSeq_Lapi_Op_api_Op: [0, 1, 2, 4, 5, 6, 7] -/
theorem enter : En Try.prog 32 13 s rv := En.mk (c := Try.f32.body.getD .ret) Try.func32 rfl (by kernel_rfl) (by kernel_rfl) (by kernel_rfl) (by kernel_rfl)
end slices_AppendSeq_Lapi_Op_api_Op
/-! ### tranter.tranterref11.Ahead -/
namespace ref11_Ahead
abbrev f : Nat := 33
def s : SCo := (.seq
(F [J 2 (.box 48 (.t 0)),
 J 3 (.box 48 (.t 1)),
 J 4 (.mv (B false))] 3)
(.seq
(.seq
(F [J 5 (.fld 10 (.t 2)),
 J 6 (.load none (.t 5)),
 J 7 (.fld 10 (.t 3)),
 J 8 (.load none (.t 7)),
 J 9 (.bin .neq (.t 6) (.t 8))] 5)
(.cond (.t 9)
(.seq
(F [J 10 (.fld 10 (.t 2)),
 J 11 (.load none (.t 10)),
 J 12 (.fld 10 (.t 3)),
 J 13 (.load none (.t 12)),
 J 14 (.bin .lss (.t 11) (.t 13)),
 M 4 14] 6)
.ret)
.skip))
(.seq
(.seq
(F [J 15 (.fld 0 (.t 2)),
 J 16 (.fld 0 (.t 15)),
 J 17 (.load none (.t 16)),
 J 18 (.fld 0 (.t 3)),
 J 19 (.fld 0 (.t 18)),
 J 20 (.load none (.t 19)),
 J 21 (.bin .neq (.t 17) (.t 20))] 7)
(.cond (.t 21)
(.seq
(F [J 22 (.fld 0 (.t 2)),
 J 23 (.fld 0 (.t 22)),
 J 24 (.load none (.t 23)),
 J 25 (.fld 0 (.t 3)),
 J 26 (.fld 0 (.t 25)),
 J 27 (.load none (.t 26)),
 J 28 (.bin .lss (.t 24) (.t 27)),
 M 4 28] 8)
.ret)
.skip))
(.seq
(F [J 29 (.fld 0 (.t 2)),
 J 30 (.fld 1 (.t 29)),
 J 31 (.load none (.t 30)),
 J 32 (.fld 0 (.t 3)),
 J 33 (.fld 1 (.t 32)),
 J 34 (.load none (.t 33)),
 J 35 (.bin .lss (.t 31) (.t 34)),
 M 4 35] 8)
.ret))))
def rv : List RV := [.tmp 4]
/-! live ref11_Ahead: [0, 1, 2, 3, 4, 9, 21] -/
theorem enter : En Try.prog 33 36 s rv := En.mk (c := Try.f33.body.getD .ret) Try.func33 rfl (by kernel_rfl) (by kernel_rfl) (by kernel_rfl) (by kernel_rfl)
end ref11_Ahead
/-! ### slices.ContainsFunc[[]tranter.api.Op,tranter.api.Op] -/
namespace slices_ContainsFunc_Lapi_Op_api_Op
abbrev f : Nat := 34
def s : SCo := (.seq
(F [J 4 (.mv (B false))] 1)
(.seq
(F [M 5 0,
 M 6 1,
 J 7 (.call (C 44) [(.t 5), (.t 6)]),
 J 8 (.bin .geq (.t 7) (Z 0)),
 M 4 8] 5)
.ret))
def rv : List RV := [.tmp 4]
/-! live slices_ContainsFunc_Lapi_Op_api_Op: [0, 1, 4] -/
theorem enter : En Try.prog 34 9 s rv := En.mk (c := Try.f34.body.getD .ret) Try.func34 rfl (by kernel_rfl) (by kernel_rfl) (by kernel_rfl) (by kernel_rfl)
end slices_ContainsFunc_Lapi_Op_api_Op
/-! ### tranter.frame.May$1 -/
namespace frame_May_1
abbrev f : Nat := 35
def s : SCo := (.seq
(F [J 1 (.box 48 (.t 0)),
 J 2 (.mv (B false))] 2)
(.seq
(F [J 3 (.fld 28 (.t 1)),
 J 4 (.load none (.t 3)),
 J 5 (.len (.t 4)),
 J 6 (.bin .gtr (.t 5) (Z 16)),
 M 2 6] 5)
.ret))
def rv : List RV := [.tmp 2]
/-! live frame_May_1: [0, 1, 2] -/
theorem enter : En Try.prog 35 7 s rv := En.mk (c := Try.f35.body.getD .ret) Try.func35 rfl (by kernel_rfl) (by kernel_rfl) (by kernel_rfl) (by kernel_rfl)
end frame_May_1
/-! ### tranter.frame.all -/
namespace frame_all
abbrev f : Nat := 36
def s : SCo := (.seq
(F [J 2 (.mv (B false))] 1)
(.seq
(F [M 3 0,
 J 4 (.call (C 45) [(.t 3), (B false)]),
 J 5 (.not (.t 4)),
 M 2 5] 4)
.ret))
def rv : List RV := [.tmp 2]
/-! live frame_all: [0, 2] -/
theorem enter : En Try.prog 36 6 s rv := En.mk (c := Try.f36.body.getD .ret) Try.func36 rfl (by kernel_rfl) (by kernel_rfl) (by kernel_rfl) (by kernel_rfl)
end frame_all
/-! ### tranter.dot.May -/
namespace dot_May
abbrev f : Nat := 37
def s : SCo := (.seq
(F [J 1 (.box 44 (.t 0)),
 J 2 (.mv (B false))] 2)
(.seq
(F [J 3 (.fld 0 (.t 1)),
 J 4 (.load none (.t 3)),
 J 5 (.bin .lss (.t 4) (.k (b8 8))),
 M 6 5,
 H 7 (.fld 1 (.t 1)) 6 true,
 H 8 (.load none (.t 7)) 6 true,
 H 9 (.bin .gtr (.t 8) (.k (b32 0))) 6 true,
 J 10 (.pick (.t 6) (.t 9) (B false)),
 M 2 10] 9)
.ret))
def rv : List RV := [.tmp 2]
/-! live dot_May: [0, 1, 2] -/
theorem enter : En Try.prog 37 11 s rv := En.mk (c := Try.f37.body.getD .ret) Try.func37 rfl (by kernel_rfl) (by kernel_rfl) (by kernel_rfl) (by kernel_rfl)
end dot_May
/-! ### slices.pdqsortCmpFunc[tranter.api.Op] -/
/-! ### math.bits.Len -/
/-! ### cmp.Or[int] -/
namespace cmp_Or_int
abbrev f : Nat := 40
def s : SCo := (.seq
(F [J 2 (.mv (Z 0))] 1)
(.seq
(F [J 3 (.mv (Z 0))] 1)
(.seq
(.seq
(F [M 6 0,
 J 7 (.len (.t 6)),
 J 8 (.mv (Z 0))] 3)
(.block 0
(.loop
(.seq
(F [J 9 (.bin .lss (.t 8) (.t 7))] 1)
(.seq
(.cond (.t 9)
.skip
(.exit 0))
(.seq
(.block 1
(.seq
(F [J 10 (.idxS 1 (.t 6) (.t 8)),
 J 11 (.load none (.t 10)),
 M 5 11] 3)
(.seq
(F [M 12 5,
 M 13 3,
 J 14 (.bin .neq (.t 12) (.t 13))] 3)
(.cond (.t 14)
(.seq
(F [M 15 5,
 M 2 15] 2)
.ret)
.skip))))
(F [J 16 (.bin .add (.t 8) (Z 1)),
 M 8 16] 2)))))))
(.seq
(F [M 17 3,
 M 2 17] 2)
.ret))))
def rv : List RV := [.tmp 2]
/-! live cmp_Or_int: [0, 2, 3, 5, 6, 7, 8, 9, 14] -/
theorem enter : En Try.prog 40 18 s rv := En.mk (c := Try.f40.body.getD .ret) Try.func40 rfl (by kernel_rfl) (by kernel_rfl) (by kernel_rfl) (by kernel_rfl)
end cmp_Or_int
/-! ### cmp.Compare[uint64] -/
namespace cmp_Compare_uint64
abbrev f : Nat := 41
def s : SCo := (.seq
(F [J 4 (.mv (Z 0))] 1)
(.seq
(F [M 7 0,
 J 8 (.call (C 56) [(.t 7)]),
 M 5 8] 3)
(.seq
(F [M 9 1,
 J 10 (.call (C 56) [(.t 9)]),
 M 6 10] 3)
(.seq
(.seq
(F [M 11 5] 1)
(.cond (.t 11)
(.seq
(.seq
(F [M 12 6] 1)
(.cond (.t 12)
(.seq
(F [J 4 (.mv (Z 0))] 1)
.ret)
.skip))
(.seq
(F [J 4 (.mv (.k (.d (.int .i64 (-1)))))] 1)
.ret))
.skip))
(.seq
(.seq
(F [M 13 6] 1)
(.cond (.t 13)
(.seq
(F [J 4 (.mv (Z 1))] 1)
.ret)
.skip))
(.seq
(.seq
(F [M 14 0,
 M 15 1,
 J 16 (.bin .lss (.t 14) (.t 15))] 3)
(.cond (.t 16)
(.seq
(F [J 4 (.mv (.k (.d (.int .i64 (-1)))))] 1)
.ret)
.skip))
(.seq
(.seq
(F [M 17 0,
 M 18 1,
 J 19 (.bin .gtr (.t 17) (.t 18))] 3)
(.cond (.t 19)
(.seq
(F [J 4 (.mv (Z 1))] 1)
.ret)
.skip))
(.seq
(F [J 4 (.mv (Z 0))] 1)
.ret))))))))
def rv : List RV := [.tmp 4]
/-! live cmp_Compare_uint64: [0, 1, 4, 5, 6, 11, 12, 13, 16, 19] -/
theorem enter : En Try.prog 41 20 s rv := En.mk (c := Try.f41.body.getD .ret) Try.func41 rfl (by kernel_rfl) (by kernel_rfl) (by kernel_rfl) (by kernel_rfl)
end cmp_Compare_uint64
/-! ### cmp.Compare[uint8] -/
namespace cmp_Compare_uint8
abbrev f : Nat := 42
def s : SCo := (.seq
(F [J 4 (.mv (Z 0))] 1)
(.seq
(F [M 7 0,
 J 8 (.call (C 57) [(.t 7)]),
 M 5 8] 3)
(.seq
(F [M 9 1,
 J 10 (.call (C 57) [(.t 9)]),
 M 6 10] 3)
(.seq
(.seq
(F [M 11 5] 1)
(.cond (.t 11)
(.seq
(.seq
(F [M 12 6] 1)
(.cond (.t 12)
(.seq
(F [J 4 (.mv (Z 0))] 1)
.ret)
.skip))
(.seq
(F [J 4 (.mv (.k (.d (.int .i64 (-1)))))] 1)
.ret))
.skip))
(.seq
(.seq
(F [M 13 6] 1)
(.cond (.t 13)
(.seq
(F [J 4 (.mv (Z 1))] 1)
.ret)
.skip))
(.seq
(.seq
(F [M 14 0,
 M 15 1,
 J 16 (.bin .lss (.t 14) (.t 15))] 3)
(.cond (.t 16)
(.seq
(F [J 4 (.mv (.k (.d (.int .i64 (-1)))))] 1)
.ret)
.skip))
(.seq
(.seq
(F [M 17 0,
 M 18 1,
 J 19 (.bin .gtr (.t 17) (.t 18))] 3)
(.cond (.t 19)
(.seq
(F [J 4 (.mv (Z 1))] 1)
.ret)
.skip))
(.seq
(F [J 4 (.mv (Z 0))] 1)
.ret))))))))
def rv : List RV := [.tmp 4]
/-! live cmp_Compare_uint8: [0, 1, 4, 5, 6, 11, 12, 13, 16, 19] -/
theorem enter : En Try.prog 42 20 s rv := En.mk (c := Try.f42.body.getD .ret) Try.func42 rfl (by kernel_rfl) (by kernel_rfl) (by kernel_rfl) (by kernel_rfl)
end cmp_Compare_uint8
/-! ### cmp.Compare[uint32] -/
namespace cmp_Compare_uint32
abbrev f : Nat := 43
def s : SCo := (.seq
(F [J 4 (.mv (Z 0))] 1)
(.seq
(F [M 7 0,
 J 8 (.call (C 58) [(.t 7)]),
 M 5 8] 3)
(.seq
(F [M 9 1,
 J 10 (.call (C 58) [(.t 9)]),
 M 6 10] 3)
(.seq
(.seq
(F [M 11 5] 1)
(.cond (.t 11)
(.seq
(.seq
(F [M 12 6] 1)
(.cond (.t 12)
(.seq
(F [J 4 (.mv (Z 0))] 1)
.ret)
.skip))
(.seq
(F [J 4 (.mv (.k (.d (.int .i64 (-1)))))] 1)
.ret))
.skip))
(.seq
(.seq
(F [M 13 6] 1)
(.cond (.t 13)
(.seq
(F [J 4 (.mv (Z 1))] 1)
.ret)
.skip))
(.seq
(.seq
(F [M 14 0,
 M 15 1,
 J 16 (.bin .lss (.t 14) (.t 15))] 3)
(.cond (.t 16)
(.seq
(F [J 4 (.mv (.k (.d (.int .i64 (-1)))))] 1)
.ret)
.skip))
(.seq
(.seq
(F [M 17 0,
 M 18 1,
 J 19 (.bin .gtr (.t 17) (.t 18))] 3)
(.cond (.t 19)
(.seq
(F [J 4 (.mv (Z 1))] 1)
.ret)
.skip))
(.seq
(F [J 4 (.mv (Z 0))] 1)
.ret))))))))
def rv : List RV := [.tmp 4]
/-! live cmp_Compare_uint32: [0, 1, 4, 5, 6, 11, 12, 13, 16, 19] -/
theorem enter : En Try.prog 43 20 s rv := En.mk (c := Try.f43.body.getD .ret) Try.func43 rfl (by kernel_rfl) (by kernel_rfl) (by kernel_rfl) (by kernel_rfl)
end cmp_Compare_uint32
/-! ### slices.IndexFunc[[]tranter.api.Op,tranter.api.Op] -/
namespace slices_IndexFunc_Lapi_Op_api_Op
abbrev f : Nat := 44
def s : SCo := (.seq
(F [J 4 (.mv (Z 0))] 1)
(.seq
(.seq
(F [M 6 0,
 J 7 (.len (.t 6)),
 J 8 (.mv (Z 0))] 3)
(.block 0
(.loop
(.seq
(F [J 9 (.bin .lss (.t 8) (.t 7))] 1)
(.seq
(.cond (.t 9)
.skip
(.exit 0))
(.seq
(.block 1
(.seq
(F [M 10 8,
 M 5 10] 2)
(.seq
(F [M 11 1,
 M 12 0,
 M 13 5,
 J 14 (.idxS 29 (.t 12) (.t 13)),
 J 15 (.load (some 29) (.t 14)),
 J 16 (.call (.t 11) [(.t 15)])] 6)
(.cond (.t 16)
(.seq
(F [M 17 5,
 M 4 17] 2)
.ret)
.skip))))
(F [J 18 (.bin .add (.t 8) (Z 1)),
 M 8 18] 2)))))))
(.seq
(F [J 4 (.mv (.k (.d (.int .i64 (-1)))))] 1)
.ret)))
def rv : List RV := [.tmp 4]
/-! live slices_IndexFunc_Lapi_Op_api_Op: [0, 1, 4, 5, 7, 8, 9, 16] -/
theorem enter : En Try.prog 44 19 s rv := En.mk (c := Try.f44.body.getD .ret) Try.func44 rfl (by kernel_rfl) (by kernel_rfl) (by kernel_rfl) (by kernel_rfl)
end slices_IndexFunc_Lapi_Op_api_Op
/-! ### slices.Contains[[]bool,bool] -/
namespace slices_Contains_Lbool_bool
abbrev f : Nat := 45
def s : SCo := (.seq
(F [J 4 (.mv (B false))] 1)
(.seq
(F [M 5 0,
 M 6 1,
 J 7 (.call (C 59) [(.t 5), (.t 6)]),
 J 8 (.bin .geq (.t 7) (Z 0)),
 M 4 8] 5)
.ret))
def rv : List RV := [.tmp 4]
/-! live slices_Contains_Lbool_bool: [0, 1, 4] -/
theorem enter : En Try.prog 45 9 s rv := En.mk (c := Try.f45.body.getD .ret) Try.func45 rfl (by kernel_rfl) (by kernel_rfl) (by kernel_rfl) (by kernel_rfl)
end slices_Contains_Lbool_bool
/-! ### slices.insertionSortCmpFunc[tranter.api.Op] -/
/-! ### slices.heapSortCmpFunc[tranter.api.Op] -/
/-! ### slices.breakPatternsCmpFunc[tranter.api.Op] -/
/-! ### slices.choosePivotCmpFunc[tranter.api.Op] -/
/-! ### slices.reverseRangeCmpFunc[tranter.api.Op] -/
/-! ### slices.partialInsertionSortCmpFunc[tranter.api.Op] -/
/-! ### slices.partitionEqualCmpFunc[tranter.api.Op] -/
/-! ### slices.partitionCmpFunc[tranter.api.Op] -/
/-! ### math.bits.Len32 -/
/-! ### math.bits.Len64 -/
/-! ### cmp.isNaN[uint64] -/
namespace cmp_isNaN_uint64
abbrev f : Nat := 56
def s : SCo := (.seq
(F [J 2 (.mv (B false))] 1)
(.seq
(F [M 3 0,
 M 4 0,
 J 5 (.bin .neq (.t 3) (.t 4)),
 M 2 5] 4)
.ret))
def rv : List RV := [.tmp 2]
/-! live cmp_isNaN_uint64: [0, 2] -/
theorem enter : En Try.prog 56 6 s rv := En.mk (c := Try.f56.body.getD .ret) Try.func56 rfl (by kernel_rfl) (by kernel_rfl) (by kernel_rfl) (by kernel_rfl)
end cmp_isNaN_uint64
/-! ### cmp.isNaN[uint8] -/
namespace cmp_isNaN_uint8
abbrev f : Nat := 57
def s : SCo := (.seq
(F [J 2 (.mv (B false))] 1)
(.seq
(F [M 3 0,
 M 4 0,
 J 5 (.bin .neq (.t 3) (.t 4)),
 M 2 5] 4)
.ret))
def rv : List RV := [.tmp 2]
/-! live cmp_isNaN_uint8: [0, 2] -/
theorem enter : En Try.prog 57 6 s rv := En.mk (c := Try.f57.body.getD .ret) Try.func57 rfl (by kernel_rfl) (by kernel_rfl) (by kernel_rfl) (by kernel_rfl)
end cmp_isNaN_uint8
/-! ### cmp.isNaN[uint32] -/
namespace cmp_isNaN_uint32
abbrev f : Nat := 58
def s : SCo := (.seq
(F [J 2 (.mv (B false))] 1)
(.seq
(F [M 3 0,
 M 4 0,
 J 5 (.bin .neq (.t 3) (.t 4)),
 M 2 5] 4)
.ret))
def rv : List RV := [.tmp 2]
/-! live cmp_isNaN_uint32: [0, 2] -/
theorem enter : En Try.prog 58 6 s rv := En.mk (c := Try.f58.body.getD .ret) Try.func58 rfl (by kernel_rfl) (by kernel_rfl) (by kernel_rfl) (by kernel_rfl)
end cmp_isNaN_uint32
/-! ### slices.Index[[]bool,bool] -/
namespace slices_Index_Lbool_bool
abbrev f : Nat := 59
def s : SCo := (.seq
(F [J 4 (.mv (Z 0))] 1)
(.seq
(.seq
(F [M 6 0,
 J 7 (.len (.t 6)),
 J 8 (.mv (Z 0))] 3)
(.block 0
(.loop
(.seq
(F [J 9 (.bin .lss (.t 8) (.t 7))] 1)
(.seq
(.cond (.t 9)
.skip
(.exit 0))
(.seq
(.block 1
(.seq
(F [M 10 8,
 M 5 10] 2)
(.seq
(F [M 11 1,
 M 12 0,
 M 13 5,
 J 14 (.idxS 1 (.t 12) (.t 13)),
 J 15 (.load none (.t 14)),
 J 16 (.eqb false (.t 11) (.t 15))] 6)
(.cond (.t 16)
(.seq
(F [M 17 5,
 M 4 17] 2)
.ret)
.skip))))
(F [J 18 (.bin .add (.t 8) (Z 1)),
 M 8 18] 2)))))))
(.seq
(F [J 4 (.mv (.k (.d (.int .i64 (-1)))))] 1)
.ret)))
def rv : List RV := [.tmp 4]
/-! live slices_Index_Lbool_bool: [0, 1, 4, 5, 7, 8, 9, 16] -/
theorem enter : En Try.prog 59 19 s rv := En.mk (c := Try.f59.body.getD .ret) Try.func59 rfl (by kernel_rfl) (by kernel_rfl) (by kernel_rfl) (by kernel_rfl)
end slices_Index_Lbool_bool
/-! ### slices.siftDownCmpFunc[tranter.api.Op] -/
/-! ### slices.nextPowerOfTwo -/
/-! ### (slices.xorshift).Next -/
/-! ### slices.medianAdjacentCmpFunc[tranter.api.Op] -/
/-! ### slices.medianCmpFunc[tranter.api.Op] -/
/-! ### slices.order2CmpFunc[tranter.api.Op] -/
end Go.Proofs.Ytgjgfamgbhlmfaa
