/-
  The code of the functions in the small form, by program (gen.py); each is checked against the translation by the kernel.
-/
import Derived.Test.YtpbfnenlbkjhgaaChecked
import Derived.Test.YtpbfnenlbkjhgaaK4
set_option linter.unusedVariables false
set_option linter.unusedSimpArgs false
set_option linter.unusedSectionVars false
namespace Go.Proofs.Ytpbfnenlbkjhgaa
open Go.Sl Go.Proofs
theorem mixed : Try.prog.follows .mixedOrders = true := by kernel_rfl
abbrev T_ : Nat := 0
abbrev T_func : Nat := 1
abbrev T_int64 : Nat := 2
abbrev T_int : Nat := 3
abbrev T_bool : Nat := 4
abbrev T_uint8 : Nat := 5
abbrev T_abi_BoundsErrorCode : Nat := 6
abbrev T_runtime_boundsError : Nat := 8
abbrev T_string : Nat := 9
abbrev T_runtime_errorString : Nat := 10
abbrev T_runtime_plainError : Nat := 11
abbrev T_uintptr : Nat := 12
abbrev T_struct_msg_string_addr_uintptr : Nat := 13
abbrev T_runtime_errorAddressString : Nat := 14
abbrev T_P_runtime_TypeAssertionError : Nat := 15
abbrev T_P_runtime_PanicNilError : Nat := 16
abbrev T_P_abi_Type : Nat := 17
abbrev T_struct_typ_P_abi_Type : Nat := 18
abbrev T_maps_unhashableTypeError : Nat := 19
abbrev T_interface : Nat := 20
abbrev T_int32 : Nat := 21
abbrev T_func_int_int_int : Nat := 22
abbrev T_func_bool : Nat := 23
abbrev T_func_int_int_bool : Nat := 24
abbrev T_L_api_Op : Nat := 25
abbrev T_uint32 : Nat := 26
abbrev T_A8_uint32 : Nat := 27
abbrev T_api_Vector : Nat := 28
abbrev T_struct_From_uint8_To_uint8_Most_int : Nat := 29
abbrev T_tranterlaw14_Ends : Nat := 30
abbrev T_func_L_api_Op_bool : Nat := 31
abbrev T_api_Frame : Nat := 33
abbrev T_api_Errno : Nat := 34
abbrev T_api_Frame_api_Errno : Nat := 35
abbrev T_api_Frame_int : Nat := 37
abbrev T_func_L_api_Op_L_api_Op_bool : Nat := 41
abbrev T_func_L_api_Op_api_Vector_L_api_Op : Nat := 42
abbrev T_func_api_Frame_api_Frame_bool : Nat := 43
abbrev T_struct_R_uint8_N_uint32 : Nat := 45
abbrev T_api_Dot : Nat := 46
abbrev T_uint64 : Nat := 47
abbrev T_L_api_Claim : Nat := 48
abbrev T_api_Op : Nat := 50
abbrev T_func_api_Op_api_Op_int : Nat := 51
abbrev T_func_L_api_Op_L_api_Op : Nat := 52
abbrev T_func_L_api_Op_api_Vector : Nat := 53
abbrev T_func_L_api_Op_api_Vector_bool : Nat := 54
abbrev T_func_L_api_Op : Nat := 55
abbrev T_func_api_Frame_bool : Nat := 57
abbrev T_func_func_api_Op_bool : Nat := 58
abbrev T_iter_SeqAtranter_api_Op : Nat := 59
abbrev T_func_api_Op_api_Op_bool : Nat := 61
abbrev T_func_iter_SeqAtranter_api_Op_L_api_Op : Nat := 62
abbrev T_func_api_Vector_api_Dot_bool : Nat := 63
abbrev T_func_L_api_Op_api_Dot_bool : Nat := 64
abbrev T_func_int_int : Nat := 65
abbrev T_func_uint64_uint64_int : Nat := 66
abbrev T_func_uint8_uint8_int : Nat := 67
abbrev T_func_uint32_uint32_int : Nat := 68
abbrev T_mapAapi_Dot_int : Nat := 69
abbrev T_struct_l_L_api_Op_at_mapAapi_Dot_int : Nat := 70
abbrev T_order_index : Nat := 71
abbrev T_func_L_api_Op_order_index : Nat := 72
abbrev T_L_int : Nat := 73
abbrev T_func_iter_SeqAint_func_int_int_int_L_int : Nat := 74
abbrev T_func_func_int_bool : Nat := 75
abbrev T_iter_SeqAint : Nat := 76
abbrev T_func_iter_SeqAint : Nat := 77
abbrev T_func_api_Op_bool : Nat := 78
abbrev T_mapAgossip_name_int : Nat := 79
abbrev T_A2_uint32 : Nat := 80
abbrev T_gossip_name : Nat := 81
abbrev T_func_L_api_Op_func_api_Op_api_Op_int : Nat := 82
abbrev T_func_L_api_Claim_L_api_Claim : Nat := 83
abbrev T_struct_Line_api_Dot_Version_api_Dot : Nat := 84
abbrev T_api_Claim : Nat := 85
abbrev T_func_uint64_bool : Nat := 87
abbrev T_func_uint8_bool : Nat := 88
abbrev T_func_uint32_bool : Nat := 89
abbrev T_int_bool : Nat := 90
abbrev T_func_iter_SeqAint_L_int : Nat := 91
abbrev T_func_L_int_func_int_int_int : Nat := 92
abbrev T_func_int_bool : Nat := 93
abbrev T_func_L_api_Op_func_api_Op_bool_bool : Nat := 94
abbrev T_func_bool_bool : Nat := 95
abbrev T_func_api_Dot_bool : Nat := 96
abbrev T_func_uint_int : Nat := 98
abbrev T_uint : Nat := 99
abbrev T_func_L_int_iter_SeqAint_L_int : Nat := 100
abbrev T_func_L_int_int_int_int_func_int_int_int : Nat := 101
abbrev T_func_L_api_Op_func_api_Op_bool_int : Nat := 102
abbrev T_L_bool : Nat := 103
abbrev T_func_L_bool_bool_bool : Nat := 104
abbrev T_slices_sortedHint : Nat := 106
abbrev T_int_slices_sortedHint : Nat := 107
abbrev T_func_uint32_int : Nat := 112
abbrev T_func_uint64_int : Nat := 113
abbrev T_func_L_int_int_int_func_int_int_int : Nat := 114
abbrev T_func_L_int_int_int_func_int_int_int_bool : Nat := 116
abbrev T_func_L_bool_bool_int : Nat := 119
abbrev T_slices_xorshift : Nat := 120
abbrev T_func_int_uint : Nat := 121
abbrev T_func_uint64 : Nat := 122
abbrev T_P_int : Nat := 124
abbrev T_P_slices_xorshift : Nat := 128
abbrev T_int_int : Nat := 129
abbrev T_func_string : Nat := 132
abbrev T_runtime_TypeAssertionError : Nat := 134
abbrev T_A0_P_runtime_PanicNilError : Nat := 135
abbrev T_struct_A0_P_runtime_PanicNilError : Nat := 136
abbrev T_runtime_PanicNilError : Nat := 137
abbrev T_func_int : Nat := 138
abbrev T_abi_TFlag : Nat := 139
abbrev T_abi_Kind : Nat := 140
abbrev T_func_unsafe_Pointer_unsafe_Pointer_bool : Nat := 141
abbrev T_P_uint8 : Nat := 142
abbrev T_abi_NameOff : Nat := 143
abbrev T_abi_TypeOff : Nat := 144
abbrev T_abi_Type : Nat := 146
abbrev T_unsafe_Pointer : Nat := 147
/-! ### tranter.tranterlaw14.GossipRounds -/
namespace law14_GossipRounds
abbrev f : Nat := 3
def s : SCo := (.seq
(.reg [⟨(some 4), .mv (.k (.d (.bool false))), none⟩] (fullB 1) false)
(.seq
(.reg [⟨(some 6), .mv (.t 0), none⟩,
⟨(some 7), .mv (.t 1), none⟩,
⟨(some 8), .call (.k (.fn (.func 6) [] [])) [(.t 6), (.t 7)], none⟩,
⟨(some 5), .mv (.t 8), none⟩] (fullB 4) false)
(.seq
(.seq
 (.reg [⟨(some 9), .mv (.t 5), none⟩,
⟨(some 10), .mv (.t 0), none⟩,
⟨(some 11), .mv (.t 1), none⟩,
⟨(some 12), .call (.k (.fn (.func 7) [] [])) [(.t 10), (.t 11)], none⟩,
⟨(some 13), .bin .neq (.t 9) (.t 12), none⟩] (fullB 5) false)
 (.cond (.t 13)
 (.seq
 (.reg [⟨(some 4), .mv (.k (.d (.bool false))), none⟩] (fullB 1) false)
 .ret)
 .skip))
(.seq
 (.seq
 (.reg [⟨(some 14), .mv (.t 0), none⟩,
⟨(some 15), .bin .gtr (.t 14) (.k (.d (.int .i64 0))), none⟩,
⟨(some 16), .mv (.t 15), none⟩,
⟨(some 17), .mv (.t 0), some (16, true)⟩,
⟨(some 18), .bin .lss (.t 17) (.k (.d (.int .i64 1073741824))), some (16, true)⟩,
⟨(some 19), .pick (.t 16) (.t 18) (.k (.d (.bool false))), none⟩,
⟨(some 20), .mv (.t 19), none⟩,
⟨(some 21), .mv (.t 1), some (20, true)⟩,
⟨(some 22), .bin .gtr (.t 21) (.k (.d (.int .i64 0))), some (20, true)⟩,
⟨(some 23), .pick (.t 20) (.t 22) (.k (.d (.bool false))), none⟩,
⟨(some 24), .mv (.t 23), none⟩,
⟨(some 25), .mv (.t 1), some (24, true)⟩,
⟨(some 26), .bin .lss (.t 25) (.k (.d (.int .i64 1073741824))), some (24, true)⟩,
⟨(some 27), .pick (.t 24) (.t 26) (.k (.d (.bool false))), none⟩] (fullB 14) false)
 (.cond (.t 27)
 (.seq
 (.reg (⟨(some 28), .mv (.t 5), none⟩ ::
⟨(some 29), .mv (.t 1), none⟩ ::
⟨(some 30), .bin .mul (.t 28) (.t 29), none⟩ ::
⟨(some 31), .mv (.t 0), none⟩ ::
⟨(some 32), .bin .geq (.t 30) (.t 31), none⟩ ::
⟨(some 33), .mv (.t 32), none⟩ ::
⟨(some 34), .mv (.t 5), some (33, true)⟩ ::
⟨(some 35), .bin .sub (.t 34) (.k (.d (.int .i64 1))), some (33, true)⟩ ::
⟨(some 36), .mv (.t 1), some (33, true)⟩ ::
⟨(some 37), .bin .mul (.t 35) (.t 36), some (33, true)⟩ ::
⟨(some 38), .mv (.t 0), some (33, true)⟩ ::
⟨(some 39), .bin .lss (.t 37) (.t 38), some (33, true)⟩ ::
⟨(some 40), .pick (.t 33) (.t 39) (.k (.d (.bool false))), none⟩ ::
⟨(some 41), .mv (.t 40), none⟩ ::
⟨(some 42), .call (.k (.fn (.func 8) [] [])) [], some (41, true)⟩ ::
⟨(some 43), .pick (.t 41) (.t 42) (.k (.d (.bool false))), none⟩ ::
⟨(some 4), .mv (.t 43), none⟩ :: []) (fullB 17) false)
 .ret)
 .skip))
 (.seq
 (.reg [⟨(some 44), .mv (.t 5), none⟩,
⟨(some 45), .bin .geq (.t 44) (.k (.d (.int .i64 0))), none⟩,
⟨(some 46), .mv (.t 45), none⟩,
⟨(some 47), .call (.k (.fn (.func 8) [] [])) [], some (46, true)⟩,
⟨(some 48), .pick (.t 46) (.t 47) (.k (.d (.bool false))), none⟩,
⟨(some 4), .mv (.t 48), none⟩] (fullB 6) false)
 .ret)))))
def rv : List RV := [.tmp 4]
/-! live law14_GossipRounds: [0, 1, 4, 5, 13, 27] -/
theorem c : cK Try.prog Try.f3.ntmps (Try.f3.body.getD .ret) = some s := by kernel_rfl
theorem b : Try.f3.body = some (Try.f3.body.getD .ret) := by kernel_rfl
theorem r : cRV Try.prog Try.f3.results.toList = some rv := by kernel_rfl
theorem ca : Callable Try.prog 3 = true := by kernel_rfl
theorem enter {args : List SV} {F : Hp} {k nk : Nat} {Q : SV → Hp → Prop} (hargs : SV.oks (fun n => decide (n < k)) args = true) (hF : F.ok (fun n => decide (n < k)) = true) (hN : args.length ≤ 49)
    (h : SW Try.prog 49 k s ⟨argE 0 args, F, k⟩ fun e st' => match e with | .normal => Fin k nk rv Q st' | .ret => Fin k nk rv Q st' | _ => False) : SB Try.prog 3 args F k nk Q :=
  SB.of_body Try.func3 b c r ca hargs hF hN h
end law14_GossipRounds
/-! ### tranter.tranterlaw14.GossipTells -/
namespace law14_GossipTells
abbrev f : Nat := 4
def s : SCo := (.seq
(.reg [⟨(some 4), .box 28 (.t 1), none⟩,
⟨(some 5), .box 30 (.t 2), none⟩,
⟨(some 6), .mv (.k (.d (.bool false))), none⟩] (fullB 3) false)
(.seq
(.seq
(.reg [⟨(some 15), .mv (.t 0), none⟩,
⟨(some 16), .call (.k (.fn (.func 9) [] [])) [(.t 15)], none⟩] (fullB 2) false)
(.cond (.t 16)
 (.seq
 (.reg [⟨(some 17), .call (.k (.fn (.func 8) [] [])) [], none⟩,
⟨(some 6), .mv (.t 17), none⟩] (fullB 2) false)
 .ret)
 .skip))
(.seq
(.reg [⟨(some 19), .fld 0 (.t 5), none⟩,
⟨(some 20), .load none (.t 19), none⟩,
⟨(some 21), .fld 1 (.t 5), none⟩,
⟨(some 22), .load none (.t 21), none⟩,
⟨(some 23), .load (some 8) (.t 4), none⟩,
⟨(some 24), .call (.k (.fn (.func 10) [] [])) [(.t 20), (.t 22), (.t 23)], none⟩,
⟨(some 18), .mv (.t 24), none⟩,
⟨(some 25), .ext 0 (.t 18), none⟩,
⟨(some 26), .ext 1 (.t 18), none⟩,
⟨(some 7), .alloc 33 [(.d (.int .u8 0)), (.d (.int .u8 0)), (.d (.int .u8 0)), (.d (.int .u32 0)), (.d (.int .u32 0)), (.d (.int .u32 0)), (.d (.int .u32 0)), (.d (.int .u32 0)), (.d (.int .u32 0)), (.d (.int .u32 0)), (.d (.int .u32 0)), (.d .nils)], none⟩,
⟨none, .store 12 (.t 7) (.t 25), none⟩,
⟨(some 8), .mv (.t 26), none⟩] (fullB 12) false)
(.seq
 (.reg [⟨(some 28), .fld 0 (.t 5), none⟩,
⟨(some 29), .load none (.t 28), none⟩,
⟨(some 30), .fld 1 (.t 5), none⟩,
⟨(some 31), .load none (.t 30), none⟩,
⟨(some 32), .load (some 8) (.t 4), none⟩,
⟨(some 33), .call (.k (.fn (.func 11) [] [])) [(.t 29), (.t 31), (.t 32)], none⟩,
⟨(some 27), .mv (.t 33), none⟩,
⟨(some 34), .ext 0 (.t 27), none⟩,
⟨(some 35), .ext 1 (.t 27), none⟩,
⟨(some 9), .alloc 33 [(.d (.int .u8 0)), (.d (.int .u8 0)), (.d (.int .u8 0)), (.d (.int .u32 0)), (.d (.int .u32 0)), (.d (.int .u32 0)), (.d (.int .u32 0)), (.d (.int .u32 0)), (.d (.int .u32 0)), (.d (.int .u32 0)), (.d (.int .u32 0)), (.d .nils)], none⟩,
⟨none, .store 12 (.t 9) (.t 34), none⟩,
⟨(some 10), .mv (.t 35), none⟩] (fullB 12) false)
 (.seq
 (.reg [⟨(some 37), .fld 0 (.t 5), none⟩,
⟨(some 38), .load none (.t 37), none⟩,
⟨(some 39), .fld 1 (.t 5), none⟩,
⟨(some 40), .load none (.t 39), none⟩,
⟨(some 41), .mv (.t 0), none⟩,
⟨(some 42), .load (some 8) (.t 4), none⟩,
⟨(some 43), .fld 2 (.t 5), none⟩,
⟨(some 44), .load none (.t 43), none⟩,
⟨(some 45), .call (.k (.fn (.func 12) [] [])) [(.t 38), (.t 40), (.t 41), (.t 42), (.t 44)], none⟩,
⟨(some 36), .mv (.t 45), none⟩,
⟨(some 46), .ext 0 (.t 36), none⟩,
⟨(some 47), .ext 1 (.t 36), none⟩,
⟨(some 11), .alloc 33 [(.d (.int .u8 0)), (.d (.int .u8 0)), (.d (.int .u8 0)), (.d (.int .u32 0)), (.d (.int .u32 0)), (.d (.int .u32 0)), (.d (.int .u32 0)), (.d (.int .u32 0)), (.d (.int .u32 0)), (.d (.int .u32 0)), (.d (.int .u32 0)), (.d .nils)], none⟩,
⟨none, .store 12 (.t 11) (.t 46), none⟩,
⟨(some 12), .mv (.t 47), none⟩] (fullB 15) false)
 (.seq
 (.reg [⟨(some 49), .fld 0 (.t 5), none⟩,
⟨(some 50), .load none (.t 49), none⟩,
⟨(some 51), .fld 1 (.t 5), none⟩,
⟨(some 52), .load none (.t 51), none⟩,
⟨(some 53), .mv (.t 0), none⟩,
⟨(some 54), .load (some 8) (.t 4), none⟩,
⟨(some 55), .fld 2 (.t 5), none⟩,
⟨(some 56), .load none (.t 55), none⟩,
⟨(some 57), .call (.k (.fn (.func 13) [] [])) [(.t 50), (.t 52), (.t 53), (.t 54), (.t 56)], none⟩,
⟨(some 48), .mv (.t 57), none⟩,
⟨(some 58), .ext 0 (.t 48), none⟩,
⟨(some 59), .ext 1 (.t 48), none⟩,
⟨(some 13), .alloc 33 [(.d (.int .u8 0)), (.d (.int .u8 0)), (.d (.int .u8 0)), (.d (.int .u32 0)), (.d (.int .u32 0)), (.d (.int .u32 0)), (.d (.int .u32 0)), (.d (.int .u32 0)), (.d (.int .u32 0)), (.d (.int .u32 0)), (.d (.int .u32 0)), (.d .nils)], none⟩,
⟨none, .store 12 (.t 13) (.t 58), none⟩,
⟨(some 14), .mv (.t 59), none⟩] (fullB 15) false)
 (.seq
 (.reg (⟨(some 60), .mv (.t 0), none⟩ ::
⟨(some 61), .load (some 8) (.t 4), none⟩ ::
⟨(some 62), .call (.k (.fn (.func 15) [] [])) [(.t 60), (.t 61)], none⟩ ::
⟨(some 63), .mv (.t 0), none⟩ ::
⟨(some 64), .load (some 8) (.t 4), none⟩ ::
⟨(some 65), .call (.k (.fn (.func 16) [] [])) [(.t 63), (.t 64)], none⟩ ::
⟨(some 66), .call (.k (.fn (.func 14) [] [])) [(.t 62), (.t 65)], none⟩ ::
⟨(some 67), .mv (.t 66), none⟩ ::
⟨(some 68), .load (some 12) (.t 7), some (67, true)⟩ ::
⟨(some 69), .load (some 12) (.t 9), some (67, true)⟩ ::
⟨(some 70), .call (.k (.fn (.func 17) [] [])) [(.t 68), (.t 69)], some (67, true)⟩ ::
⟨(some 71), .pick (.t 67) (.t 70) (.k (.d (.bool false))), none⟩ ::
⟨(some 72), .mv (.t 71), none⟩ ::
⟨(some 73), .mv (.t 8), some (72, true)⟩ ::
⟨(some 74), .mv (.t 10), some (72, true)⟩ ::
⟨(some 75), .bin .eql (.t 73) (.t 74), some (72, true)⟩ ::
⟨(some 76), .pick (.t 72) (.t 75) (.k (.d (.bool false))), none⟩ ::
⟨(some 77), .mv (.t 76), none⟩ ::
⟨(some 78), .load (some 12) (.t 11), some (77, true)⟩ ::
⟨(some 79), .load (some 12) (.t 13), some (77, true)⟩ ::
⟨(some 80), .call (.k (.fn (.func 17) [] [])) [(.t 78), (.t 79)], some (77, true)⟩ ::
⟨(some 81), .pick (.t 77) (.t 80) (.k (.d (.bool false))), none⟩ ::
⟨(some 82), .mv (.t 81), none⟩ ::
⟨(some 83), .mv (.t 12), some (82, true)⟩ ::
⟨(some 84), .mv (.t 14), some (82, true)⟩ ::
⟨(some 85), .bin .eql (.t 83) (.t 84), some (82, true)⟩ ::
⟨(some 86), .pick (.t 82) (.t 85) (.k (.d (.bool false))), none⟩ ::
⟨(some 87), .mv (.t 86), none⟩ ::
⟨(some 88), .call (.k (.fn (.func 8) [] [])) [], some (87, true)⟩ ::
⟨(some 89), .pick (.t 87) (.t 88) (.k (.d (.bool false))), none⟩ ::
⟨(some 6), .mv (.t 89), none⟩ :: []) (0 ::
0 ::
3 ::
0 ::
0 ::
31 ::
63 ::
127 ::
255 ::
255 ::
1023 ::
2047 ::
4095 ::
8191 ::
8191 ::
32767 ::
65535 ::
131071 ::
262143 ::
262143 ::
1048575 ::
2097151 ::
4194303 ::
8388607 ::
8388607 ::
33554431 ::
67108863 ::
134217727 ::
268435455 ::
536870911 ::
1073741823 :: []) true)
 .ret)))))))
def rv : List RV := [.tmp 6]
/-! live law14_GossipTells: [0, 1, 2, 4, 5, 6, 7, 8, 9, 10, 11, 12, 13, 14, 16] -/
theorem c : cK Try.prog Try.f4.ntmps (Try.f4.body.getD .ret) = some s := by kernel_rfl
theorem b : Try.f4.body = some (Try.f4.body.getD .ret) := by kernel_rfl
theorem r : cRV Try.prog Try.f4.results.toList = some rv := by kernel_rfl
theorem ca : Callable Try.prog 4 = true := by kernel_rfl
theorem enter {args : List SV} {F : Hp} {k nk : Nat} {Q : SV → Hp → Prop} (hargs : SV.oks (fun n => decide (n < k)) args = true) (hF : F.ok (fun n => decide (n < k)) = true) (hN : args.length ≤ 90)
    (h : SW Try.prog 90 k s ⟨argE 0 args, F, k⟩ fun e st' => match e with | .normal => Fin k nk rv Q st' | .ret => Fin k nk rv Q st' | _ => False) : SB Try.prog 4 args F k nk Q :=
  SB.of_body Try.func4 b c r ca hargs hF hN h
end law14_GossipTells
/-! ### tranter.tranterlaw14.GossipParts -/
namespace law14_GossipParts
abbrev f : Nat := 5
def s : SCo := (.seq
(.reg [⟨(some 3), .box 28 (.t 1), none⟩,
⟨(some 4), .mv (.k (.d (.bool false))), none⟩] (fullB 2) false)
(.seq
(.seq
(.reg [⟨(some 11), .mv (.t 0), none⟩,
⟨(some 12), .call (.k (.fn (.func 9) [] [])) [(.t 11)], none⟩] (fullB 2) false)
(.cond (.t 12)
 (.seq
 (.reg [⟨(some 13), .call (.k (.fn (.func 8) [] [])) [], none⟩,
⟨(some 4), .mv (.t 13), none⟩] (fullB 2) false)
 .ret)
 .skip))
(.seq
(.seq
 (.reg [⟨(some 5), .mv (.k (.d (.int .i64 0))), none⟩] (fullB 1) false)
 (.block 0
 (.loop
 (.seq
 (.seq
  (.reg [⟨(some 14), .mv (.t 5), none⟩,
⟨(some 15), .mv (.t 0), none⟩,
⟨(some 16), .len (.t 15), none⟩,
⟨(some 17), .bin .lss (.t 14) (.t 16), none⟩] (fullB 4) false)
  (.cond (.t 17)
  .skip
  (.exit 0)))
 (.seq
  (.block 1
  (.seq
  (.reg (⟨(some 20), .mv (.t 0), none⟩ ::
⟨(some 21), .mv (.t 5), none⟩ ::
⟨(some 22), .idxS 29 (.t 20) (.t 21), none⟩ ::
⟨(some 23), .fld 0 (.t 22), none⟩ ::
⟨(some 24), .fld 0 (.t 23), none⟩ ::
⟨(some 25), .load none (.t 24), none⟩ ::
⟨(some 26), .bin .gtr (.t 25) (.k (.d (.int .u8 7))), none⟩ ::
⟨(some 27), .mv (.t 26), none⟩ ::
⟨(some 28), .mv (.t 0), some (27, false)⟩ ::
⟨(some 29), .mv (.t 5), some (27, false)⟩ ::
⟨(some 30), .idxS 29 (.t 28) (.t 29), some (27, false)⟩ ::
⟨(some 31), .fld 0 (.t 30), some (27, false)⟩ ::
⟨(some 32), .fld 1 (.t 31), some (27, false)⟩ ::
⟨(some 33), .load none (.t 32), some (27, false)⟩ ::
⟨(some 34), .bin .eql (.t 33) (.k (.d (.int .u32 0))), some (27, false)⟩ ::
⟨(some 35), .pick (.t 27) (.k (.d (.bool true))) (.t 34), none⟩ :: []) (fullB 16) false)
  (.cond (.t 35)
  (.seq
   (.reg [⟨(some 36), .call (.k (.fn (.func 8) [] [])) [], none⟩,
⟨(some 4), .mv (.t 36), none⟩] (fullB 2) false)
   .ret)
  .skip)))
  (.reg [⟨(some 18), .mv (.t 5), none⟩,
⟨(some 19), .bin .add (.t 18) (.k (.d (.int .i64 1))), none⟩,
⟨(some 5), .mv (.t 19), none⟩] (fullB 3) false))))))
(.seq
 (.reg [⟨(some 37), .mv (.t 0), none⟩,
⟨(some 38), .load (some 8) (.t 3), none⟩,
⟨(some 39), .call (.k (.fn (.func 15) [] [])) [(.t 37), (.t 38)], none⟩,
⟨(some 6), .mv (.t 39), none⟩] (fullB 4) false)
 (.seq
 (.seq
 (.reg [⟨(some 7), .mv (.k (.d (.int .i64 1))), none⟩] (fullB 1) false)
 (.block 2
 (.loop
  (.seq
  (.seq
  (.reg [⟨(some 40), .mv (.t 7), none⟩,
⟨(some 41), .mv (.t 6), none⟩,
⟨(some 42), .len (.t 41), none⟩,
⟨(some 43), .bin .lss (.t 40) (.t 42), none⟩] (fullB 4) false)
  (.cond (.t 43)
  .skip
  (.exit 2)))
  (.seq
  (.block 3
  (.seq
   (.reg [⟨(some 46), .mv (.t 6), none⟩,
⟨(some 47), .mv (.t 7), none⟩,
⟨(some 48), .bin .sub (.t 47) (.k (.d (.int .i64 1))), none⟩,
⟨(some 49), .idxS 29 (.t 46) (.t 48), none⟩,
⟨(some 50), .load (some 29) (.t 49), none⟩,
⟨(some 51), .mv (.t 6), none⟩,
⟨(some 52), .mv (.t 7), none⟩,
⟨(some 53), .idxS 29 (.t 51) (.t 52), none⟩,
⟨(some 54), .load (some 29) (.t 53), none⟩,
⟨(some 55), .call (.k (.fn (.func 18) [] [])) [(.t 50), (.t 54)], none⟩,
⟨(some 56), .bin .neq (.t 55) (.k (.d (.int .i64 (-1)))), none⟩] [0,
0,
2,
7,
15,
0,
0,
96,
224,
511,
1023] true)
   (.cond (.t 56)
   (.seq
   (.reg [⟨(some 4), .mv (.k (.d (.bool false))), none⟩] (fullB 1) false)
   .ret)
   .skip)))
  (.reg [⟨(some 44), .mv (.t 7), none⟩,
⟨(some 45), .bin .add (.t 44) (.k (.d (.int .i64 1))), none⟩,
⟨(some 7), .mv (.t 45), none⟩] (fullB 3) false))))))
 (.seq
 (.reg [⟨(some 57), .mv (.t 0), none⟩,
⟨(some 58), .call (.k (.fn (.func 19) [] [])) [(.t 57)], none⟩,
⟨(some 8), .mv (.t 58), none⟩] (fullB 3) false)
 (.seq
 (.reg [⟨(some 9), .mv (.k (.d (.int .i64 0))), none⟩] (fullB 1) false)
 (.seq
  (.seq
  (.reg [⟨(some 10), .mv (.k (.d (.int .i64 0))), none⟩] (fullB 1) false)
  (.block 4
  (.loop
  (.seq
   (.seq
   (.reg [⟨(some 59), .mv (.t 10), none⟩,
⟨(some 60), .mv (.t 8), none⟩,
⟨(some 61), .len (.t 60), none⟩,
⟨(some 62), .bin .lss (.t 59) (.t 61), none⟩] (fullB 4) false)
   (.cond (.t 62)
   .skip
   (.exit 4)))
   (.seq
   (.block 5
   (.seq
   (.reg (⟨(some 65), .mv (.t 8), none⟩ ::
⟨(some 66), .mv (.t 10), none⟩ ::
⟨(some 67), .idxS 29 (.t 65) (.t 66), none⟩ ::
⟨(some 68), .fld 0 (.t 67), none⟩ ::
⟨(some 69), .fld 1 (.t 68), none⟩ ::
⟨(some 70), .load none (.t 69), none⟩ ::
⟨(some 71), .mv (.t 8), none⟩ ::
⟨(some 72), .mv (.t 10), none⟩ ::
⟨(some 73), .idxS 29 (.t 71) (.t 72), none⟩ ::
⟨(some 74), .fld 0 (.t 73), none⟩ ::
⟨(some 75), .fld 0 (.t 74), none⟩ ::
⟨(some 76), .load none (.t 75), none⟩ ::
⟨(some 77), .bin .rem (.t 76) (.k (.d (.int .u8 8))), none⟩ ::
⟨(some 78), .idxA 8 1 (.t 3) (.t 77), none⟩ ::
⟨(some 79), .load none (.t 78), none⟩ ::
⟨(some 80), .bin .leq (.t 70) (.t 79), none⟩ :: []) (0 ::
0 ::
3 ::
7 ::
15 ::
31 ::
0 ::
0 ::
192 ::
448 ::
960 ::
1984 ::
4032 ::
8128 ::
16320 ::
32767 :: []) true)
   (.cond (.t 80)
    (.reg [⟨(some 81), .mv (.t 9), none⟩,
⟨(some 82), .bin .add (.t 81) (.k (.d (.int .i64 1))), none⟩,
⟨(some 9), .mv (.t 82), none⟩] (fullB 3) false)
    .skip)))
   (.reg [⟨(some 63), .mv (.t 10), none⟩,
⟨(some 64), .bin .add (.t 63) (.k (.d (.int .i64 1))), none⟩,
⟨(some 10), .mv (.t 64), none⟩] (fullB 3) false))))))
  (.seq
  (.reg (⟨(some 83), .mv (.t 6), none⟩ ::
⟨(some 84), .len (.t 83), none⟩ ::
⟨(some 85), .mv (.t 9), none⟩ ::
⟨(some 86), .bin .add (.t 84) (.t 85), none⟩ ::
⟨(some 87), .mv (.t 8), none⟩ ::
⟨(some 88), .len (.t 87), none⟩ ::
⟨(some 89), .bin .eql (.t 86) (.t 88), none⟩ ::
⟨(some 90), .mv (.t 89), none⟩ ::
⟨(some 91), .mv (.t 0), some (90, true)⟩ ::
⟨(some 92), .mv (.t 0), some (90, true)⟩ ::
⟨(some 93), .call (.k (.fn (.func 20) [] [])) [(.t 92)], some (90, true)⟩ ::
⟨(some 94), .call (.k (.fn (.func 15) [] [])) [(.t 91), (.t 93)], some (90, true)⟩ ::
⟨(some 95), .len (.t 94), some (90, true)⟩ ::
⟨(some 96), .bin .eql (.t 95) (.k (.d (.int .i64 0))), some (90, true)⟩ ::
⟨(some 97), .pick (.t 90) (.t 96) (.k (.d (.bool false))), none⟩ ::
⟨(some 98), .mv (.t 97), none⟩ ::
⟨(some 99), .mv (.t 0), some (98, true)⟩ ::
⟨(some 100), .bld [(.d (.int .u32 0)), (.d (.int .u32 0)), (.d (.int .u32 0)), (.d (.int .u32 0)), (.d (.int .u32 0)), (.d (.int .u32 0)), (.d (.int .u32 0)), (.d (.int .u32 0))] [], some (98, true)⟩ ::
⟨(some 101), .call (.k (.fn (.func 15) [] [])) [(.t 99), (.t 100)], some (98, true)⟩ ::
⟨(some 102), .len (.t 101), some (98, true)⟩ ::
⟨(some 103), .mv (.t 8), some (98, true)⟩ ::
⟨(some 104), .len (.t 103), some (98, true)⟩ ::
⟨(some 105), .bin .eql (.t 102) (.t 104), some (98, true)⟩ ::
⟨(some 106), .pick (.t 98) (.t 105) (.k (.d (.bool false))), none⟩ ::
⟨(some 107), .mv (.t 106), none⟩ ::
⟨(some 108), .mv (.t 0), some (107, true)⟩ ::
⟨(some 109), .call (.k (.fn (.func 20) [] [])) [(.t 108)], some (107, true)⟩ ::
⟨(some 110), .mv (.t 0), some (107, true)⟩ ::
⟨(some 111), .call (.k (.fn (.func 21) [] [])) [(.t 110)], some (107, true)⟩ ::
⟨(some 112), .eqv false [true, true, true, true, true, true, true, true] (.t 109) (.t 111), some (107, true)⟩ ::
⟨(some 113), .pick (.t 107) (.t 112) (.k (.d (.bool false))), none⟩ ::
⟨(some 114), .mv (.t 113), none⟩ ::
⟨(some 115), .call (.k (.fn (.func 8) [] [])) [], some (114, true)⟩ ::
⟨(some 116), .pick (.t 114) (.t 115) (.k (.d (.bool false))), none⟩ ::
⟨(some 4), .mv (.t 116), none⟩ :: []) (fullB 35) false)
  .ret)))))))))
def rv : List RV := [.tmp 4]
/-! live law14_GossipParts: [0, 1, 3, 4, 5, 6, 7, 8, 9, 10, 12, 17, 35, 43, 56, 62, 80] -/
theorem c : cK Try.prog Try.f5.ntmps (Try.f5.body.getD .ret) = some s := by kernel_rfl
theorem b : Try.f5.body = some (Try.f5.body.getD .ret) := by kernel_rfl
theorem r : cRV Try.prog Try.f5.results.toList = some rv := by kernel_rfl
theorem ca : Callable Try.prog 5 = true := by kernel_rfl
theorem enter {args : List SV} {F : Hp} {k nk : Nat} {Q : SV → Hp → Prop} (hargs : SV.oks (fun n => decide (n < k)) args = true) (hF : F.ok (fun n => decide (n < k)) = true) (hN : args.length ≤ 117)
    (h : SW Try.prog 117 k s ⟨argE 0 args, F, k⟩ fun e st' => match e with | .normal => Fin k nk rv Q st' | .ret => Fin k nk rv Q st' | _ => False) : SB Try.prog 5 args F k nk Q :=
  SB.of_body Try.func5 b c r ca hargs hF hN h
end law14_GossipParts
/-! ### tranter.gossip.Rounds -/
namespace gossip_Rounds
abbrev f : Nat := 6
def s : SCo := (.seq
(.reg [⟨(some 4), .mv (.k (.d (.int .i64 0))), none⟩] (fullB 1) false)
(.seq
(.block 0
(.seq
 (.reg [⟨(some 6), .mv (.t 0), none⟩,
⟨(some 7), .bin .leq (.t 6) (.k (.d (.int .i64 0))), none⟩,
⟨(some 5), .mv (.t 7), none⟩] (fullB 3) false)
 (.cond (.t 5)
 (.seq
 (.reg [⟨(some 4), .mv (.k (.d (.int .i64 0))), none⟩] (fullB 1) false)
 .ret)
 (.seq
 (.reg [⟨(some 9), .mv (.t 1), none⟩,
⟨(some 10), .bin .leq (.t 9) (.k (.d (.int .i64 0))), none⟩,
⟨(some 8), .mv (.t 10), none⟩] (fullB 3) false)
 (.cond (.t 8)
 (.seq
  (.reg [⟨(some 11), .mv (.t 0), none⟩,
⟨(some 4), .mv (.t 11), none⟩] (fullB 2) false)
  .ret)
 .skip)))))
(.seq
(.reg [⟨(some 12), .mv (.t 0), none⟩,
⟨(some 13), .bin .sub (.t 12) (.k (.d (.int .i64 1))), none⟩,
⟨(some 14), .mv (.t 1), none⟩,
⟨(some 15), .bin .quo (.t 13) (.t 14), none⟩,
⟨(some 16), .bin .add (.t 15) (.k (.d (.int .i64 1))), none⟩,
⟨(some 4), .mv (.t 16), none⟩] (fullB 6) false)
.ret)))
def rv : List RV := [.tmp 4]
/-! live gossip_Rounds: [0, 1, 4, 5, 8] -/
theorem c : cK Try.prog Try.f6.ntmps (Try.f6.body.getD .ret) = some s := by kernel_rfl
theorem b : Try.f6.body = some (Try.f6.body.getD .ret) := by kernel_rfl
theorem r : cRV Try.prog Try.f6.results.toList = some rv := by kernel_rfl
theorem ca : Callable Try.prog 6 = true := by kernel_rfl
theorem enter {args : List SV} {F : Hp} {k nk : Nat} {Q : SV → Hp → Prop} (hargs : SV.oks (fun n => decide (n < k)) args = true) (hF : F.ok (fun n => decide (n < k)) = true) (hN : args.length ≤ 17)
    (h : SW Try.prog 17 k s ⟨argE 0 args, F, k⟩ fun e st' => match e with | .normal => Fin k nk rv Q st' | .ret => Fin k nk rv Q st' | _ => False) : SB Try.prog 6 args F k nk Q :=
  SB.of_body Try.func6 b c r ca hargs hF hN h
end gossip_Rounds
/-! ### tranter.tranterref14.Rounds -/
namespace ref14_Rounds
abbrev f : Nat := 7
def s : SCo := (.seq
(.reg [⟨(some 4), .mv (.k (.d (.int .i64 0))), none⟩] (fullB 1) false)
(.seq
(.seq
(.reg [⟨(some 6), .mv (.t 0), none⟩,
⟨(some 7), .bin .leq (.t 6) (.k (.d (.int .i64 0))), none⟩] (fullB 2) false)
(.cond (.t 7)
 (.seq
 (.reg [⟨(some 4), .mv (.k (.d (.int .i64 0))), none⟩] (fullB 1) false)
 .ret)
 .skip))
(.seq
(.seq
 (.reg [⟨(some 8), .mv (.t 1), none⟩,
⟨(some 9), .bin .leq (.t 8) (.k (.d (.int .i64 0))), none⟩] (fullB 2) false)
 (.cond (.t 9)
 (.seq
 (.reg [⟨(some 10), .mv (.t 0), none⟩,
⟨(some 4), .mv (.t 10), none⟩] (fullB 2) false)
 .ret)
 .skip))
(.seq
 (.reg [⟨(some 11), .mv (.t 0), none⟩,
⟨(some 12), .mv (.t 1), none⟩,
⟨(some 13), .bin .quo (.t 11) (.t 12), none⟩,
⟨(some 5), .mv (.t 13), none⟩] (fullB 4) false)
 (.seq
 (.seq
 (.reg [⟨(some 14), .mv (.t 0), none⟩,
⟨(some 15), .mv (.t 1), none⟩,
⟨(some 16), .bin .rem (.t 14) (.t 15), none⟩,
⟨(some 17), .bin .gtr (.t 16) (.k (.d (.int .i64 0))), none⟩] (fullB 4) false)
 (.cond (.t 17)
 (.reg [⟨(some 18), .mv (.t 5), none⟩,
⟨(some 19), .bin .add (.t 18) (.k (.d (.int .i64 1))), none⟩,
⟨(some 5), .mv (.t 19), none⟩] (fullB 3) false)
 .skip))
 (.seq
 (.reg [⟨(some 20), .mv (.t 5), none⟩,
⟨(some 4), .mv (.t 20), none⟩] (fullB 2) false)
 .ret))))))
def rv : List RV := [.tmp 4]
/-! live ref14_Rounds: [0, 1, 4, 5, 7, 9, 17] -/
theorem c : cK Try.prog Try.f7.ntmps (Try.f7.body.getD .ret) = some s := by kernel_rfl
theorem b : Try.f7.body = some (Try.f7.body.getD .ret) := by kernel_rfl
theorem r : cRV Try.prog Try.f7.results.toList = some rv := by kernel_rfl
theorem ca : Callable Try.prog 7 = true := by kernel_rfl
theorem enter {args : List SV} {F : Hp} {k nk : Nat} {Q : SV → Hp → Prop} (hargs : SV.oks (fun n => decide (n < k)) args = true) (hF : F.ok (fun n => decide (n < k)) = true) (hN : args.length ≤ 21)
    (h : SW Try.prog 21 k s ⟨argE 0 args, F, k⟩ fun e st' => match e with | .normal => Fin k nk rv Q st' | .ret => Fin k nk rv Q st' | _ => False) : SB Try.prog 7 args F k nk Q :=
  SB.of_body Try.func7 b c r ca hargs hF hN h
end ref14_Rounds
/-! ### tranter.tranterlaw14.head -/
namespace law14_head
abbrev f : Nat := 8
def s : SCo := (.seq
(.reg [⟨(some 0), .mv (.k (.d (.bool false))), none⟩] (fullB 1) false)
(.seq
(.reg [⟨(some 8), .call (.k (.fn (.func 22) [] [])) [], none⟩,
⟨(some 1), .mv (.t 8), none⟩] (fullB 2) false)
(.seq
(.reg [⟨(some 10), .mv (.t 1), none⟩,
⟨(some 11), .bld [(.d (.int .u32 0)), (.d (.int .u32 0)), (.d (.int .u32 0)), (.d (.int .u32 0)), (.d (.int .u32 0)), (.d (.int .u32 0)), (.d (.int .u32 0)), (.d (.int .u32 0))] [], none⟩,
⟨(some 12), .call (.k (.fn (.func 12) [] [])) [(.k (.d (.int .u8 0))), (.k (.d (.int .u8 1))), (.t 10), (.t 11), (.k (.d (.int .i64 2)))], none⟩,
⟨(some 9), .mv (.t 12), none⟩,
⟨(some 13), .ext 0 (.t 9), none⟩,
⟨(some 14), .ext 1 (.t 9), none⟩,
⟨(some 2), .alloc 33 [(.d (.int .u8 0)), (.d (.int .u8 0)), (.d (.int .u8 0)), (.d (.int .u32 0)), (.d (.int .u32 0)), (.d (.int .u32 0)), (.d (.int .u32 0)), (.d (.int .u32 0)), (.d (.int .u32 0)), (.d (.int .u32 0)), (.d (.int .u32 0)), (.d .nils)], none⟩,
⟨none, .store 12 (.t 2) (.t 13), none⟩,
⟨(some 3), .mv (.t 14), none⟩] (fullB 9) false)
(.seq
 (.reg [⟨(some 16), .mv (.t 1), none⟩,
⟨(some 17), .bld [(.d (.int .u32 0)), (.d (.int .u32 0)), (.d (.int .u32 0)), (.d (.int .u32 0)), (.d (.int .u32 0)), (.d (.int .u32 0)), (.d (.int .u32 0)), (.d (.int .u32 0))] [], none⟩,
⟨(some 18), .call (.k (.fn (.func 12) [] [])) [(.k (.d (.int .u8 0))), (.k (.d (.int .u8 0))), (.t 16), (.t 17), (.k (.d (.int .i64 2)))], none⟩,
⟨(some 15), .mv (.t 18), none⟩,
⟨(some 19), .ext 0 (.t 15), none⟩,
⟨(some 20), .ext 1 (.t 15), none⟩,
⟨(some 4), .alloc 33 [(.d (.int .u8 0)), (.d (.int .u8 0)), (.d (.int .u8 0)), (.d (.int .u32 0)), (.d (.int .u32 0)), (.d (.int .u32 0)), (.d (.int .u32 0)), (.d (.int .u32 0)), (.d (.int .u32 0)), (.d (.int .u32 0)), (.d (.int .u32 0)), (.d .nils)], none⟩,
⟨none, .store 12 (.t 4) (.t 19), none⟩,
⟨(some 5), .mv (.t 20), none⟩] (fullB 9) false)
 (.seq
 (.reg [⟨(some 22), .mv (.t 1), none⟩,
⟨(some 23), .bld [(.d (.int .u32 0)), (.d (.int .u32 0)), (.d (.int .u32 0)), (.d (.int .u32 0)), (.d (.int .u32 0)), (.d (.int .u32 0)), (.d (.int .u32 0)), (.d (.int .u32 0))] [], none⟩,
⟨(some 24), .call (.k (.fn (.func 12) [] [])) [(.k (.d (.int .u8 0))), (.k (.d (.int .u8 1))), (.t 22), (.t 23), (.k (.d (.int .i64 65)))], none⟩,
⟨(some 21), .mv (.t 24), none⟩,
⟨(some 25), .ext 0 (.t 21), none⟩,
⟨(some 26), .ext 1 (.t 21), none⟩,
⟨(some 6), .alloc 33 [(.d (.int .u8 0)), (.d (.int .u8 0)), (.d (.int .u8 0)), (.d (.int .u32 0)), (.d (.int .u32 0)), (.d (.int .u32 0)), (.d (.int .u32 0)), (.d (.int .u32 0)), (.d (.int .u32 0)), (.d (.int .u32 0)), (.d (.int .u32 0)), (.d .nils)], none⟩,
⟨none, .store 12 (.t 6) (.t 25), none⟩,
⟨(some 7), .mv (.t 26), none⟩] (fullB 9) false)
 (.seq
 (.reg (⟨(some 27), .mv (.t 1), none⟩ ::
⟨(some 28), .bld [(.d (.int .u32 0)), (.d (.int .u32 0)), (.d (.int .u32 0)), (.d (.int .u32 0)), (.d (.int .u32 0)), (.d (.int .u32 0)), (.d (.int .u32 0)), (.d (.int .u32 0))] [(0, 1, (.k (.d (.int .u32 1))))], none⟩ ::
⟨(some 29), .call (.k (.fn (.func 15) [] [])) [(.t 27), (.t 28)], none⟩ ::
⟨(some 30), .mv (.t 1), none⟩ ::
⟨(some 31), .idxS 29 (.t 30) (.k (.d (.int .i64 2))), none⟩ ::
⟨(some 32), .load (some 29) (.t 31), none⟩ ::
⟨(some 33), .mv (.t 1), none⟩ ::
⟨(some 34), .idxS 29 (.t 33) (.k (.d (.int .i64 0))), none⟩ ::
⟨(some 35), .load (some 29) (.t 34), none⟩ ::
⟨(some 36), .bsl 50 29 2 [(.d (.int .u8 0)), (.d (.int .u32 0)), (.d (.int .u32 0)), (.d (.int .u32 0)), (.d (.int .u32 0)), (.d (.int .u32 0)), (.d (.int .u32 0)), (.d (.int .u32 0)), (.d (.int .u32 0)), (.d (.int .u32 0)), (.d (.int .u64 0)), (.d (.int .u32 0)), (.d (.int .u8 0)), (.d (.int .u32 0)), (.d (.int .u8 0)), (.d (.int .u8 0)), (.d (.int .u32 0)), (.d (.int .u32 0)), (.d (.int .u8 0)), (.d (.int .u8 0)), (.d (.int .u64 0)), (.d (.int .u8 0)), (.d (.int .u32 0)), (.d (.int .u8 0)), (.d (.int .u32 0)), (.d (.int .u32 0)), (.d (.int .u32 0)), (.d (.int .u32 0)), (.d .nils), (.d (.int .u8 0)), (.d (.int .u32 0)), (.d (.int .u32 0)), (.d (.int .u32 0)), (.d (.int .u32 0)), (.d (.int .u32 0)), (.d (.int .u32 0)), (.d (.int .u32 0)), (.d (.int .u32 0)), (.d (.int .u32 0)), (.d (.int .u64 0)), (.d (.int .u32 0)), (.d (.int .u8 0)), (.d (.int .u32 0)), (.d (.int .u8 0)), (.d (.int .u8 0)), (.d (.int .u32 0)), (.d (.int .u32 0)), (.d (.int .u8 0)), (.d (.int .u8 0)), (.d (.int .u64 0)), (.d (.int .u8 0)), (.d (.int .u32 0)), (.d (.int .u8 0)), (.d (.int .u32 0)), (.d (.int .u32 0)), (.d (.int .u32 0)), (.d (.int .u32 0)), (.d .nils)] [(0, 29, (.t 32)), (29, 29, (.t 35))], none⟩ ::
⟨(some 37), .call (.k (.fn (.func 14) [] [])) [(.t 29), (.t 36)], none⟩ ::
⟨(some 38), .mv (.t 37), none⟩ ::
⟨(some 39), .mv (.t 1), some (38, true)⟩ ::
⟨(some 40), .bld [(.d (.int .u32 0)), (.d (.int .u32 0)), (.d (.int .u32 0)), (.d (.int .u32 0)), (.d (.int .u32 0)), (.d (.int .u32 0)), (.d (.int .u32 0)), (.d (.int .u32 0))] [(0, 1, (.k (.d (.int .u32 2)))), (1, 1, (.k (.d (.int .u32 1))))], some (38, true)⟩ ::
⟨(some 41), .call (.k (.fn (.func 15) [] [])) [(.t 39), (.t 40)], some (38, true)⟩ ::
⟨(some 42), .len (.t 41), some (38, true)⟩ ::
⟨(some 43), .bin .eql (.t 42) (.k (.d (.int .i64 0))), some (38, true)⟩ ::
⟨(some 44), .pick (.t 38) (.t 43) (.k (.d (.bool false))), none⟩ ::
⟨(some 45), .mv (.t 44), none⟩ ::
⟨(some 46), .mv (.t 3), some (45, true)⟩ ::
⟨(some 47), .bin .eql (.t 46) (.k (.d (.int .i64 0))), some (45, true)⟩ ::
⟨(some 48), .pick (.t 45) (.t 47) (.k (.d (.bool false))), none⟩ ::
⟨(some 49), .mv (.t 48), none⟩ ::
⟨(some 50), .load (some 12) (.t 2), some (49, true)⟩ ::
⟨(some 51), .bld [(.d (.int .u32 0)), (.d (.int .u32 0)), (.d (.int .u32 0)), (.d (.int .u32 0)), (.d (.int .u32 0)), (.d (.int .u32 0)), (.d (.int .u32 0)), (.d (.int .u32 0))] [(0, 1, (.k (.d (.int .u32 2)))), (1, 1, (.k (.d (.int .u32 1))))], some (49, true)⟩ ::
⟨(some 52), .mv (.t 1), some (49, true)⟩ ::
⟨(some 53), .slc 29 (.t 52) (some (.k (.d (.int .i64 1)))) none, some (49, true)⟩ ::
⟨(some 54), .bld [(.d (.int .u8 0)), (.d (.int .u8 0)), (.d (.int .u8 0)), (.d (.int .u32 0)), (.d (.int .u32 0)), (.d (.int .u32 0)), (.d (.int .u32 0)), (.d (.int .u32 0)), (.d (.int .u32 0)), (.d (.int .u32 0)), (.d (.int .u32 0)), (.d .nils)] [(0, 1, (.k (.d (.int .u8 1)))), (2, 1, (.k (.d (.int .u8 1)))), (3, 8, (.t 51)), (11, 1, (.t 53))], some (49, true)⟩ ::
⟨(some 55), .call (.k (.fn (.func 17) [] [])) [(.t 50), (.t 54)], some (49, true)⟩ ::
⟨(some 56), .pick (.t 49) (.t 55) (.k (.d (.bool false))), none⟩ ::
⟨(some 57), .mv (.t 56), none⟩ ::
⟨(some 58), .mv (.t 5), some (57, true)⟩ ::
⟨(some 59), .bin .eql (.t 58) (.k (.d (.int .i64 2))), some (57, true)⟩ ::
⟨(some 60), .pick (.t 57) (.t 59) (.k (.d (.bool false))), none⟩ ::
⟨(some 61), .mv (.t 60), none⟩ ::
⟨(some 62), .mv (.t 7), some (61, true)⟩ ::
⟨(some 63), .bin .eql (.t 62) (.k (.d (.int .i64 2))), some (61, true)⟩ ::
⟨(some 64), .pick (.t 61) (.t 63) (.k (.d (.bool false))), none⟩ ::
⟨(some 65), .mv (.t 64), none⟩ ::
⟨(some 66), .call (.k (.fn (.func 6) [] [])) [(.k (.d (.int .i64 5))), (.k (.d (.int .i64 2)))], some (65, true)⟩ ::
⟨(some 67), .bin .eql (.t 66) (.k (.d (.int .i64 3))), some (65, true)⟩ ::
⟨(some 68), .pick (.t 65) (.t 67) (.k (.d (.bool false))), none⟩ ::
⟨(some 69), .mv (.t 68), none⟩ ::
⟨(some 70), .call (.k (.fn (.func 6) [] [])) [(.k (.d (.int .i64 4))), (.k (.d (.int .i64 2)))], some (69, true)⟩ ::
⟨(some 71), .bin .eql (.t 70) (.k (.d (.int .i64 2))), some (69, true)⟩ ::
⟨(some 72), .pick (.t 69) (.t 71) (.k (.d (.bool false))), none⟩ ::
⟨(some 73), .mv (.t 72), none⟩ ::
⟨(some 74), .call (.k (.fn (.func 6) [] [])) [(.k (.d (.int .i64 (-1)))), (.k (.d (.int .i64 2)))], some (73, true)⟩ ::
⟨(some 75), .bin .eql (.t 74) (.k (.d (.int .i64 0))), some (73, true)⟩ ::
⟨(some 76), .pick (.t 73) (.t 75) (.k (.d (.bool false))), none⟩ ::
⟨(some 77), .mv (.t 76), none⟩ ::
⟨(some 78), .call (.k (.fn (.func 6) [] [])) [(.k (.d (.int .i64 3))), (.k (.d (.int .i64 0)))], some (77, true)⟩ ::
⟨(some 79), .bin .eql (.t 78) (.k (.d (.int .i64 3))), some (77, true)⟩ ::
⟨(some 80), .pick (.t 77) (.t 79) (.k (.d (.bool false))), none⟩ ::
⟨(some 0), .mv (.t 80), none⟩ :: []) (0 ::
0 ::
3 ::
0 ::
8 ::
24 ::
0 ::
64 ::
192 ::
504 ::
1023 ::
2047 ::
4095 ::
4095 ::
16383 ::
32767 ::
65535 ::
131071 ::
262143 ::
524287 ::
1048575 ::
2097151 ::
4194303 ::
8388607 ::
8388607 ::
8388607 ::
41943039 ::
125829119 ::
268435455 ::
536870911 ::
1073741823 ::
2147483647 ::
4294967295 ::
8589934591 ::
17179869183 ::
34359738367 ::
68719476735 ::
137438953471 ::
274877906943 ::
549755813887 ::
1099511627775 ::
2199023255551 ::
4398046511103 ::
8796093022207 ::
17592186044415 ::
35184372088831 ::
70368744177663 ::
140737488355327 ::
281474976710655 ::
562949953421311 ::
1125899906842623 ::
2251799813685247 ::
4503599627370495 ::
9007199254740991 ::
18014398509481983 :: []) true)
 .ret))))))
def rv : List RV := [.tmp 0]
/-! live law14_head: [0, 1, 2, 3, 5, 7] -/
theorem c : cK Try.prog Try.f8.ntmps (Try.f8.body.getD .ret) = some s := by kernel_rfl
theorem b : Try.f8.body = some (Try.f8.body.getD .ret) := by kernel_rfl
theorem r : cRV Try.prog Try.f8.results.toList = some rv := by kernel_rfl
theorem ca : Callable Try.prog 8 = true := by kernel_rfl
theorem enter {args : List SV} {F : Hp} {k nk : Nat} {Q : SV → Hp → Prop} (hargs : SV.oks (fun n => decide (n < k)) args = true) (hF : F.ok (fun n => decide (n < k)) = true) (hN : args.length ≤ 81)
    (h : SW Try.prog 81 k s ⟨argE 0 args, F, k⟩ fun e st' => match e with | .normal => Fin k nk rv Q st' | .ret => Fin k nk rv Q st' | _ => False) : SB Try.prog 8 args F k nk Q :=
  SB.of_body Try.func8 b c r ca hargs hF hN h
end law14_head
/-! ### tranter.tranterlaw14.great -/
namespace law14_great
abbrev f : Nat := 9
def s : SCo := (.seq
(.reg [⟨(some 2), .mv (.k (.d (.bool false))), none⟩] (fullB 1) false)
(.seq
(.reg [⟨(some 3), .mv (.k (.d (.int .i64 0))), none⟩] (fullB 1) false)
(.seq
(.seq
 (.reg [⟨(some 4), .mv (.k (.d (.int .i64 0))), none⟩] (fullB 1) false)
 (.block 0
 (.loop
 (.seq
 (.seq
  (.reg [⟨(some 5), .mv (.t 4), none⟩,
⟨(some 6), .mv (.t 0), none⟩,
⟨(some 7), .len (.t 6), none⟩,
⟨(some 8), .bin .lss (.t 5) (.t 7), none⟩] (fullB 4) false)
  (.cond (.t 8)
  .skip
  (.exit 0)))
 (.seq
  (.block 1
  (.reg [⟨(some 11), .mv (.t 3), none⟩,
⟨(some 12), .mv (.t 0), none⟩,
⟨(some 13), .mv (.t 4), none⟩,
⟨(some 14), .idxS 29 (.t 12) (.t 13), none⟩,
⟨(some 15), .fld 28 (.t 14), none⟩,
⟨(some 16), .load none (.t 15), none⟩,
⟨(some 17), .len (.t 16), none⟩,
⟨(some 18), .bin .add (.t 11) (.t 17), none⟩,
⟨(some 3), .mv (.t 18), none⟩] (fullB 9) false))
  (.reg [⟨(some 9), .mv (.t 4), none⟩,
⟨(some 10), .bin .add (.t 9) (.k (.d (.int .i64 1))), none⟩,
⟨(some 4), .mv (.t 10), none⟩] (fullB 3) false))))))
(.seq
 (.reg [⟨(some 19), .mv (.t 0), none⟩,
⟨(some 20), .len (.t 19), none⟩,
⟨(some 21), .bin .gtr (.t 20) (.k (.d (.int .i64 120))), none⟩,
⟨(some 22), .mv (.t 21), none⟩,
⟨(some 23), .mv (.t 3), some (22, false)⟩,
⟨(some 24), .bin .gtr (.t 23) (.k (.d (.int .i64 300))), some (22, false)⟩,
⟨(some 25), .pick (.t 22) (.k (.d (.bool true))) (.t 24), none⟩,
⟨(some 2), .mv (.t 25), none⟩] (fullB 8) false)
 .ret))))
def rv : List RV := [.tmp 2]
/-! live law14_great: [0, 2, 3, 4, 8] -/
theorem c : cK Try.prog Try.f9.ntmps (Try.f9.body.getD .ret) = some s := by kernel_rfl
theorem b : Try.f9.body = some (Try.f9.body.getD .ret) := by kernel_rfl
theorem r : cRV Try.prog Try.f9.results.toList = some rv := by kernel_rfl
theorem ca : Callable Try.prog 9 = true := by kernel_rfl
theorem enter {args : List SV} {F : Hp} {k nk : Nat} {Q : SV → Hp → Prop} (hargs : SV.oks (fun n => decide (n < k)) args = true) (hF : F.ok (fun n => decide (n < k)) = true) (hN : args.length ≤ 26)
    (h : SW Try.prog 26 k s ⟨argE 0 args, F, k⟩ fun e st' => match e with | .normal => Fin k nk rv Q st' | .ret => Fin k nk rv Q st' | _ => False) : SB Try.prog 9 args F k nk Q :=
  SB.of_body Try.func9 b c r ca hargs hF hN h
end law14_great
/-! ### tranter.gossip.Digest -/
namespace gossip_Digest
abbrev f : Nat := 10
def s : SCo := (.seq
(.reg [⟨(some 5), .box 28 (.t 2), none⟩,
⟨(some 6), .alloc 33 [(.d (.int .u8 0)), (.d (.int .u8 0)), (.d (.int .u8 0)), (.d (.int .u32 0)), (.d (.int .u32 0)), (.d (.int .u32 0)), (.d (.int .u32 0)), (.d (.int .u32 0)), (.d (.int .u32 0)), (.d (.int .u32 0)), (.d (.int .u32 0)), (.d .nils)], none⟩,
⟨(some 7), .mv (.k (.d (.int .i64 0))), none⟩] (fullB 3) false)
(.seq
(.reg [⟨(some 8), .mv (.t 0), none⟩,
⟨(some 9), .mv (.t 1), none⟩,
⟨(some 10), .load (some 8) (.t 5), none⟩,
⟨(some 11), .bld [(.d (.int .u8 0)), (.d (.int .u8 0)), (.d (.int .u8 0)), (.d (.int .u32 0)), (.d (.int .u32 0)), (.d (.int .u32 0)), (.d (.int .u32 0)), (.d (.int .u32 0)), (.d (.int .u32 0)), (.d (.int .u32 0)), (.d (.int .u32 0)), (.d .nils)] [(0, 1, (.k (.d (.int .u8 0)))), (1, 1, (.t 8)), (2, 1, (.t 9)), (3, 8, (.t 10))], none⟩,
⟨(some 12), .call (.k (.fn (.func 23) [] [])) [(.t 11), (.k (.d (.int .i64 2)))], none⟩,
⟨(some 13), .ext 0 (.t 12), none⟩,
⟨(some 14), .ext 1 (.t 12), none⟩,
⟨none, .store 12 (.t 6) (.t 13), none⟩,
⟨(some 7), .mv (.t 14), none⟩] (fullB 9) false)
.ret))
def rv : List RV := [.cell 6 (some 12), .tmp 7]
/-! live gossip_Digest: [0, 1, 2, 5, 6, 7] -/
theorem c : cK Try.prog Try.f10.ntmps (Try.f10.body.getD .ret) = some s := by kernel_rfl
theorem b : Try.f10.body = some (Try.f10.body.getD .ret) := by kernel_rfl
theorem r : cRV Try.prog Try.f10.results.toList = some rv := by kernel_rfl
theorem ca : Callable Try.prog 10 = true := by kernel_rfl
theorem enter {args : List SV} {F : Hp} {k nk : Nat} {Q : SV → Hp → Prop} (hargs : SV.oks (fun n => decide (n < k)) args = true) (hF : F.ok (fun n => decide (n < k)) = true) (hN : args.length ≤ 15)
    (h : SW Try.prog 15 k s ⟨argE 0 args, F, k⟩ fun e st' => match e with | .normal => Fin k nk rv Q st' | .ret => Fin k nk rv Q st' | _ => False) : SB Try.prog 10 args F k nk Q :=
  SB.of_body Try.func10 b c r ca hargs hF hN h
end gossip_Digest
/-! ### tranter.tranterref14.Digest -/
namespace ref14_Digest
abbrev f : Nat := 11
def s : SCo := (.seq
(.reg [⟨(some 5), .box 28 (.t 2), none⟩,
⟨(some 6), .alloc 33 [(.d (.int .u8 0)), (.d (.int .u8 0)), (.d (.int .u8 0)), (.d (.int .u32 0)), (.d (.int .u32 0)), (.d (.int .u32 0)), (.d (.int .u32 0)), (.d (.int .u32 0)), (.d (.int .u32 0)), (.d (.int .u32 0)), (.d (.int .u32 0)), (.d .nils)], none⟩,
⟨(some 7), .mv (.k (.d (.int .i64 0))), none⟩] (fullB 3) false)
(.seq
(.reg [⟨(some 9), .mv (.t 0), none⟩,
⟨(some 10), .mv (.t 1), none⟩,
⟨(some 11), .load (some 8) (.t 5), none⟩,
⟨(some 12), .bld [(.d (.int .u8 0)), (.d (.int .u8 0)), (.d (.int .u8 0)), (.d (.int .u32 0)), (.d (.int .u32 0)), (.d (.int .u32 0)), (.d (.int .u32 0)), (.d (.int .u32 0)), (.d (.int .u32 0)), (.d (.int .u32 0)), (.d (.int .u32 0)), (.d .nils)] [(1, 1, (.t 9)), (2, 1, (.t 10)), (3, 8, (.t 11))], none⟩,
⟨(some 8), .alloc 33 [(.d (.int .u8 0)), (.d (.int .u8 0)), (.d (.int .u8 0)), (.d (.int .u32 0)), (.d (.int .u32 0)), (.d (.int .u32 0)), (.d (.int .u32 0)), (.d (.int .u32 0)), (.d (.int .u32 0)), (.d (.int .u32 0)), (.d (.int .u32 0)), (.d .nils)], none⟩,
⟨none, .store 12 (.t 8) (.t 12), none⟩] (fullB 6) false)
(.seq
(.seq
 (.reg [⟨(some 13), .load (some 12) (.t 8), none⟩,
⟨(some 14), .call (.k (.fn (.func 24) [] [])) [(.t 13)], none⟩,
⟨(some 15), .not (.t 14), none⟩] (fullB 3) false)
 (.cond (.t 15)
 (.seq
 (.reg [⟨(some 16), .bld [(.d (.int .u8 0)), (.d (.int .u8 0)), (.d (.int .u8 0)), (.d (.int .u32 0)), (.d (.int .u32 0)), (.d (.int .u32 0)), (.d (.int .u32 0)), (.d (.int .u32 0)), (.d (.int .u32 0)), (.d (.int .u32 0)), (.d (.int .u32 0)), (.d .nils)] [], none⟩,
⟨none, .store 12 (.t 6) (.t 16), none⟩,
⟨(some 7), .mv (.k (.d (.int .i64 2))), none⟩] (fullB 3) false)
 .ret)
 .skip))
(.seq
 (.reg [⟨(some 17), .load (some 12) (.t 8), none⟩,
⟨none, .store 12 (.t 6) (.t 17), none⟩,
⟨(some 7), .mv (.k (.d (.int .i64 0))), none⟩] (fullB 3) false)
 .ret))))
def rv : List RV := [.cell 6 (some 12), .tmp 7]
/-! live ref14_Digest: [0, 1, 2, 5, 6, 7, 8, 15] -/
theorem c : cK Try.prog Try.f11.ntmps (Try.f11.body.getD .ret) = some s := by kernel_rfl
theorem b : Try.f11.body = some (Try.f11.body.getD .ret) := by kernel_rfl
theorem r : cRV Try.prog Try.f11.results.toList = some rv := by kernel_rfl
theorem ca : Callable Try.prog 11 = true := by kernel_rfl
theorem enter {args : List SV} {F : Hp} {k nk : Nat} {Q : SV → Hp → Prop} (hargs : SV.oks (fun n => decide (n < k)) args = true) (hF : F.ok (fun n => decide (n < k)) = true) (hN : args.length ≤ 18)
    (h : SW Try.prog 18 k s ⟨argE 0 args, F, k⟩ fun e st' => match e with | .normal => Fin k nk rv Q st' | .ret => Fin k nk rv Q st' | _ => False) : SB Try.prog 11 args F k nk Q :=
  SB.of_body Try.func11 b c r ca hargs hF hN h
end ref14_Digest
/-! ### tranter.gossip.Delta -/
namespace gossip_Delta
abbrev f : Nat := 12
def s : SCo := (.seq
(.reg [⟨(some 8), .box 28 (.t 3), none⟩,
⟨(some 9), .box 3 (.t 4), none⟩,
⟨(some 10), .alloc 33 [(.d (.int .u8 0)), (.d (.int .u8 0)), (.d (.int .u8 0)), (.d (.int .u32 0)), (.d (.int .u32 0)), (.d (.int .u32 0)), (.d (.int .u32 0)), (.d (.int .u32 0)), (.d (.int .u32 0)), (.d (.int .u32 0)), (.d (.int .u32 0)), (.d .nils)], none⟩,
⟨(some 11), .mv (.k (.d (.int .i64 0))), none⟩] (fullB 4) false)
(.seq
(.reg [⟨(some 16), .mv (.t 0), none⟩,
⟨(some 17), .mv (.t 1), none⟩,
⟨(some 18), .mv (.t 2), none⟩,
⟨(some 19), .call (.k (.fn (.func 20) [] [])) [(.t 18)], none⟩,
⟨(some 20), .bld [(.d (.int .u8 0)), (.d (.int .u8 0)), (.d (.int .u8 0)), (.d (.int .u32 0)), (.d (.int .u32 0)), (.d (.int .u32 0)), (.d (.int .u32 0)), (.d (.int .u32 0)), (.d (.int .u32 0)), (.d (.int .u32 0)), (.d (.int .u32 0)), (.d .nils)] [(0, 1, (.k (.d (.int .u8 1)))), (1, 1, (.t 16)), (2, 1, (.t 17)), (3, 8, (.t 19))], none⟩,
⟨(some 21), .call (.k (.fn (.func 23) [] [])) [(.t 20), (.k (.d (.int .i64 2)))], none⟩,
⟨(some 15), .mv (.t 21), none⟩,
⟨(some 22), .ext 0 (.t 15), none⟩,
⟨(some 23), .ext 1 (.t 15), none⟩,
⟨(some 12), .alloc 33 [(.d (.int .u8 0)), (.d (.int .u8 0)), (.d (.int .u8 0)), (.d (.int .u32 0)), (.d (.int .u32 0)), (.d (.int .u32 0)), (.d (.int .u32 0)), (.d (.int .u32 0)), (.d (.int .u32 0)), (.d (.int .u32 0)), (.d (.int .u32 0)), (.d .nils)], none⟩,
⟨none, .store 12 (.t 12) (.t 22), none⟩,
⟨(some 13), .mv (.t 23), none⟩] (fullB 12) false)
(.seq
(.block 0
 (.seq
 (.reg [⟨(some 25), .mv (.t 13), none⟩,
⟨(some 26), .bin .neq (.t 25) (.k (.d (.int .i64 0))), none⟩,
⟨(some 24), .mv (.t 26), none⟩] (fullB 3) false)
 (.cond (.t 24)
 (.seq
 (.reg [⟨(some 27), .load (some 12) (.t 12), none⟩,
⟨(some 28), .mv (.t 13), none⟩,
⟨none, .store 12 (.t 10) (.t 27), none⟩,
⟨(some 11), .mv (.t 28), none⟩] (fullB 4) false)
 .ret)
 (.seq
 (.reg [⟨(some 30), .load none (.t 9), none⟩,
⟨(some 31), .bin .lss (.t 30) (.k (.d (.int .i64 1))), none⟩,
⟨(some 32), .mv (.t 31), none⟩,
⟨(some 33), .load none (.t 9), some (32, false)⟩,
⟨(some 34), .bin .gtr (.t 33) (.k (.d (.int .i64 64))), some (32, false)⟩,
⟨(some 35), .pick (.t 32) (.k (.d (.bool true))) (.t 34), none⟩,
⟨(some 29), .mv (.t 35), none⟩] (fullB 7) false)
 (.cond (.t 29)
  (.seq
  (.reg [⟨(some 36), .bld [(.d (.int .u8 0)), (.d (.int .u8 0)), (.d (.int .u8 0)), (.d (.int .u32 0)), (.d (.int .u32 0)), (.d (.int .u32 0)), (.d (.int .u32 0)), (.d (.int .u32 0)), (.d (.int .u32 0)), (.d (.int .u32 0)), (.d (.int .u32 0)), (.d .nils)] [], none⟩,
⟨none, .store 12 (.t 10) (.t 36), none⟩,
⟨(some 11), .mv (.k (.d (.int .i64 2))), none⟩] (fullB 3) false)
  .ret)
  .skip)))))
(.seq
 (.seq
 (.reg [⟨(some 37), .mv (.t 2), none⟩,
⟨(some 38), .load (some 8) (.t 8), none⟩,
⟨(some 39), .call (.k (.fn (.func 25) [] [])) [(.t 37), (.t 38)], none⟩] (fullB 3) false)
 (.block 1
 (.rfun (.t 39) [40]
 (.reg [⟨(some 14), .alloc 50 [(.d (.int .u8 0)), (.d (.int .u32 0)), (.d (.int .u32 0)), (.d (.int .u32 0)), (.d (.int .u32 0)), (.d (.int .u32 0)), (.d (.int .u32 0)), (.d (.int .u32 0)), (.d (.int .u32 0)), (.d (.int .u32 0)), (.d (.int .u64 0)), (.d (.int .u32 0)), (.d (.int .u8 0)), (.d (.int .u32 0)), (.d (.int .u8 0)), (.d (.int .u8 0)), (.d (.int .u32 0)), (.d (.int .u32 0)), (.d (.int .u8 0)), (.d (.int .u8 0)), (.d (.int .u64 0)), (.d (.int .u8 0)), (.d (.int .u32 0)), (.d (.int .u8 0)), (.d (.int .u32 0)), (.d (.int .u32 0)), (.d (.int .u32 0)), (.d (.int .u32 0)), (.d .nils)], none⟩,
⟨none, .store 29 (.t 14) (.t 40), none⟩] (fullB 2) false)
 (.block 2
  (.seq
  (.seq
  (.reg [⟨(some 41), .fld 11 (.t 12), none⟩,
⟨(some 42), .load none (.t 41), none⟩,
⟨(some 43), .len (.t 42), none⟩,
⟨(some 44), .load none (.t 9), none⟩,
⟨(some 45), .bin .eql (.t 43) (.t 44), none⟩] (fullB 5) false)
  (.cond (.t 45)
  (.exit 1)
  .skip))
  (.reg [⟨(some 46), .fld 11 (.t 12), none⟩,
⟨(some 47), .load none (.t 46), none⟩,
⟨(some 48), .load (some 29) (.t 14), none⟩,
⟨(some 49), .bsl 50 29 1 [(.d (.int .u8 0)), (.d (.int .u32 0)), (.d (.int .u32 0)), (.d (.int .u32 0)), (.d (.int .u32 0)), (.d (.int .u32 0)), (.d (.int .u32 0)), (.d (.int .u32 0)), (.d (.int .u32 0)), (.d (.int .u32 0)), (.d (.int .u64 0)), (.d (.int .u32 0)), (.d (.int .u8 0)), (.d (.int .u32 0)), (.d (.int .u8 0)), (.d (.int .u8 0)), (.d (.int .u32 0)), (.d (.int .u32 0)), (.d (.int .u8 0)), (.d (.int .u8 0)), (.d (.int .u64 0)), (.d (.int .u8 0)), (.d (.int .u32 0)), (.d (.int .u8 0)), (.d (.int .u32 0)), (.d (.int .u32 0)), (.d (.int .u32 0)), (.d (.int .u32 0)), (.d .nils)] [(0, 29, (.t 48))], none⟩,
⟨(some 50), .app 50 29 144 (.t 47) (.t 49), none⟩,
⟨(some 51), .fld 11 (.t 12), none⟩,
⟨none, .store 1 (.t 51) (.t 50), none⟩] (fullB 7) false))))))
 (.seq
 (.reg [⟨(some 52), .load (some 12) (.t 12), none⟩,
⟨(some 53), .call (.k (.fn (.func 23) [] [])) [(.t 52), (.k (.d (.int .i64 3)))], none⟩,
⟨(some 54), .ext 0 (.t 53), none⟩,
⟨(some 55), .ext 1 (.t 53), none⟩,
⟨none, .store 12 (.t 10) (.t 54), none⟩,
⟨(some 11), .mv (.t 55), none⟩] (fullB 6) false)
 .ret)))))
def rv : List RV := [.cell 10 (some 12), .tmp 11]
/-! live gossip_Delta: [0, 1, 2, 3, 4, 8, 9, 10, 11, 12, 13, 14, 24, 29, 39, 40, 45] -/
theorem c : cK Try.prog Try.f12.ntmps (Try.f12.body.getD .ret) = some s := by kernel_rfl
theorem b : Try.f12.body = some (Try.f12.body.getD .ret) := by kernel_rfl
theorem r : cRV Try.prog Try.f12.results.toList = some rv := by kernel_rfl
theorem ca : Callable Try.prog 12 = true := by kernel_rfl
theorem enter {args : List SV} {F : Hp} {k nk : Nat} {Q : SV → Hp → Prop} (hargs : SV.oks (fun n => decide (n < k)) args = true) (hF : F.ok (fun n => decide (n < k)) = true) (hN : args.length ≤ 56)
    (h : SW Try.prog 56 k s ⟨argE 0 args, F, k⟩ fun e st' => match e with | .normal => Fin k nk rv Q st' | .ret => Fin k nk rv Q st' | _ => False) : SB Try.prog 12 args F k nk Q :=
  SB.of_body Try.func12 b c r ca hargs hF hN h
end gossip_Delta
/-! ### tranter.tranterref14.Delta -/
namespace ref14_Delta
abbrev f : Nat := 13
def s : SCo := (.seq
(.reg [⟨(some 8), .box 28 (.t 3), none⟩,
⟨(some 10), .alloc 33 [(.d (.int .u8 0)), (.d (.int .u8 0)), (.d (.int .u8 0)), (.d (.int .u32 0)), (.d (.int .u32 0)), (.d (.int .u32 0)), (.d (.int .u32 0)), (.d (.int .u32 0)), (.d (.int .u32 0)), (.d (.int .u32 0)), (.d (.int .u32 0)), (.d .nils)], none⟩,
⟨(some 11), .mv (.k (.d (.int .i64 0))), none⟩] (fullB 3) false)
(.seq
(.reg [⟨(some 14), .mv (.t 0), none⟩,
⟨(some 15), .mv (.t 1), none⟩,
⟨(some 16), .mv (.t 2), none⟩,
⟨(some 17), .call (.k (.fn (.func 21) [] [])) [(.t 16)], none⟩,
⟨(some 18), .bld [(.d (.int .u8 0)), (.d (.int .u8 0)), (.d (.int .u8 0)), (.d (.int .u32 0)), (.d (.int .u32 0)), (.d (.int .u32 0)), (.d (.int .u32 0)), (.d (.int .u32 0)), (.d (.int .u32 0)), (.d (.int .u32 0)), (.d (.int .u32 0)), (.d .nils)] [(0, 1, (.k (.d (.int .u8 1)))), (1, 1, (.t 14)), (2, 1, (.t 15)), (3, 8, (.t 17))], none⟩,
⟨(some 12), .alloc 33 [(.d (.int .u8 0)), (.d (.int .u8 0)), (.d (.int .u8 0)), (.d (.int .u32 0)), (.d (.int .u32 0)), (.d (.int .u32 0)), (.d (.int .u32 0)), (.d (.int .u32 0)), (.d (.int .u32 0)), (.d (.int .u32 0)), (.d (.int .u32 0)), (.d .nils)], none⟩,
⟨none, .store 12 (.t 12) (.t 18), none⟩] (fullB 7) false)
(.seq
(.seq
 (.reg [⟨(some 19), .load (some 12) (.t 12), none⟩,
⟨(some 20), .call (.k (.fn (.func 24) [] [])) [(.t 19)], none⟩,
⟨(some 21), .not (.t 20), none⟩,
⟨(some 22), .mv (.t 21), none⟩,
⟨(some 23), .mv (.t 4), some (22, false)⟩,
⟨(some 24), .bin .lss (.t 23) (.k (.d (.int .i64 1))), some (22, false)⟩,
⟨(some 25), .pick (.t 22) (.k (.d (.bool true))) (.t 24), none⟩,
⟨(some 26), .mv (.t 25), none⟩,
⟨(some 27), .mv (.t 4), some (26, false)⟩,
⟨(some 28), .bin .gtr (.t 27) (.k (.d (.int .i64 64))), some (26, false)⟩,
⟨(some 29), .pick (.t 26) (.k (.d (.bool true))) (.t 28), none⟩] (fullB 11) false)
 (.cond (.t 29)
 (.seq
 (.reg [⟨(some 30), .bld [(.d (.int .u8 0)), (.d (.int .u8 0)), (.d (.int .u8 0)), (.d (.int .u32 0)), (.d (.int .u32 0)), (.d (.int .u32 0)), (.d (.int .u32 0)), (.d (.int .u32 0)), (.d (.int .u32 0)), (.d (.int .u32 0)), (.d (.int .u32 0)), (.d .nils)] [], none⟩,
⟨none, .store 12 (.t 10) (.t 30), none⟩,
⟨(some 11), .mv (.k (.d (.int .i64 2))), none⟩] (fullB 3) false)
 .ret)
 .skip))
(.seq
 (.reg [⟨(some 31), .mv (.t 2), none⟩,
⟨(some 32), .load (some 8) (.t 8), none⟩,
⟨(some 33), .call (.k (.fn (.func 16) [] [])) [(.t 31), (.t 32)], none⟩,
⟨(some 13), .mv (.t 33), none⟩] (fullB 4) false)
 (.seq
 (.reg [⟨(some 34), .mv (.t 13), none⟩,
⟨(some 35), .mv (.t 13), none⟩,
⟨(some 36), .len (.t 35), none⟩,
⟨(some 37), .mv (.t 4), none⟩,
⟨(some 38), .mn (.t 36) (.t 37), none⟩,
⟨(some 39), .slc 29 (.t 34) none (some (.t 38)), none⟩,
⟨(some 40), .fld 11 (.t 12), none⟩,
⟨none, .store 1 (.t 40) (.t 39), none⟩] (fullB 8) false)
 (.seq
 (.seq
 (.reg [⟨(some 41), .load (some 12) (.t 12), none⟩,
⟨(some 42), .call (.k (.fn (.func 24) [] [])) [(.t 41)], none⟩,
⟨(some 43), .not (.t 42), none⟩] (fullB 3) false)
 (.cond (.t 43)
  (.seq
  (.reg [⟨(some 44), .bld [(.d (.int .u8 0)), (.d (.int .u8 0)), (.d (.int .u8 0)), (.d (.int .u32 0)), (.d (.int .u32 0)), (.d (.int .u32 0)), (.d (.int .u32 0)), (.d (.int .u32 0)), (.d (.int .u32 0)), (.d (.int .u32 0)), (.d (.int .u32 0)), (.d .nils)] [], none⟩,
⟨none, .store 12 (.t 10) (.t 44), none⟩,
⟨(some 11), .mv (.k (.d (.int .i64 3))), none⟩] (fullB 3) false)
  .ret)
  .skip))
 (.seq
 (.reg [⟨(some 45), .load (some 12) (.t 12), none⟩,
⟨none, .store 12 (.t 10) (.t 45), none⟩,
⟨(some 11), .mv (.k (.d (.int .i64 0))), none⟩] (fullB 3) false)
 .ret)))))))
def rv : List RV := [.cell 10 (some 12), .tmp 11]
/-! live ref14_Delta: [0, 1, 2, 3, 4, 8, 10, 11, 12, 13, 29, 43] -/
theorem c : cK Try.prog Try.f13.ntmps (Try.f13.body.getD .ret) = some s := by kernel_rfl
theorem b : Try.f13.body = some (Try.f13.body.getD .ret) := by kernel_rfl
theorem r : cRV Try.prog Try.f13.results.toList = some rv := by kernel_rfl
theorem ca : Callable Try.prog 13 = true := by kernel_rfl
theorem enter {args : List SV} {F : Hp} {k nk : Nat} {Q : SV → Hp → Prop} (hargs : SV.oks (fun n => decide (n < k)) args = true) (hF : F.ok (fun n => decide (n < k)) = true) (hN : args.length ≤ 46)
    (h : SW Try.prog 46 k s ⟨argE 0 args, F, k⟩ fun e st' => match e with | .normal => Fin k nk rv Q st' | .ret => Fin k nk rv Q st' | _ => False) : SB Try.prog 13 args F k nk Q :=
  SB.of_body Try.func13 b c r ca hargs hF hN h
end ref14_Delta
/-! ### tranter.tranterref05.SameAll -/
namespace ref05_SameAll
abbrev f : Nat := 14
def s : SCo := (.seq
(.reg [⟨(some 4), .mv (.k (.d (.bool false))), none⟩] (fullB 1) false)
(.seq
(.seq
(.reg [⟨(some 6), .mv (.t 0), none⟩,
⟨(some 7), .len (.t 6), none⟩,
⟨(some 8), .mv (.t 1), none⟩,
⟨(some 9), .len (.t 8), none⟩,
⟨(some 10), .bin .neq (.t 7) (.t 9), none⟩] (fullB 5) false)
(.cond (.t 10)
 (.seq
 (.reg [⟨(some 4), .mv (.k (.d (.bool false))), none⟩] (fullB 1) false)
 .ret)
 .skip))
(.seq
(.seq
 (.reg [⟨(some 5), .mv (.k (.d (.int .i64 0))), none⟩] (fullB 1) false)
 (.block 0
 (.loop
 (.seq
 (.seq
  (.reg [⟨(some 11), .mv (.t 5), none⟩,
⟨(some 12), .mv (.t 0), none⟩,
⟨(some 13), .len (.t 12), none⟩,
⟨(some 14), .bin .lss (.t 11) (.t 13), none⟩] (fullB 4) false)
  (.cond (.t 14)
  .skip
  (.exit 0)))
 (.seq
  (.block 1
  (.seq
  (.reg [⟨(some 17), .mv (.t 0), none⟩,
⟨(some 18), .mv (.t 5), none⟩,
⟨(some 19), .idxS 29 (.t 17) (.t 18), none⟩,
⟨(some 20), .load (some 29) (.t 19), none⟩,
⟨(some 21), .mv (.t 1), none⟩,
⟨(some 22), .mv (.t 5), none⟩,
⟨(some 23), .idxS 29 (.t 21) (.t 22), none⟩,
⟨(some 24), .load (some 29) (.t 23), none⟩,
⟨(some 25), .call (.k (.fn (.func 26) [] [])) [(.t 20), (.t 24)], none⟩,
⟨(some 26), .not (.t 25), none⟩] [0,
0,
3,
7,
0,
0,
48,
112,
255,
511] true)
  (.cond (.t 26)
  (.seq
   (.reg [⟨(some 4), .mv (.k (.d (.bool false))), none⟩] (fullB 1) false)
   .ret)
  .skip)))
  (.reg [⟨(some 15), .mv (.t 5), none⟩,
⟨(some 16), .bin .add (.t 15) (.k (.d (.int .i64 1))), none⟩,
⟨(some 5), .mv (.t 16), none⟩] (fullB 3) false))))))
(.seq
 (.reg [⟨(some 4), .mv (.k (.d (.bool true))), none⟩] (fullB 1) false)
 .ret))))
def rv : List RV := [.tmp 4]
/-! live ref05_SameAll: [0, 1, 4, 5, 10, 14, 26] -/
theorem c : cK Try.prog Try.f14.ntmps (Try.f14.body.getD .ret) = some s := by kernel_rfl
theorem b : Try.f14.body = some (Try.f14.body.getD .ret) := by kernel_rfl
theorem r : cRV Try.prog Try.f14.results.toList = some rv := by kernel_rfl
theorem ca : Callable Try.prog 14 = true := by kernel_rfl
theorem enter {args : List SV} {F : Hp} {k nk : Nat} {Q : SV → Hp → Prop} (hargs : SV.oks (fun n => decide (n < k)) args = true) (hF : F.ok (fun n => decide (n < k)) = true) (hN : args.length ≤ 27)
    (h : SW Try.prog 27 k s ⟨argE 0 args, F, k⟩ fun e st' => match e with | .normal => Fin k nk rv Q st' | .ret => Fin k nk rv Q st' | _ => False) : SB Try.prog 14 args F k nk Q :=
  SB.of_body Try.func14 b c r ca hargs hF hN h
end ref05_SameAll
/-! ### tranter.gossip.Lacks -/
namespace gossip_Lacks
abbrev f : Nat := 15
def s : SCo := (.seq
(.reg [⟨(some 3), .box 28 (.t 1), none⟩,
⟨(some 4), .mv (.k (.d .nils)), none⟩] (fullB 2) false)
(.seq
(.reg [⟨(some 5), .mv (.t 0), none⟩,
⟨(some 6), .load (some 8) (.t 3), none⟩,
⟨(some 7), .call (.k (.fn (.func 25) [] [])) [(.t 5), (.t 6)], none⟩,
⟨(some 8), .call (.k (.fn (.func 27) [] [])) [(.t 7)], none⟩,
⟨(some 4), .mv (.t 8), none⟩] (fullB 5) false)
.ret))
def rv : List RV := [.tmp 4]
/-! live gossip_Lacks: [0, 1, 3, 4] -/
theorem c : cK Try.prog Try.f15.ntmps (Try.f15.body.getD .ret) = some s := by kernel_rfl
theorem b : Try.f15.body = some (Try.f15.body.getD .ret) := by kernel_rfl
theorem r : cRV Try.prog Try.f15.results.toList = some rv := by kernel_rfl
theorem ca : Callable Try.prog 15 = true := by kernel_rfl
theorem enter {args : List SV} {F : Hp} {k nk : Nat} {Q : SV → Hp → Prop} (hargs : SV.oks (fun n => decide (n < k)) args = true) (hF : F.ok (fun n => decide (n < k)) = true) (hN : args.length ≤ 9)
    (h : SW Try.prog 9 k s ⟨argE 0 args, F, k⟩ fun e st' => match e with | .normal => Fin k nk rv Q st' | .ret => Fin k nk rv Q st' | _ => False) : SB Try.prog 15 args F k nk Q :=
  SB.of_body Try.func15 b c r ca hargs hF hN h
end gossip_Lacks
/-! ### tranter.tranterref14.Lacks -/
namespace ref14_Lacks
abbrev f : Nat := 16
def s : SCo := (.seq
(.reg [⟨(some 3), .box 28 (.t 1), none⟩,
⟨(some 4), .mv (.k (.d .nils)), none⟩] (fullB 2) false)
(.seq
(.reg [⟨(some 5), .mv (.k (.d .nils)), none⟩] (fullB 1) false)
(.seq
(.seq
 (.reg [⟨(some 6), .mv (.k (.d (.int .i64 0))), none⟩] (fullB 1) false)
 (.block 0
 (.loop
 (.seq
 (.seq
  (.reg [⟨(some 7), .mv (.t 6), none⟩,
⟨(some 8), .mv (.t 0), none⟩,
⟨(some 9), .len (.t 8), none⟩,
⟨(some 10), .bin .lss (.t 7) (.t 9), none⟩] (fullB 4) false)
  (.cond (.t 10)
  .skip
  (.exit 0)))
 (.seq
  (.block 1
  (.seq
  (.reg (⟨(some 13), .load (some 8) (.t 3), none⟩ ::
⟨(some 14), .mv (.t 0), none⟩ ::
⟨(some 15), .mv (.t 6), none⟩ ::
⟨(some 16), .idxS 29 (.t 14) (.t 15), none⟩ ::
⟨(some 17), .fld 0 (.t 16), none⟩ ::
⟨(some 18), .load (some 2) (.t 17), none⟩ ::
⟨(some 19), .call (.k (.fn (.func 28) [] [])) [(.t 13), (.t 18)], none⟩ ::
⟨(some 20), .not (.t 19), none⟩ ::
⟨(some 21), .mv (.t 20), none⟩ ::
⟨(some 22), .mv (.t 0), some (21, true)⟩ ::
⟨(some 23), .mv (.t 6), some (21, true)⟩ ::
⟨(some 24), .slc 29 (.t 22) none (some (.t 23)), some (21, true)⟩ ::
⟨(some 25), .mv (.t 0), some (21, true)⟩ ::
⟨(some 26), .mv (.t 6), some (21, true)⟩ ::
⟨(some 27), .idxS 29 (.t 25) (.t 26), some (21, true)⟩ ::
⟨(some 28), .fld 0 (.t 27), some (21, true)⟩ ::
⟨(some 29), .load (some 2) (.t 28), some (21, true)⟩ ::
⟨(some 30), .call (.k (.fn (.func 29) [] [])) [(.t 24), (.t 29)], some (21, true)⟩ ::
⟨(some 31), .not (.t 30), some (21, true)⟩ ::
⟨(some 32), .pick (.t 21) (.t 31) (.k (.d (.bool false))), none⟩ :: []) (0 ::
0 ::
0 ::
6 ::
14 ::
30 ::
63 ::
127 ::
255 ::
511 ::
511 ::
2047 ::
511 ::
511 ::
12799 ::
29183 ::
61951 ::
131071 ::
262143 ::
524287 :: []) true)
  (.cond (.t 32)
  (.reg [⟨(some 33), .mv (.t 5), none⟩,
⟨(some 34), .mv (.t 0), none⟩,
⟨(some 35), .mv (.t 6), none⟩,
⟨(some 36), .idxS 29 (.t 34) (.t 35), none⟩,
⟨(some 37), .load (some 29) (.t 36), none⟩,
⟨(some 38), .bsl 50 29 1 [(.d (.int .u8 0)), (.d (.int .u32 0)), (.d (.int .u32 0)), (.d (.int .u32 0)), (.d (.int .u32 0)), (.d (.int .u32 0)), (.d (.int .u32 0)), (.d (.int .u32 0)), (.d (.int .u32 0)), (.d (.int .u32 0)), (.d (.int .u64 0)), (.d (.int .u32 0)), (.d (.int .u8 0)), (.d (.int .u32 0)), (.d (.int .u8 0)), (.d (.int .u8 0)), (.d (.int .u32 0)), (.d (.int .u32 0)), (.d (.int .u8 0)), (.d (.int .u8 0)), (.d (.int .u64 0)), (.d (.int .u8 0)), (.d (.int .u32 0)), (.d (.int .u8 0)), (.d (.int .u32 0)), (.d (.int .u32 0)), (.d (.int .u32 0)), (.d (.int .u32 0)), (.d .nils)] [(0, 29, (.t 37))], none⟩,
⟨(some 39), .app 50 29 144 (.t 33) (.t 38), none⟩,
⟨(some 5), .mv (.t 39), none⟩] (fullB 8) false)
  .skip)))
  (.reg [⟨(some 11), .mv (.t 6), none⟩,
⟨(some 12), .bin .add (.t 11) (.k (.d (.int .i64 1))), none⟩,
⟨(some 6), .mv (.t 12), none⟩] (fullB 3) false))))))
(.seq
 (.reg [⟨(some 40), .mv (.t 5), none⟩,
⟨(some 41), .call (.k (.fn (.func 30) [] [])) [(.t 40)], none⟩,
⟨(some 4), .mv (.t 41), none⟩] (fullB 3) false)
 .ret))))
def rv : List RV := [.tmp 4]
/-! live ref14_Lacks: [0, 1, 3, 4, 5, 6, 10, 32] -/
theorem c : cK Try.prog Try.f16.ntmps (Try.f16.body.getD .ret) = some s := by kernel_rfl
theorem b : Try.f16.body = some (Try.f16.body.getD .ret) := by kernel_rfl
theorem r : cRV Try.prog Try.f16.results.toList = some rv := by kernel_rfl
theorem ca : Callable Try.prog 16 = true := by kernel_rfl
theorem enter {args : List SV} {F : Hp} {k nk : Nat} {Q : SV → Hp → Prop} (hargs : SV.oks (fun n => decide (n < k)) args = true) (hF : F.ok (fun n => decide (n < k)) = true) (hN : args.length ≤ 42)
    (h : SW Try.prog 42 k s ⟨argE 0 args, F, k⟩ fun e st' => match e with | .normal => Fin k nk rv Q st' | .ret => Fin k nk rv Q st' | _ => False) : SB Try.prog 16 args F k nk Q :=
  SB.of_body Try.func16 b c r ca hargs hF hN h
end ref14_Lacks
/-! ### tranter.tranterref06.Same -/
namespace ref06_Same
abbrev f : Nat := 17
def s : SCo := (.seq
(.reg [⟨(some 2), .box 33 (.t 0), none⟩,
⟨(some 3), .box 33 (.t 1), none⟩,
⟨(some 4), .mv (.k (.d (.bool false))), none⟩] (fullB 3) false)
(.seq
(.reg (⟨(some 5), .fld 0 (.t 2), none⟩ ::
⟨(some 6), .load none (.t 5), none⟩ ::
⟨(some 7), .fld 0 (.t 3), none⟩ ::
⟨(some 8), .load none (.t 7), none⟩ ::
⟨(some 9), .bin .eql (.t 6) (.t 8), none⟩ ::
⟨(some 10), .mv (.t 9), none⟩ ::
⟨(some 11), .fld 1 (.t 2), some (10, true)⟩ ::
⟨(some 12), .load none (.t 11), some (10, true)⟩ ::
⟨(some 13), .fld 1 (.t 3), some (10, true)⟩ ::
⟨(some 14), .load none (.t 13), some (10, true)⟩ ::
⟨(some 15), .bin .eql (.t 12) (.t 14), some (10, true)⟩ ::
⟨(some 16), .pick (.t 10) (.t 15) (.k (.d (.bool false))), none⟩ ::
⟨(some 17), .mv (.t 16), none⟩ ::
⟨(some 18), .fld 2 (.t 2), some (17, true)⟩ ::
⟨(some 19), .load none (.t 18), some (17, true)⟩ ::
⟨(some 20), .fld 2 (.t 3), some (17, true)⟩ ::
⟨(some 21), .load none (.t 20), some (17, true)⟩ ::
⟨(some 22), .bin .eql (.t 19) (.t 21), some (17, true)⟩ ::
⟨(some 23), .pick (.t 17) (.t 22) (.k (.d (.bool false))), none⟩ ::
⟨(some 24), .mv (.t 23), none⟩ ::
⟨(some 25), .fld 3 (.t 2), some (24, true)⟩ ::
⟨(some 26), .load (some 8) (.t 25), some (24, true)⟩ ::
⟨(some 27), .fld 3 (.t 3), some (24, true)⟩ ::
⟨(some 28), .load (some 8) (.t 27), some (24, true)⟩ ::
⟨(some 29), .eqv false [true, true, true, true, true, true, true, true] (.t 26) (.t 28), some (24, true)⟩ ::
⟨(some 30), .pick (.t 24) (.t 29) (.k (.d (.bool false))), none⟩ ::
⟨(some 31), .mv (.t 30), none⟩ ::
⟨(some 32), .fld 11 (.t 2), some (31, true)⟩ ::
⟨(some 33), .load none (.t 32), some (31, true)⟩ ::
⟨(some 34), .fld 11 (.t 3), some (31, true)⟩ ::
⟨(some 35), .load none (.t 34), some (31, true)⟩ ::
⟨(some 36), .call (.k (.fn (.func 14) [] [])) [(.t 33), (.t 35)], some (31, true)⟩ ::
⟨(some 37), .pick (.t 31) (.t 36) (.k (.d (.bool false))), none⟩ ::
⟨(some 4), .mv (.t 37), none⟩ :: []) (fullB 34) false)
.ret))
def rv : List RV := [.tmp 4]
/-! live ref06_Same: [0, 1, 2, 3, 4] -/
theorem c : cK Try.prog Try.f17.ntmps (Try.f17.body.getD .ret) = some s := by kernel_rfl
theorem b : Try.f17.body = some (Try.f17.body.getD .ret) := by kernel_rfl
theorem r : cRV Try.prog Try.f17.results.toList = some rv := by kernel_rfl
theorem ca : Callable Try.prog 17 = true := by kernel_rfl
theorem enter {args : List SV} {F : Hp} {k nk : Nat} {Q : SV → Hp → Prop} (hargs : SV.oks (fun n => decide (n < k)) args = true) (hF : F.ok (fun n => decide (n < k)) = true) (hN : args.length ≤ 38)
    (h : SW Try.prog 38 k s ⟨argE 0 args, F, k⟩ fun e st' => match e with | .normal => Fin k nk rv Q st' | .ret => Fin k nk rv Q st' | _ => False) : SB Try.prog 17 args F k nk Q :=
  SB.of_body Try.func17 b c r ca hargs hF hN h
end ref06_Same
/-! ### tranter.order.Compare -/
namespace order_Compare
abbrev f : Nat := 18
def s : SCo := (.seq
(.reg [⟨(some 2), .box 50 (.t 0), none⟩,
⟨(some 3), .box 50 (.t 1), none⟩,
⟨(some 4), .mv (.k (.d (.int .i64 0))), none⟩] (fullB 3) false)
(.seq
(.reg (⟨(some 5), .fld 10 (.t 2), none⟩ ::
⟨(some 6), .load none (.t 5), none⟩ ::
⟨(some 7), .fld 10 (.t 3), none⟩ ::
⟨(some 8), .load none (.t 7), none⟩ ::
⟨(some 9), .call (.k (.fn (.func 32) [] [])) [(.t 6), (.t 8)], none⟩ ::
⟨(some 10), .fld 0 (.t 2), none⟩ ::
⟨(some 11), .fld 0 (.t 10), none⟩ ::
⟨(some 12), .load none (.t 11), none⟩ ::
⟨(some 13), .fld 0 (.t 3), none⟩ ::
⟨(some 14), .fld 0 (.t 13), none⟩ ::
⟨(some 15), .load none (.t 14), none⟩ ::
⟨(some 16), .call (.k (.fn (.func 33) [] [])) [(.t 12), (.t 15)], none⟩ ::
⟨(some 17), .fld 0 (.t 2), none⟩ ::
⟨(some 18), .fld 1 (.t 17), none⟩ ::
⟨(some 19), .load none (.t 18), none⟩ ::
⟨(some 20), .fld 0 (.t 3), none⟩ ::
⟨(some 21), .fld 1 (.t 20), none⟩ ::
⟨(some 22), .load none (.t 21), none⟩ ::
⟨(some 23), .call (.k (.fn (.func 34) [] [])) [(.t 19), (.t 22)], none⟩ ::
⟨(some 24), .bsl 3 1 3 [(.d (.int .i64 0)), (.d (.int .i64 0)), (.d (.int .i64 0))] [(0, 1, (.t 9)), (1, 1, (.t 16)), (2, 1, (.t 23))], none⟩ ::
⟨(some 25), .call (.k (.fn (.func 31) [] [])) [(.t 24)], none⟩ ::
⟨(some 4), .mv (.t 25), none⟩ :: []) (0 ::
1 ::
0 ::
4 ::
15 ::
0 ::
32 ::
96 ::
0 ::
256 ::
768 ::
2047 ::
0 ::
4096 ::
12288 ::
0 ::
32768 ::
98304 ::
262143 ::
524287 ::
1048575 ::
2097151 :: []) true)
.ret))
def rv : List RV := [.tmp 4]
/-! live order_Compare: [0, 1, 2, 3, 4] -/
theorem c : cK Try.prog Try.f18.ntmps (Try.f18.body.getD .ret) = some s := by kernel_rfl
theorem b : Try.f18.body = some (Try.f18.body.getD .ret) := by kernel_rfl
theorem r : cRV Try.prog Try.f18.results.toList = some rv := by kernel_rfl
theorem ca : Callable Try.prog 18 = true := by kernel_rfl
theorem enter {args : List SV} {F : Hp} {k nk : Nat} {Q : SV → Hp → Prop} (hargs : SV.oks (fun n => decide (n < k)) args = true) (hF : F.ok (fun n => decide (n < k)) = true) (hN : args.length ≤ 26)
    (h : SW Try.prog 26 k s ⟨argE 0 args, F, k⟩ fun e st' => match e with | .normal => Fin k nk rv Q st' | .ret => Fin k nk rv Q st' | _ => False) : SB Try.prog 18 args F k nk Q :=
  SB.of_body Try.func18 b c r ca hargs hF hN h
end order_Compare
/-! ### tranter.order.Sort -/
namespace order_Sort
abbrev f : Nat := 19
def s : SCo := (.seq
(.reg [⟨(some 2), .mv (.k (.d .nils)), none⟩] (fullB 1) false)
(.seq
(.reg [⟨(some 7), .mv (.t 0), none⟩,
⟨(some 8), .call (.k (.fn (.func 35) [] [])) [(.t 7)], none⟩,
⟨(some 3), .alloc 71 [(.d .nils), (.d .nilm)], none⟩,
⟨none, .store 2 (.t 3) (.t 8), none⟩] (fullB 4) false)
(.seq
(.reg [⟨(some 4), .mv (.k (.d .nils)), none⟩] (fullB 1) false)
(.seq
 (.seq
 (.reg [⟨(some 9), .load (some 2) (.t 3), none⟩,
⟨(some 10), .call (.k (.fn (.func 37) [] [])) [(.t 9)], none⟩,
⟨(some 11), .load (some 2) (.t 3), none⟩,
⟨(some 12), .mkf (.func 38) [(.t 11)] [], none⟩,
⟨(some 13), .call (.k (.fn (.func 36) [] [])) [(.t 10), (.t 12)], none⟩,
⟨(some 14), .len (.t 13), none⟩,
⟨(some 15), .mv (.k (.d (.int .i64 0))), none⟩] [0,
1,
0,
4,
15,
31,
0] true)
 (.block 0
 (.loop
 (.seq
  (.reg [⟨(some 16), .bin .lss (.t 15) (.t 14), none⟩] (fullB 1) false)
  (.seq
  (.cond (.t 16)
  .skip
  (.exit 0))
  (.seq
  (.block 1
  (.seq
   (.reg [⟨(some 17), .idxS 1 (.t 13) (.t 15), none⟩,
⟨(some 18), .load none (.t 17), none⟩,
⟨(some 6), .mv (.t 18), none⟩] (fullB 3) false)
   (.reg [⟨(some 19), .mv (.t 4), none⟩,
⟨(some 20), .mv (.t 0), none⟩,
⟨(some 21), .mv (.t 6), none⟩,
⟨(some 22), .idxS 29 (.t 20) (.t 21), none⟩,
⟨(some 23), .load (some 29) (.t 22), none⟩,
⟨(some 24), .bsl 50 29 1 [(.d (.int .u8 0)), (.d (.int .u32 0)), (.d (.int .u32 0)), (.d (.int .u32 0)), (.d (.int .u32 0)), (.d (.int .u32 0)), (.d (.int .u32 0)), (.d (.int .u32 0)), (.d (.int .u32 0)), (.d (.int .u32 0)), (.d (.int .u64 0)), (.d (.int .u32 0)), (.d (.int .u8 0)), (.d (.int .u32 0)), (.d (.int .u8 0)), (.d (.int .u8 0)), (.d (.int .u32 0)), (.d (.int .u32 0)), (.d (.int .u8 0)), (.d (.int .u8 0)), (.d (.int .u64 0)), (.d (.int .u8 0)), (.d (.int .u32 0)), (.d (.int .u8 0)), (.d (.int .u32 0)), (.d (.int .u32 0)), (.d (.int .u32 0)), (.d (.int .u32 0)), (.d .nils)] [(0, 29, (.t 23))], none⟩,
⟨(some 25), .app 50 29 144 (.t 19) (.t 24), none⟩,
⟨(some 4), .mv (.t 25), none⟩] (fullB 8) false)))
  (.reg [⟨(some 26), .bin .add (.t 15) (.k (.d (.int .i64 1))), none⟩,
⟨(some 15), .mv (.t 26), none⟩] (fullB 2) false)))))))
 (.seq
 (.reg [⟨(some 27), .mv (.t 4), none⟩,
⟨(some 2), .mv (.t 27), none⟩] (fullB 2) false)
 .ret)))))
def rv : List RV := [.tmp 2]
/-! live order_Sort: [0, 2, 3, 4, 6, 13, 14, 15, 16] -/
theorem c : cK Try.prog Try.f19.ntmps (Try.f19.body.getD .ret) = some s := by kernel_rfl
theorem b : Try.f19.body = some (Try.f19.body.getD .ret) := by kernel_rfl
theorem r : cRV Try.prog Try.f19.results.toList = some rv := by kernel_rfl
theorem ca : Callable Try.prog 19 = true := by kernel_rfl
theorem enter {args : List SV} {F : Hp} {k nk : Nat} {Q : SV → Hp → Prop} (hargs : SV.oks (fun n => decide (n < k)) args = true) (hF : F.ok (fun n => decide (n < k)) = true) (hN : args.length ≤ 28)
    (h : SW Try.prog 28 k s ⟨argE 0 args, F, k⟩ fun e st' => match e with | .normal => Fin k nk rv Q st' | .ret => Fin k nk rv Q st' | _ => False) : SB Try.prog 19 args F k nk Q :=
  SB.of_body Try.func19 b c r ca hargs hF hN h
end order_Sort
/-! ### tranter.order.Known -/
namespace order_Known
abbrev f : Nat := 20
def s : SCo := (.seq
(.reg [⟨(some 2), .alloc 28 [(.d (.int .u32 0)), (.d (.int .u32 0)), (.d (.int .u32 0)), (.d (.int .u32 0)), (.d (.int .u32 0)), (.d (.int .u32 0)), (.d (.int .u32 0)), (.d (.int .u32 0))], none⟩] (fullB 1) false)
(.seq
(.reg [⟨(some 3), .alloc 28 [(.d (.int .u32 0)), (.d (.int .u32 0)), (.d (.int .u32 0)), (.d (.int .u32 0)), (.d (.int .u32 0)), (.d (.int .u32 0)), (.d (.int .u32 0)), (.d (.int .u32 0))], none⟩] (fullB 1) false)
(.seq
(.seq
 (.reg [⟨(some 6), .mv (.t 0), none⟩,
⟨(some 7), .len (.t 6), none⟩,
⟨(some 8), .mv (.k (.d (.int .i64 0))), none⟩] (fullB 3) false)
 (.block 0
 (.loop
 (.seq
 (.reg [⟨(some 9), .bin .lss (.t 8) (.t 7), none⟩] (fullB 1) false)
 (.seq
  (.cond (.t 9)
  .skip
  (.exit 0))
  (.seq
  (.block 1
  (.seq
  (.reg [⟨(some 10), .idxS 29 (.t 6) (.t 8), none⟩,
⟨(some 11), .load (some 29) (.t 10), none⟩,
⟨(some 5), .alloc 50 [(.d (.int .u8 0)), (.d (.int .u32 0)), (.d (.int .u32 0)), (.d (.int .u32 0)), (.d (.int .u32 0)), (.d (.int .u32 0)), (.d (.int .u32 0)), (.d (.int .u32 0)), (.d (.int .u32 0)), (.d (.int .u32 0)), (.d (.int .u64 0)), (.d (.int .u32 0)), (.d (.int .u8 0)), (.d (.int .u32 0)), (.d (.int .u8 0)), (.d (.int .u8 0)), (.d (.int .u32 0)), (.d (.int .u32 0)), (.d (.int .u8 0)), (.d (.int .u8 0)), (.d (.int .u64 0)), (.d (.int .u8 0)), (.d (.int .u32 0)), (.d (.int .u8 0)), (.d (.int .u32 0)), (.d (.int .u32 0)), (.d (.int .u32 0)), (.d (.int .u32 0)), (.d .nils)], none⟩,
⟨none, .store 29 (.t 5) (.t 11), none⟩] (fullB 4) false)
  (.seq
   (.reg [⟨(some 12), .fld 0 (.t 5), none⟩,
⟨(some 13), .fld 0 (.t 12), none⟩,
⟨(some 14), .load none (.t 13), none⟩,
⟨(some 15), .conv .i64 (.t 14), none⟩,
⟨(some 16), .bin .lss (.t 15) (.k (.d (.int .i64 8))), none⟩] (fullB 5) false)
   (.cond (.t 16)
   (.reg [⟨(some 17), .fld 0 (.t 5), none⟩,
⟨(some 18), .fld 0 (.t 17), none⟩,
⟨(some 19), .load none (.t 18), none⟩,
⟨(some 20), .fld 0 (.t 5), none⟩,
⟨(some 21), .fld 0 (.t 20), none⟩,
⟨(some 22), .load none (.t 21), none⟩,
⟨(some 23), .idxA 8 1 (.t 3) (.t 22), none⟩,
⟨(some 24), .load none (.t 23), none⟩,
⟨(some 25), .fld 0 (.t 5), none⟩,
⟨(some 26), .fld 1 (.t 25), none⟩,
⟨(some 27), .load none (.t 26), none⟩,
⟨(some 28), .mx (.t 24) (.t 27), none⟩,
⟨(some 29), .idxA 8 1 (.t 3) (.t 19), none⟩,
⟨none, .store 1 (.t 29) (.t 28), none⟩] [0,
1,
3,
0,
8,
24,
56,
120,
0,
256,
768,
2040,
4095,
8191] true)
   .skip))))
  (.reg [⟨(some 30), .bin .add (.t 8) (.k (.d (.int .i64 1))), none⟩,
⟨(some 8), .mv (.t 30), none⟩] (fullB 2) false)))))))
(.seq
 (.reg [⟨(some 31), .load (some 8) (.t 3), none⟩,
⟨none, .store 8 (.t 2) (.t 31), none⟩] (fullB 2) false)
 .ret))))
def rv : List RV := [.cell 2 (some 8)]
/-! live order_Known: [0, 2, 3, 5, 6, 7, 8, 9, 16] -/
theorem c : cK Try.prog Try.f20.ntmps (Try.f20.body.getD .ret) = some s := by kernel_rfl
theorem b : Try.f20.body = some (Try.f20.body.getD .ret) := by kernel_rfl
theorem r : cRV Try.prog Try.f20.results.toList = some rv := by kernel_rfl
theorem ca : Callable Try.prog 20 = true := by kernel_rfl
theorem enter {args : List SV} {F : Hp} {k nk : Nat} {Q : SV → Hp → Prop} (hargs : SV.oks (fun n => decide (n < k)) args = true) (hF : F.ok (fun n => decide (n < k)) = true) (hN : args.length ≤ 32)
    (h : SW Try.prog 32 k s ⟨argE 0 args, F, k⟩ fun e st' => match e with | .normal => Fin k nk rv Q st' | .ret => Fin k nk rv Q st' | _ => False) : SB Try.prog 20 args F k nk Q :=
  SB.of_body Try.func20 b c r ca hargs hF hN h
end order_Known
/-! ### tranter.tranterref14.Known -/
namespace ref14_Known
abbrev f : Nat := 21
def s : SCo := (.seq
(.reg [⟨(some 2), .alloc 28 [(.d (.int .u32 0)), (.d (.int .u32 0)), (.d (.int .u32 0)), (.d (.int .u32 0)), (.d (.int .u32 0)), (.d (.int .u32 0)), (.d (.int .u32 0)), (.d (.int .u32 0))], none⟩] (fullB 1) false)
(.seq
(.reg [⟨(some 3), .alloc 28 [(.d (.int .u32 0)), (.d (.int .u32 0)), (.d (.int .u32 0)), (.d (.int .u32 0)), (.d (.int .u32 0)), (.d (.int .u32 0)), (.d (.int .u32 0)), (.d (.int .u32 0))], none⟩] (fullB 1) false)
(.seq
(.seq
 (.reg [⟨(some 4), .mv (.k (.d (.int .i64 0))), none⟩] (fullB 1) false)
 (.block 0
 (.loop
 (.seq
 (.seq
  (.reg [⟨(some 6), .mv (.t 4), none⟩,
⟨(some 7), .mv (.t 0), none⟩,
⟨(some 8), .len (.t 7), none⟩,
⟨(some 9), .bin .lss (.t 6) (.t 8), none⟩] (fullB 4) false)
  (.cond (.t 9)
  .skip
  (.exit 0)))
 (.seq
  (.block 1
  (.seq
  (.reg [⟨(some 12), .mv (.t 0), none⟩,
⟨(some 13), .mv (.t 4), none⟩,
⟨(some 14), .idxS 29 (.t 12) (.t 13), none⟩,
⟨(some 15), .fld 0 (.t 14), none⟩,
⟨(some 16), .load (some 2) (.t 15), none⟩,
⟨(some 5), .alloc 46 [(.d (.int .u8 0)), (.d (.int .u32 0))], none⟩,
⟨none, .store 2 (.t 5) (.t 16), none⟩] (fullB 7) false)
  (.seq
  (.reg [⟨(some 17), .fld 0 (.t 5), none⟩,
⟨(some 18), .load none (.t 17), none⟩,
⟨(some 19), .bin .lss (.t 18) (.k (.d (.int .u8 8))), none⟩] (fullB 3) false)
  (.cond (.t 19)
   (.reg [⟨(some 20), .fld 0 (.t 5), none⟩,
⟨(some 21), .load none (.t 20), none⟩,
⟨(some 22), .fld 0 (.t 5), none⟩,
⟨(some 23), .load none (.t 22), none⟩,
⟨(some 24), .idxA 8 1 (.t 3) (.t 23), none⟩,
⟨(some 25), .load none (.t 24), none⟩,
⟨(some 26), .fld 1 (.t 5), none⟩,
⟨(some 27), .load none (.t 26), none⟩,
⟨(some 28), .mx (.t 25) (.t 27), none⟩,
⟨(some 29), .idxA 8 1 (.t 3) (.t 21), none⟩,
⟨none, .store 1 (.t 29) (.t 28), none⟩] [0,
1,
0,
4,
12,
28,
0,
64,
252,
511,
1023] true)
   .skip))))
  (.reg [⟨(some 10), .mv (.t 4), none⟩,
⟨(some 11), .bin .add (.t 10) (.k (.d (.int .i64 1))), none⟩,
⟨(some 4), .mv (.t 11), none⟩] (fullB 3) false))))))
(.seq
 (.reg [⟨(some 30), .load (some 8) (.t 3), none⟩,
⟨none, .store 8 (.t 2) (.t 30), none⟩] (fullB 2) false)
 .ret))))
def rv : List RV := [.cell 2 (some 8)]
/-! live ref14_Known: [0, 2, 3, 4, 5, 9, 19] -/
theorem c : cK Try.prog Try.f21.ntmps (Try.f21.body.getD .ret) = some s := by kernel_rfl
theorem b : Try.f21.body = some (Try.f21.body.getD .ret) := by kernel_rfl
theorem r : cRV Try.prog Try.f21.results.toList = some rv := by kernel_rfl
theorem ca : Callable Try.prog 21 = true := by kernel_rfl
theorem enter {args : List SV} {F : Hp} {k nk : Nat} {Q : SV → Hp → Prop} (hargs : SV.oks (fun n => decide (n < k)) args = true) (hF : F.ok (fun n => decide (n < k)) = true) (hN : args.length ≤ 31)
    (h : SW Try.prog 31 k s ⟨argE 0 args, F, k⟩ fun e st' => match e with | .normal => Fin k nk rv Q st' | .ret => Fin k nk rv Q st' | _ => False) : SB Try.prog 21 args F k nk Q :=
  SB.of_body Try.func21 b c r ca hargs hF hN h
end ref14_Known
/-! ### tranter.tranterlaw14.three -/
namespace law14_three
abbrev f : Nat := 22
def s : SCo := (.seq
(.reg [⟨(some 0), .mv (.k (.d .nils)), none⟩] (fullB 1) false)
(.seq
(.reg [⟨(some 4), .bld [(.d (.int .u8 0)), (.d (.int .u32 0))] [(1, 1, (.k (.d (.int .u32 1))))], none⟩,
⟨(some 5), .bld [(.d (.int .u8 0)), (.d (.int .u32 0))] [(1, 1, (.k (.d (.int .u32 1))))], none⟩,
⟨(some 6), .bld [(.d (.int .u8 0)), (.d (.int .u32 0)), (.d (.int .u32 0)), (.d (.int .u32 0)), (.d (.int .u32 0)), (.d (.int .u32 0)), (.d (.int .u32 0)), (.d (.int .u32 0)), (.d (.int .u32 0)), (.d (.int .u32 0)), (.d (.int .u64 0)), (.d (.int .u32 0)), (.d (.int .u8 0)), (.d (.int .u32 0)), (.d (.int .u8 0)), (.d (.int .u8 0)), (.d (.int .u32 0)), (.d (.int .u32 0)), (.d (.int .u8 0)), (.d (.int .u8 0)), (.d (.int .u64 0)), (.d (.int .u8 0)), (.d (.int .u32 0)), (.d (.int .u8 0)), (.d (.int .u32 0)), (.d (.int .u32 0)), (.d (.int .u32 0)), (.d (.int .u32 0)), (.d .nils)] [(0, 2, (.t 4)), (10, 1, (.k (.d (.int .u64 1)))), (11, 1, (.k (.d (.int .u32 1)))), (12, 2, (.t 5))], none⟩,
⟨(some 1), .alloc 50 [(.d (.int .u8 0)), (.d (.int .u32 0)), (.d (.int .u32 0)), (.d (.int .u32 0)), (.d (.int .u32 0)), (.d (.int .u32 0)), (.d (.int .u32 0)), (.d (.int .u32 0)), (.d (.int .u32 0)), (.d (.int .u32 0)), (.d (.int .u64 0)), (.d (.int .u32 0)), (.d (.int .u8 0)), (.d (.int .u32 0)), (.d (.int .u8 0)), (.d (.int .u8 0)), (.d (.int .u32 0)), (.d (.int .u32 0)), (.d (.int .u8 0)), (.d (.int .u8 0)), (.d (.int .u64 0)), (.d (.int .u8 0)), (.d (.int .u32 0)), (.d (.int .u8 0)), (.d (.int .u32 0)), (.d (.int .u32 0)), (.d (.int .u32 0)), (.d (.int .u32 0)), (.d .nils)], none⟩,
⟨none, .store 29 (.t 1) (.t 6), none⟩] (fullB 5) false)
(.seq
(.reg [⟨(some 7), .bld [(.d (.int .u8 0)), (.d (.int .u32 0))] [(0, 1, (.k (.d (.int .u8 1)))), (1, 1, (.k (.d (.int .u32 1))))], none⟩,
⟨(some 8), .bld [(.d (.int .u32 0)), (.d (.int .u32 0)), (.d (.int .u32 0)), (.d (.int .u32 0)), (.d (.int .u32 0)), (.d (.int .u32 0)), (.d (.int .u32 0)), (.d (.int .u32 0))] [(0, 1, (.k (.d (.int .u32 1))))], none⟩,
⟨(some 9), .bld [(.d (.int .u8 0)), (.d (.int .u32 0))] [(0, 1, (.k (.d (.int .u8 1)))), (1, 1, (.k (.d (.int .u32 1))))], none⟩,
⟨(some 10), .bld [(.d (.int .u8 0)), (.d (.int .u32 0)), (.d (.int .u32 0)), (.d (.int .u32 0)), (.d (.int .u32 0)), (.d (.int .u32 0)), (.d (.int .u32 0)), (.d (.int .u32 0)), (.d (.int .u32 0)), (.d (.int .u32 0)), (.d (.int .u64 0)), (.d (.int .u32 0)), (.d (.int .u8 0)), (.d (.int .u32 0)), (.d (.int .u8 0)), (.d (.int .u8 0)), (.d (.int .u32 0)), (.d (.int .u32 0)), (.d (.int .u8 0)), (.d (.int .u8 0)), (.d (.int .u64 0)), (.d (.int .u8 0)), (.d (.int .u32 0)), (.d (.int .u8 0)), (.d (.int .u32 0)), (.d (.int .u32 0)), (.d (.int .u32 0)), (.d (.int .u32 0)), (.d .nils)] [(0, 2, (.t 7)), (2, 8, (.t 8)), (10, 1, (.k (.d (.int .u64 2)))), (11, 1, (.k (.d (.int .u32 1)))), (12, 2, (.t 9))], none⟩,
⟨(some 2), .alloc 50 [(.d (.int .u8 0)), (.d (.int .u32 0)), (.d (.int .u32 0)), (.d (.int .u32 0)), (.d (.int .u32 0)), (.d (.int .u32 0)), (.d (.int .u32 0)), (.d (.int .u32 0)), (.d (.int .u32 0)), (.d (.int .u32 0)), (.d (.int .u64 0)), (.d (.int .u32 0)), (.d (.int .u8 0)), (.d (.int .u32 0)), (.d (.int .u8 0)), (.d (.int .u8 0)), (.d (.int .u32 0)), (.d (.int .u32 0)), (.d (.int .u8 0)), (.d (.int .u8 0)), (.d (.int .u64 0)), (.d (.int .u8 0)), (.d (.int .u32 0)), (.d (.int .u8 0)), (.d (.int .u32 0)), (.d (.int .u32 0)), (.d (.int .u32 0)), (.d (.int .u32 0)), (.d .nils)], none⟩,
⟨none, .store 29 (.t 2) (.t 10), none⟩] (fullB 6) false)
(.seq
 (.reg [⟨(some 11), .bld [(.d (.int .u8 0)), (.d (.int .u32 0))] [(1, 1, (.k (.d (.int .u32 2))))], none⟩,
⟨(some 12), .bld [(.d (.int .u32 0)), (.d (.int .u32 0)), (.d (.int .u32 0)), (.d (.int .u32 0)), (.d (.int .u32 0)), (.d (.int .u32 0)), (.d (.int .u32 0)), (.d (.int .u32 0))] [(0, 1, (.k (.d (.int .u32 1)))), (1, 1, (.k (.d (.int .u32 1))))], none⟩,
⟨(some 13), .bld [(.d (.int .u8 0)), (.d (.int .u32 0))] [(1, 1, (.k (.d (.int .u32 2))))], none⟩,
⟨(some 14), .bld [(.d (.int .u8 0)), (.d (.int .u32 0)), (.d (.int .u32 0)), (.d (.int .u32 0)), (.d (.int .u32 0)), (.d (.int .u32 0)), (.d (.int .u32 0)), (.d (.int .u32 0)), (.d (.int .u32 0)), (.d (.int .u32 0)), (.d (.int .u64 0)), (.d (.int .u32 0)), (.d (.int .u8 0)), (.d (.int .u32 0)), (.d (.int .u8 0)), (.d (.int .u8 0)), (.d (.int .u32 0)), (.d (.int .u32 0)), (.d (.int .u8 0)), (.d (.int .u8 0)), (.d (.int .u64 0)), (.d (.int .u8 0)), (.d (.int .u32 0)), (.d (.int .u8 0)), (.d (.int .u32 0)), (.d (.int .u32 0)), (.d (.int .u32 0)), (.d (.int .u32 0)), (.d .nils)] [(0, 2, (.t 11)), (2, 8, (.t 12)), (10, 1, (.k (.d (.int .u64 3)))), (11, 1, (.k (.d (.int .u32 1)))), (12, 2, (.t 13))], none⟩,
⟨(some 3), .alloc 50 [(.d (.int .u8 0)), (.d (.int .u32 0)), (.d (.int .u32 0)), (.d (.int .u32 0)), (.d (.int .u32 0)), (.d (.int .u32 0)), (.d (.int .u32 0)), (.d (.int .u32 0)), (.d (.int .u32 0)), (.d (.int .u32 0)), (.d (.int .u64 0)), (.d (.int .u32 0)), (.d (.int .u8 0)), (.d (.int .u32 0)), (.d (.int .u8 0)), (.d (.int .u8 0)), (.d (.int .u32 0)), (.d (.int .u32 0)), (.d (.int .u8 0)), (.d (.int .u8 0)), (.d (.int .u64 0)), (.d (.int .u8 0)), (.d (.int .u32 0)), (.d (.int .u8 0)), (.d (.int .u32 0)), (.d (.int .u32 0)), (.d (.int .u32 0)), (.d (.int .u32 0)), (.d .nils)], none⟩,
⟨none, .store 29 (.t 3) (.t 14), none⟩] (fullB 6) false)
 (.seq
 (.reg [⟨(some 15), .load (some 29) (.t 3), none⟩,
⟨(some 16), .load (some 29) (.t 1), none⟩,
⟨(some 17), .load (some 29) (.t 2), none⟩,
⟨(some 18), .bsl 50 29 3 [(.d (.int .u8 0)), (.d (.int .u32 0)), (.d (.int .u32 0)), (.d (.int .u32 0)), (.d (.int .u32 0)), (.d (.int .u32 0)), (.d (.int .u32 0)), (.d (.int .u32 0)), (.d (.int .u32 0)), (.d (.int .u32 0)), (.d (.int .u64 0)), (.d (.int .u32 0)), (.d (.int .u8 0)), (.d (.int .u32 0)), (.d (.int .u8 0)), (.d (.int .u8 0)), (.d (.int .u32 0)), (.d (.int .u32 0)), (.d (.int .u8 0)), (.d (.int .u8 0)), (.d (.int .u64 0)), (.d (.int .u8 0)), (.d (.int .u32 0)), (.d (.int .u8 0)), (.d (.int .u32 0)), (.d (.int .u32 0)), (.d (.int .u32 0)), (.d (.int .u32 0)), (.d .nils), (.d (.int .u8 0)), (.d (.int .u32 0)), (.d (.int .u32 0)), (.d (.int .u32 0)), (.d (.int .u32 0)), (.d (.int .u32 0)), (.d (.int .u32 0)), (.d (.int .u32 0)), (.d (.int .u32 0)), (.d (.int .u32 0)), (.d (.int .u64 0)), (.d (.int .u32 0)), (.d (.int .u8 0)), (.d (.int .u32 0)), (.d (.int .u8 0)), (.d (.int .u8 0)), (.d (.int .u32 0)), (.d (.int .u32 0)), (.d (.int .u8 0)), (.d (.int .u8 0)), (.d (.int .u64 0)), (.d (.int .u8 0)), (.d (.int .u32 0)), (.d (.int .u8 0)), (.d (.int .u32 0)), (.d (.int .u32 0)), (.d (.int .u32 0)), (.d (.int .u32 0)), (.d .nils), (.d (.int .u8 0)), (.d (.int .u32 0)), (.d (.int .u32 0)), (.d (.int .u32 0)), (.d (.int .u32 0)), (.d (.int .u32 0)), (.d (.int .u32 0)), (.d (.int .u32 0)), (.d (.int .u32 0)), (.d (.int .u32 0)), (.d (.int .u64 0)), (.d (.int .u32 0)), (.d (.int .u8 0)), (.d (.int .u32 0)), (.d (.int .u8 0)), (.d (.int .u8 0)), (.d (.int .u32 0)), (.d (.int .u32 0)), (.d (.int .u8 0)), (.d (.int .u8 0)), (.d (.int .u64 0)), (.d (.int .u8 0)), (.d (.int .u32 0)), (.d (.int .u8 0)), (.d (.int .u32 0)), (.d (.int .u32 0)), (.d (.int .u32 0)), (.d (.int .u32 0)), (.d .nils)] [(0, 29, (.t 15)), (29, 29, (.t 16)), (58, 29, (.t 17))], none⟩,
⟨(some 0), .mv (.t 18), none⟩] (fullB 5) false)
 .ret)))))
def rv : List RV := [.tmp 0]
/-! live law14_three: [0, 1, 2, 3] -/
theorem c : cK Try.prog Try.f22.ntmps (Try.f22.body.getD .ret) = some s := by kernel_rfl
theorem b : Try.f22.body = some (Try.f22.body.getD .ret) := by kernel_rfl
theorem r : cRV Try.prog Try.f22.results.toList = some rv := by kernel_rfl
theorem ca : Callable Try.prog 22 = true := by kernel_rfl
theorem enter {args : List SV} {F : Hp} {k nk : Nat} {Q : SV → Hp → Prop} (hargs : SV.oks (fun n => decide (n < k)) args = true) (hF : F.ok (fun n => decide (n < k)) = true) (hN : args.length ≤ 19)
    (h : SW Try.prog 19 k s ⟨argE 0 args, F, k⟩ fun e st' => match e with | .normal => Fin k nk rv Q st' | .ret => Fin k nk rv Q st' | _ => False) : SB Try.prog 22 args F k nk Q :=
  SB.of_body Try.func22 b c r ca hargs hF hN h
end law14_three
/-! ### tranter.gossip.may -/
namespace gossip_may
abbrev f : Nat := 23
def s : SCo := (.seq
(.reg [⟨(some 2), .box 33 (.t 0), none⟩,
⟨(some 4), .alloc 33 [(.d (.int .u8 0)), (.d (.int .u8 0)), (.d (.int .u8 0)), (.d (.int .u32 0)), (.d (.int .u32 0)), (.d (.int .u32 0)), (.d (.int .u32 0)), (.d (.int .u32 0)), (.d (.int .u32 0)), (.d (.int .u32 0)), (.d (.int .u32 0)), (.d .nils)], none⟩,
⟨(some 5), .mv (.k (.d (.int .i64 0))), none⟩] (fullB 3) false)
(.seq
(.seq
(.reg [⟨(some 6), .load (some 12) (.t 2), none⟩,
⟨(some 7), .call (.k (.fn (.func 39) [] [])) [(.t 6)], none⟩,
⟨(some 8), .not (.t 7), none⟩] (fullB 3) false)
(.cond (.t 8)
 (.seq
 (.reg [⟨(some 9), .bld [(.d (.int .u8 0)), (.d (.int .u8 0)), (.d (.int .u8 0)), (.d (.int .u32 0)), (.d (.int .u32 0)), (.d (.int .u32 0)), (.d (.int .u32 0)), (.d (.int .u32 0)), (.d (.int .u32 0)), (.d (.int .u32 0)), (.d (.int .u32 0)), (.d .nils)] [], none⟩,
⟨(some 10), .mv (.t 1), none⟩,
⟨none, .store 12 (.t 4) (.t 9), none⟩,
⟨(some 5), .mv (.t 10), none⟩] (fullB 4) false)
 .ret)
 .skip))
(.seq
(.reg [⟨(some 11), .load (some 12) (.t 2), none⟩,
⟨none, .store 12 (.t 4) (.t 11), none⟩,
⟨(some 5), .mv (.k (.d (.int .i64 0))), none⟩] (fullB 3) false)
.ret)))
def rv : List RV := [.cell 4 (some 12), .tmp 5]
/-! live gossip_may: [0, 1, 2, 4, 5, 8] -/
theorem c : cK Try.prog Try.f23.ntmps (Try.f23.body.getD .ret) = some s := by kernel_rfl
theorem b : Try.f23.body = some (Try.f23.body.getD .ret) := by kernel_rfl
theorem r : cRV Try.prog Try.f23.results.toList = some rv := by kernel_rfl
theorem ca : Callable Try.prog 23 = true := by kernel_rfl
theorem enter {args : List SV} {F : Hp} {k nk : Nat} {Q : SV → Hp → Prop} (hargs : SV.oks (fun n => decide (n < k)) args = true) (hF : F.ok (fun n => decide (n < k)) = true) (hN : args.length ≤ 12)
    (h : SW Try.prog 12 k s ⟨argE 0 args, F, k⟩ fun e st' => match e with | .normal => Fin k nk rv Q st' | .ret => Fin k nk rv Q st' | _ => False) : SB Try.prog 23 args F k nk Q :=
  SB.of_body Try.func23 b c r ca hargs hF hN h
end gossip_may
/-! ### tranter.tranterref06.May -/
namespace ref06_May
abbrev f : Nat := 24
def s : SCo := (.seq
(.reg [⟨(some 1), .box 33 (.t 0), none⟩,
⟨(some 2), .mv (.k (.d (.bool false))), none⟩] (fullB 2) false)
(.seq
(.seq
(.reg (⟨(some 4), .fld 0 (.t 1), none⟩ ::
⟨(some 5), .load none (.t 4), none⟩ ::
⟨(some 6), .bin .gtr (.t 5) (.k (.d (.int .u8 1))), none⟩ ::
⟨(some 7), .mv (.t 6), none⟩ ::
⟨(some 8), .fld 1 (.t 1), some (7, false)⟩ ::
⟨(some 9), .load none (.t 8), some (7, false)⟩ ::
⟨(some 10), .bin .gtr (.t 9) (.k (.d (.int .u8 7))), some (7, false)⟩ ::
⟨(some 11), .pick (.t 7) (.k (.d (.bool true))) (.t 10), none⟩ ::
⟨(some 12), .mv (.t 11), none⟩ ::
⟨(some 13), .fld 2 (.t 1), some (12, false)⟩ ::
⟨(some 14), .load none (.t 13), some (12, false)⟩ ::
⟨(some 15), .bin .gtr (.t 14) (.k (.d (.int .u8 7))), some (12, false)⟩ ::
⟨(some 16), .pick (.t 12) (.k (.d (.bool true))) (.t 15), none⟩ ::
⟨(some 17), .mv (.t 16), none⟩ ::
⟨(some 18), .fld 1 (.t 1), some (17, false)⟩ ::
⟨(some 19), .load none (.t 18), some (17, false)⟩ ::
⟨(some 20), .fld 2 (.t 1), some (17, false)⟩ ::
⟨(some 21), .load none (.t 20), some (17, false)⟩ ::
⟨(some 22), .bin .eql (.t 19) (.t 21), some (17, false)⟩ ::
⟨(some 23), .pick (.t 17) (.k (.d (.bool true))) (.t 22), none⟩ ::
⟨(some 24), .mv (.t 23), none⟩ ::
⟨(some 25), .fld 0 (.t 1), some (24, false)⟩ ::
⟨(some 26), .load none (.t 25), some (24, false)⟩ ::
⟨(some 27), .bin .eql (.t 26) (.k (.d (.int .u8 0))), some (24, false)⟩ ::
⟨(some 28), .mv (.t 27), some (24, false)⟩ ::
⟨(some 29), .fld 11 (.t 1), some (28, true)⟩ ::
⟨(some 30), .load none (.t 29), some (28, true)⟩ ::
⟨(some 31), .len (.t 30), some (28, true)⟩ ::
⟨(some 32), .bin .gtr (.t 31) (.k (.d (.int .i64 0))), some (28, true)⟩ ::
⟨(some 33), .pick (.t 28) (.t 32) (.k (.d (.bool false))), some (24, false)⟩ ::
⟨(some 34), .pick (.t 24) (.k (.d (.bool true))) (.t 33), none⟩ ::
⟨(some 35), .mv (.t 34), none⟩ ::
⟨(some 36), .fld 11 (.t 1), some (35, false)⟩ ::
⟨(some 37), .load none (.t 36), some (35, false)⟩ ::
⟨(some 38), .len (.t 37), some (35, false)⟩ ::
⟨(some 39), .bin .gtr (.t 38) (.k (.d (.int .i64 64))), some (35, false)⟩ ::
⟨(some 40), .pick (.t 35) (.k (.d (.bool true))) (.t 39), none⟩ :: []) (fullB 37) false)
(.cond (.t 40)
 (.seq
 (.reg [⟨(some 2), .mv (.k (.d (.bool false))), none⟩] (fullB 1) false)
 .ret)
 .skip))
(.seq
(.seq
 (.reg [⟨(some 3), .mv (.k (.d (.int .i64 0))), none⟩] (fullB 1) false)
 (.block 0
 (.loop
 (.seq
 (.seq
  (.reg [⟨(some 41), .mv (.t 3), none⟩,
⟨(some 42), .fld 11 (.t 1), none⟩,
⟨(some 43), .load none (.t 42), none⟩,
⟨(some 44), .len (.t 43), none⟩,
⟨(some 45), .bin .lss (.t 41) (.t 44), none⟩] (fullB 5) false)
  (.cond (.t 45)
  .skip
  (.exit 0)))
 (.seq
  (.block 1
  (.seq
  (.reg [⟨(some 48), .fld 11 (.t 1), none⟩,
⟨(some 49), .load none (.t 48), none⟩,
⟨(some 50), .mv (.t 3), none⟩,
⟨(some 51), .idxS 29 (.t 49) (.t 50), none⟩,
⟨(some 52), .fld 28 (.t 51), none⟩,
⟨(some 53), .load none (.t 52), none⟩,
⟨(some 54), .len (.t 53), none⟩,
⟨(some 55), .bin .gtr (.t 54) (.k (.d (.int .i64 16))), none⟩] (fullB 8) false)
  (.cond (.t 55)
  (.seq
   (.reg [⟨(some 2), .mv (.k (.d (.bool false))), none⟩] (fullB 1) false)
   .ret)
  .skip)))
  (.reg [⟨(some 46), .mv (.t 3), none⟩,
⟨(some 47), .bin .add (.t 46) (.k (.d (.int .i64 1))), none⟩,
⟨(some 3), .mv (.t 47), none⟩] (fullB 3) false))))))
(.seq
 (.reg [⟨(some 2), .mv (.k (.d (.bool true))), none⟩] (fullB 1) false)
 .ret))))
def rv : List RV := [.tmp 2]
/-! live ref06_May: [0, 1, 2, 3, 40, 45, 55] -/
theorem c : cK Try.prog Try.f24.ntmps (Try.f24.body.getD .ret) = some s := by kernel_rfl
theorem b : Try.f24.body = some (Try.f24.body.getD .ret) := by kernel_rfl
theorem r : cRV Try.prog Try.f24.results.toList = some rv := by kernel_rfl
theorem ca : Callable Try.prog 24 = true := by kernel_rfl
theorem enter {args : List SV} {F : Hp} {k nk : Nat} {Q : SV → Hp → Prop} (hargs : SV.oks (fun n => decide (n < k)) args = true) (hF : F.ok (fun n => decide (n < k)) = true) (hN : args.length ≤ 56)
    (h : SW Try.prog 56 k s ⟨argE 0 args, F, k⟩ fun e st' => match e with | .normal => Fin k nk rv Q st' | .ret => Fin k nk rv Q st' | _ => False) : SB Try.prog 24 args F k nk Q :=
  SB.of_body Try.func24 b c r ca hargs hF hN h
end ref06_May
/-! ### tranter.gossip.lacked -/
namespace gossip_lacked
abbrev f : Nat := 25
def s : SCo := (.seq
(.reg [⟨(some 2), .box 25 (.t 0), none⟩,
⟨(some 3), .box 28 (.t 1), none⟩,
⟨(some 4), .mv (.k (.d .nilf)), none⟩] (fullB 3) false)
(.seq
(.reg [⟨(some 5), .mkf (.func 40) [] [(.t 2), (.t 3)], none⟩,
⟨(some 4), .mv (.t 5), none⟩] (fullB 2) false)
.ret))
def rv : List RV := [.tmp 4]
/-! live gossip_lacked: [0, 1, 2, 3, 4] -/
theorem c : cK Try.prog Try.f25.ntmps (Try.f25.body.getD .ret) = some s := by kernel_rfl
theorem b : Try.f25.body = some (Try.f25.body.getD .ret) := by kernel_rfl
theorem r : cRV Try.prog Try.f25.results.toList = some rv := by kernel_rfl
theorem ca : Callable Try.prog 25 = true := by kernel_rfl
theorem enter {args : List SV} {F : Hp} {k nk : Nat} {Q : SV → Hp → Prop} (hargs : SV.oks (fun n => decide (n < k)) args = true) (hF : F.ok (fun n => decide (n < k)) = true) (hN : args.length ≤ 6)
    (h : SW Try.prog 6 k s ⟨argE 0 args, F, k⟩ fun e st' => match e with | .normal => Fin k nk rv Q st' | .ret => Fin k nk rv Q st' | _ => False) : SB Try.prog 25 args F k nk Q :=
  SB.of_body Try.func25 b c r ca hargs hF hN h
end gossip_lacked
/-! ### tranter.tranterref05.Same -/
namespace ref05_Same
abbrev f : Nat := 26
def s : SCo := (.seq
(.reg [⟨(some 2), .box 50 (.t 0), none⟩,
⟨(some 3), .box 50 (.t 1), none⟩,
⟨(some 4), .mv (.k (.d (.bool false))), none⟩] (fullB 3) false)
(.seq
(.seq
(.reg [⟨(some 6), .fld 28 (.t 2), none⟩,
⟨(some 7), .load none (.t 6), none⟩,
⟨(some 8), .len (.t 7), none⟩,
⟨(some 9), .fld 28 (.t 3), none⟩,
⟨(some 10), .load none (.t 9), none⟩,
⟨(some 11), .len (.t 10), none⟩,
⟨(some 12), .bin .neq (.t 8) (.t 11), none⟩] (fullB 7) false)
(.cond (.t 12)
 (.seq
 (.reg [⟨(some 4), .mv (.k (.d (.bool false))), none⟩] (fullB 1) false)
 .ret)
 .skip))
(.seq
(.seq
 (.reg [⟨(some 5), .mv (.k (.d (.int .i64 0))), none⟩] (fullB 1) false)
 (.block 0
 (.loop
 (.seq
 (.seq
  (.reg [⟨(some 13), .mv (.t 5), none⟩,
⟨(some 14), .fld 28 (.t 2), none⟩,
⟨(some 15), .load none (.t 14), none⟩,
⟨(some 16), .len (.t 15), none⟩,
⟨(some 17), .bin .lss (.t 13) (.t 16), none⟩] (fullB 5) false)
  (.cond (.t 17)
  .skip
  (.exit 0)))
 (.seq
  (.block 1
  (.seq
  (.reg [⟨(some 20), .fld 28 (.t 2), none⟩,
⟨(some 21), .load none (.t 20), none⟩,
⟨(some 22), .mv (.t 5), none⟩,
⟨(some 23), .idxS 4 (.t 21) (.t 22), none⟩,
⟨(some 24), .load (some 4) (.t 23), none⟩,
⟨(some 25), .fld 28 (.t 3), none⟩,
⟨(some 26), .load none (.t 25), none⟩,
⟨(some 27), .mv (.t 5), none⟩,
⟨(some 28), .idxS 4 (.t 26) (.t 27), none⟩,
⟨(some 29), .load (some 4) (.t 28), none⟩,
⟨(some 30), .eqv true [true, true, true, true] (.t 24) (.t 29), none⟩] [0,
1,
0,
7,
15,
0,
32,
0,
224,
480,
1023] true)
  (.cond (.t 30)
  (.seq
   (.reg [⟨(some 4), .mv (.k (.d (.bool false))), none⟩] (fullB 1) false)
   .ret)
  .skip)))
  (.reg [⟨(some 18), .mv (.t 5), none⟩,
⟨(some 19), .bin .add (.t 18) (.k (.d (.int .i64 1))), none⟩,
⟨(some 5), .mv (.t 19), none⟩] (fullB 3) false))))))
(.seq
 (.reg (⟨(some 31), .fld 0 (.t 2), none⟩ ::
⟨(some 32), .load (some 2) (.t 31), none⟩ ::
⟨(some 33), .fld 0 (.t 3), none⟩ ::
⟨(some 34), .load (some 2) (.t 33), none⟩ ::
⟨(some 35), .eqv false [true, true] (.t 32) (.t 34), none⟩ ::
⟨(some 36), .mv (.t 35), none⟩ ::
⟨(some 37), .fld 2 (.t 2), some (36, true)⟩ ::
⟨(some 38), .load (some 8) (.t 37), some (36, true)⟩ ::
⟨(some 39), .fld 2 (.t 3), some (36, true)⟩ ::
⟨(some 40), .load (some 8) (.t 39), some (36, true)⟩ ::
⟨(some 41), .eqv false [true, true, true, true, true, true, true, true] (.t 38) (.t 40), some (36, true)⟩ ::
⟨(some 42), .pick (.t 36) (.t 41) (.k (.d (.bool false))), none⟩ ::
⟨(some 43), .mv (.t 42), none⟩ ::
⟨(some 44), .fld 10 (.t 2), some (43, true)⟩ ::
⟨(some 45), .load none (.t 44), some (43, true)⟩ ::
⟨(some 46), .fld 10 (.t 3), some (43, true)⟩ ::
⟨(some 47), .load none (.t 46), some (43, true)⟩ ::
⟨(some 48), .bin .eql (.t 45) (.t 47), some (43, true)⟩ ::
⟨(some 49), .pick (.t 43) (.t 48) (.k (.d (.bool false))), none⟩ ::
⟨(some 50), .mv (.t 49), none⟩ ::
⟨(some 51), .fld 11 (.t 2), some (50, true)⟩ ::
⟨(some 52), .load none (.t 51), some (50, true)⟩ ::
⟨(some 53), .fld 11 (.t 3), some (50, true)⟩ ::
⟨(some 54), .load none (.t 53), some (50, true)⟩ ::
⟨(some 55), .bin .eql (.t 52) (.t 54), some (50, true)⟩ ::
⟨(some 56), .pick (.t 50) (.t 55) (.k (.d (.bool false))), none⟩ ::
⟨(some 57), .mv (.t 56), none⟩ ::
⟨(some 58), .fld 12 (.t 2), some (57, true)⟩ ::
⟨(some 59), .load (some 2) (.t 58), some (57, true)⟩ ::
⟨(some 60), .fld 12 (.t 3), some (57, true)⟩ ::
⟨(some 61), .load (some 2) (.t 60), some (57, true)⟩ ::
⟨(some 62), .eqv false [true, true] (.t 59) (.t 61), some (57, true)⟩ ::
⟨(some 63), .pick (.t 57) (.t 62) (.k (.d (.bool false))), none⟩ ::
⟨(some 64), .mv (.t 63), none⟩ ::
⟨(some 65), .fld 14 (.t 2), some (64, true)⟩ ::
⟨(some 66), .load none (.t 65), some (64, true)⟩ ::
⟨(some 67), .fld 14 (.t 3), some (64, true)⟩ ::
⟨(some 68), .load none (.t 67), some (64, true)⟩ ::
⟨(some 69), .bin .eql (.t 66) (.t 68), some (64, true)⟩ ::
⟨(some 70), .pick (.t 64) (.t 69) (.k (.d (.bool false))), none⟩ ::
⟨(some 71), .mv (.t 70), none⟩ ::
⟨(some 72), .fld 15 (.t 2), some (71, true)⟩ ::
⟨(some 73), .load (some 2) (.t 72), some (71, true)⟩ ::
⟨(some 74), .fld 15 (.t 3), some (71, true)⟩ ::
⟨(some 75), .load (some 2) (.t 74), some (71, true)⟩ ::
⟨(some 76), .eqv false [true, true] (.t 73) (.t 75), some (71, true)⟩ ::
⟨(some 77), .pick (.t 71) (.t 76) (.k (.d (.bool false))), none⟩ ::
⟨(some 78), .mv (.t 77), none⟩ ::
⟨(some 79), .fld 17 (.t 2), some (78, true)⟩ ::
⟨(some 80), .load none (.t 79), some (78, true)⟩ ::
⟨(some 81), .fld 17 (.t 3), some (78, true)⟩ ::
⟨(some 82), .load none (.t 81), some (78, true)⟩ ::
⟨(some 83), .bin .eql (.t 80) (.t 82), some (78, true)⟩ ::
⟨(some 84), .pick (.t 78) (.t 83) (.k (.d (.bool false))), none⟩ ::
⟨(some 85), .mv (.t 84), none⟩ ::
⟨(some 86), .fld 18 (.t 2), some (85, true)⟩ ::
⟨(some 87), .load none (.t 86), some (85, true)⟩ ::
⟨(some 88), .fld 18 (.t 3), some (85, true)⟩ ::
⟨(some 89), .load none (.t 88), some (85, true)⟩ ::
⟨(some 90), .bin .eql (.t 87) (.t 89), some (85, true)⟩ ::
⟨(some 91), .pick (.t 85) (.t 90) (.k (.d (.bool false))), none⟩ ::
⟨(some 92), .mv (.t 91), none⟩ ::
⟨(some 93), .fld 19 (.t 2), some (92, true)⟩ ::
⟨(some 94), .load none (.t 93), some (92, true)⟩ ::
⟨(some 95), .fld 19 (.t 3), some (92, true)⟩ ::
⟨(some 96), .load none (.t 95), some (92, true)⟩ ::
⟨(some 97), .bin .eql (.t 94) (.t 96), some (92, true)⟩ ::
⟨(some 98), .pick (.t 92) (.t 97) (.k (.d (.bool false))), none⟩ ::
⟨(some 99), .mv (.t 98), none⟩ ::
⟨(some 100), .fld 20 (.t 2), some (99, true)⟩ ::
⟨(some 101), .load none (.t 100), some (99, true)⟩ ::
⟨(some 102), .fld 20 (.t 3), some (99, true)⟩ ::
⟨(some 103), .load none (.t 102), some (99, true)⟩ ::
⟨(some 104), .bin .eql (.t 101) (.t 103), some (99, true)⟩ ::
⟨(some 105), .pick (.t 99) (.t 104) (.k (.d (.bool false))), none⟩ ::
⟨(some 106), .mv (.t 105), none⟩ ::
⟨(some 107), .fld 21 (.t 2), some (106, true)⟩ ::
⟨(some 108), .load (some 2) (.t 107), some (106, true)⟩ ::
⟨(some 109), .fld 21 (.t 3), some (106, true)⟩ ::
⟨(some 110), .load (some 2) (.t 109), some (106, true)⟩ ::
⟨(some 111), .eqv false [true, true] (.t 108) (.t 110), some (106, true)⟩ ::
⟨(some 112), .pick (.t 106) (.t 111) (.k (.d (.bool false))), none⟩ ::
⟨(some 113), .mv (.t 112), none⟩ ::
⟨(some 114), .fld 23 (.t 2), some (113, true)⟩ ::
⟨(some 115), .load (some 2) (.t 114), some (113, true)⟩ ::
⟨(some 116), .fld 23 (.t 3), some (113, true)⟩ ::
⟨(some 117), .load (some 2) (.t 116), some (113, true)⟩ ::
⟨(some 118), .eqv false [true, true] (.t 115) (.t 117), some (113, true)⟩ ::
⟨(some 119), .pick (.t 113) (.t 118) (.k (.d (.bool false))), none⟩ ::
⟨(some 120), .mv (.t 119), none⟩ ::
⟨(some 121), .fld 25 (.t 2), some (120, true)⟩ ::
⟨(some 122), .load none (.t 121), some (120, true)⟩ ::
⟨(some 123), .fld 25 (.t 3), some (120, true)⟩ ::
⟨(some 124), .load none (.t 123), some (120, true)⟩ ::
⟨(some 125), .bin .eql (.t 122) (.t 124), some (120, true)⟩ ::
⟨(some 126), .pick (.t 120) (.t 125) (.k (.d (.bool false))), none⟩ ::
⟨(some 127), .mv (.t 126), none⟩ ::
⟨(some 128), .fld 26 (.t 2), some (127, true)⟩ ::
⟨(some 129), .load none (.t 128), some (127, true)⟩ ::
⟨(some 130), .fld 26 (.t 3), some (127, true)⟩ ::
⟨(some 131), .load none (.t 130), some (127, true)⟩ ::
⟨(some 132), .bin .eql (.t 129) (.t 131), some (127, true)⟩ ::
⟨(some 133), .pick (.t 127) (.t 132) (.k (.d (.bool false))), none⟩ ::
⟨(some 134), .mv (.t 133), none⟩ ::
⟨(some 135), .fld 27 (.t 2), some (134, true)⟩ ::
⟨(some 136), .load none (.t 135), some (134, true)⟩ ::
⟨(some 137), .fld 27 (.t 3), some (134, true)⟩ ::
⟨(some 138), .load none (.t 137), some (134, true)⟩ ::
⟨(some 139), .bin .eql (.t 136) (.t 138), some (134, true)⟩ ::
⟨(some 140), .pick (.t 134) (.t 139) (.k (.d (.bool false))), none⟩ ::
⟨(some 4), .mv (.t 140), none⟩ :: []) (fullB 111) false)
 .ret))))
def rv : List RV := [.tmp 4]
/-! live ref05_Same: [0, 1, 2, 3, 4, 5, 12, 17, 30] -/
theorem c : cK Try.prog Try.f26.ntmps (Try.f26.body.getD .ret) = some s := by kernel_rfl
theorem b : Try.f26.body = some (Try.f26.body.getD .ret) := by kernel_rfl
theorem r : cRV Try.prog Try.f26.results.toList = some rv := by kernel_rfl
theorem ca : Callable Try.prog 26 = true := by kernel_rfl
theorem enter {args : List SV} {F : Hp} {k nk : Nat} {Q : SV → Hp → Prop} (hargs : SV.oks (fun n => decide (n < k)) args = true) (hF : F.ok (fun n => decide (n < k)) = true) (hN : args.length ≤ 141)
    (h : SW Try.prog 141 k s ⟨argE 0 args, F, k⟩ fun e st' => match e with | .normal => Fin k nk rv Q st' | .ret => Fin k nk rv Q st' | _ => False) : SB Try.prog 26 args F k nk Q :=
  SB.of_body Try.func26 b c r ca hargs hF hN h
end ref05_Same
/-! ### slices.Collect[tranter.api.Op] -/
namespace slices_Collect_api_Op
abbrev f : Nat := 27
def s : SCo := (.seq
(.reg [⟨(some 2), .mv (.k (.d .nils)), none⟩] (fullB 1) false)
(.seq
(.reg [⟨(some 3), .mv (.t 0), none⟩,
⟨(some 4), .call (.k (.fn (.func 44) [] [])) [(.k (.d .nils)), (.t 3)], none⟩,
⟨(some 2), .mv (.t 4), none⟩] (fullB 3) false)
.ret))
def rv : List RV := [.tmp 2]
/-! live slices_Collect_api_Op: [0, 2] -/
theorem c : cK Try.prog Try.f27.ntmps (Try.f27.body.getD .ret) = some s := by kernel_rfl
theorem b : Try.f27.body = some (Try.f27.body.getD .ret) := by kernel_rfl
theorem r : cRV Try.prog Try.f27.results.toList = some rv := by kernel_rfl
theorem ca : Callable Try.prog 27 = true := by kernel_rfl
theorem enter {args : List SV} {F : Hp} {k nk : Nat} {Q : SV → Hp → Prop} (hargs : SV.oks (fun n => decide (n < k)) args = true) (hF : F.ok (fun n => decide (n < k)) = true) (hN : args.length ≤ 5)
    (h : SW Try.prog 5 k s ⟨argE 0 args, F, k⟩ fun e st' => match e with | .normal => Fin k nk rv Q st' | .ret => Fin k nk rv Q st' | _ => False) : SB Try.prog 27 args F k nk Q :=
  SB.of_body Try.func27 b c r ca hargs hF hN h
end slices_Collect_api_Op
/-! ### tranter.tranterref14.covers -/
namespace ref14_covers
abbrev f : Nat := 28
def s : SCo := (.seq
(.reg [⟨(some 2), .box 28 (.t 0), none⟩,
⟨(some 3), .box 46 (.t 1), none⟩,
⟨(some 4), .mv (.k (.d (.bool false))), none⟩] (fullB 3) false)
(.seq
(.reg (⟨(some 5), .fld 0 (.t 3), none⟩ ::
⟨(some 6), .load none (.t 5), none⟩ ::
⟨(some 7), .bin .lss (.t 6) (.k (.d (.int .u8 8))), none⟩ ::
⟨(some 8), .mv (.t 7), none⟩ ::
⟨(some 9), .fld 1 (.t 3), some (8, true)⟩ ::
⟨(some 10), .load none (.t 9), some (8, true)⟩ ::
⟨(some 11), .bin .geq (.t 10) (.k (.d (.int .u32 1))), some (8, true)⟩ ::
⟨(some 12), .pick (.t 8) (.t 11) (.k (.d (.bool false))), none⟩ ::
⟨(some 13), .mv (.t 12), none⟩ ::
⟨(some 14), .fld 0 (.t 3), some (13, true)⟩ ::
⟨(some 15), .load none (.t 14), some (13, true)⟩ ::
⟨(some 16), .idxA 8 1 (.t 2) (.t 15), some (13, true)⟩ ::
⟨(some 17), .load none (.t 16), some (13, true)⟩ ::
⟨(some 18), .fld 1 (.t 3), some (13, true)⟩ ::
⟨(some 19), .load none (.t 18), some (13, true)⟩ ::
⟨(some 20), .bin .geq (.t 17) (.t 19), some (13, true)⟩ ::
⟨(some 21), .pick (.t 13) (.t 20) (.k (.d (.bool false))), none⟩ ::
⟨(some 4), .mv (.t 21), none⟩ :: []) (0 ::
1 ::
3 ::
7 ::
15 ::
31 ::
63 ::
127 ::
255 ::
511 ::
1023 ::
2047 ::
4095 ::
511 ::
8703 ::
32767 ::
65535 ::
131071 :: []) true)
.ret))
def rv : List RV := [.tmp 4]
/-! live ref14_covers: [0, 1, 2, 3, 4] -/
theorem c : cK Try.prog Try.f28.ntmps (Try.f28.body.getD .ret) = some s := by kernel_rfl
theorem b : Try.f28.body = some (Try.f28.body.getD .ret) := by kernel_rfl
theorem r : cRV Try.prog Try.f28.results.toList = some rv := by kernel_rfl
theorem ca : Callable Try.prog 28 = true := by kernel_rfl
theorem enter {args : List SV} {F : Hp} {k nk : Nat} {Q : SV → Hp → Prop} (hargs : SV.oks (fun n => decide (n < k)) args = true) (hF : F.ok (fun n => decide (n < k)) = true) (hN : args.length ≤ 22)
    (h : SW Try.prog 22 k s ⟨argE 0 args, F, k⟩ fun e st' => match e with | .normal => Fin k nk rv Q st' | .ret => Fin k nk rv Q st' | _ => False) : SB Try.prog 28 args F k nk Q :=
  SB.of_body Try.func28 b c r ca hargs hF hN h
end ref14_covers
/-! ### tranter.tranterref14.has -/
namespace ref14_has
abbrev f : Nat := 29
def s : SCo := (.seq
(.reg [⟨(some 3), .box 46 (.t 1), none⟩,
⟨(some 4), .mv (.k (.d (.bool false))), none⟩] (fullB 2) false)
(.seq
(.seq
(.reg [⟨(some 5), .mv (.k (.d (.int .i64 0))), none⟩] (fullB 1) false)
(.block 0
 (.loop
 (.seq
 (.seq
 (.reg [⟨(some 6), .mv (.t 5), none⟩,
⟨(some 7), .mv (.t 0), none⟩,
⟨(some 8), .len (.t 7), none⟩,
⟨(some 9), .bin .lss (.t 6) (.t 8), none⟩] (fullB 4) false)
 (.cond (.t 9)
  .skip
  (.exit 0)))
 (.seq
 (.block 1
  (.seq
  (.reg [⟨(some 12), .mv (.t 0), none⟩,
⟨(some 13), .mv (.t 5), none⟩,
⟨(some 14), .idxS 29 (.t 12) (.t 13), none⟩,
⟨(some 15), .fld 0 (.t 14), none⟩,
⟨(some 16), .load (some 2) (.t 15), none⟩,
⟨(some 17), .load (some 2) (.t 3), none⟩,
⟨(some 18), .eqv false [true, true] (.t 16) (.t 17), none⟩] [0,
0,
3,
7,
15,
0,
63] true)
  (.cond (.t 18)
  (.seq
  (.reg [⟨(some 4), .mv (.k (.d (.bool true))), none⟩] (fullB 1) false)
  .ret)
  .skip)))
 (.reg [⟨(some 10), .mv (.t 5), none⟩,
⟨(some 11), .bin .add (.t 10) (.k (.d (.int .i64 1))), none⟩,
⟨(some 5), .mv (.t 11), none⟩] (fullB 3) false))))))
(.seq
(.reg [⟨(some 4), .mv (.k (.d (.bool false))), none⟩] (fullB 1) false)
.ret)))
def rv : List RV := [.tmp 4]
/-! live ref14_has: [0, 1, 3, 4, 5, 9, 18] -/
theorem c : cK Try.prog Try.f29.ntmps (Try.f29.body.getD .ret) = some s := by kernel_rfl
theorem b : Try.f29.body = some (Try.f29.body.getD .ret) := by kernel_rfl
theorem r : cRV Try.prog Try.f29.results.toList = some rv := by kernel_rfl
theorem ca : Callable Try.prog 29 = true := by kernel_rfl
theorem enter {args : List SV} {F : Hp} {k nk : Nat} {Q : SV → Hp → Prop} (hargs : SV.oks (fun n => decide (n < k)) args = true) (hF : F.ok (fun n => decide (n < k)) = true) (hN : args.length ≤ 19)
    (h : SW Try.prog 19 k s ⟨argE 0 args, F, k⟩ fun e st' => match e with | .normal => Fin k nk rv Q st' | .ret => Fin k nk rv Q st' | _ => False) : SB Try.prog 29 args F k nk Q :=
  SB.of_body Try.func29 b c r ca hargs hF hN h
end ref14_has
/-! ### tranter.tranterref11.Sorted -/
namespace ref11_Sorted
abbrev f : Nat := 30
def s : SCo := (.seq
(.reg [⟨(some 2), .mv (.k (.d .nils)), none⟩] (fullB 1) false)
(.seq
(.reg [⟨(some 3), .mv (.k (.d .nils)), none⟩] (fullB 1) false)
(.seq
(.seq
 (.reg [⟨(some 4), .mv (.k (.d (.int .i64 0))), none⟩] (fullB 1) false)
 (.block 0
 (.loop
 (.seq
 (.seq
  (.reg [⟨(some 6), .mv (.t 4), none⟩,
⟨(some 7), .mv (.t 0), none⟩,
⟨(some 8), .len (.t 7), none⟩,
⟨(some 9), .bin .lss (.t 6) (.t 8), none⟩] (fullB 4) false)
  (.cond (.t 9)
  .skip
  (.exit 0)))
 (.seq
  (.block 1
  (.seq
  (.reg [⟨(some 5), .mv (.k (.d (.int .i64 0))), none⟩] (fullB 1) false)
  (.seq
  (.block 2
   (.loop
   (.seq
   (.seq
   (.reg [⟨(some 12), .mv (.t 5), none⟩,
⟨(some 13), .mv (.t 3), none⟩,
⟨(some 14), .len (.t 13), none⟩,
⟨(some 15), .bin .lss (.t 12) (.t 14), none⟩,
⟨(some 16), .mv (.t 15), none⟩,
⟨(some 17), .mv (.t 3), some (16, true)⟩,
⟨(some 18), .mv (.t 5), some (16, true)⟩,
⟨(some 19), .idxS 29 (.t 17) (.t 18), some (16, true)⟩,
⟨(some 20), .load (some 29) (.t 19), some (16, true)⟩,
⟨(some 21), .mv (.t 0), some (16, true)⟩,
⟨(some 22), .mv (.t 4), some (16, true)⟩,
⟨(some 23), .idxS 29 (.t 21) (.t 22), some (16, true)⟩,
⟨(some 24), .load (some 29) (.t 23), some (16, true)⟩,
⟨(some 25), .call (.k (.fn (.func 45) [] [])) [(.t 20), (.t 24)], some (16, true)⟩,
⟨(some 26), .pick (.t 16) (.t 25) (.k (.d (.bool false))), none⟩] [0,
0,
2,
7,
15,
31,
31,
127,
255,
31,
31,
1567,
3615,
8191,
16383] true)
   (.cond (.t 26)
    .skip
    (.exit 2)))
   (.block 3
   (.reg [⟨(some 27), .mv (.t 5), none⟩,
⟨(some 28), .bin .add (.t 27) (.k (.d (.int .i64 1))), none⟩,
⟨(some 5), .mv (.t 28), none⟩] (fullB 3) false)))))
  (.reg (⟨(some 29), .bsl 50 29 0 [] [], none⟩ ::
⟨(some 30), .mv (.t 3), none⟩ ::
⟨(some 31), .mv (.t 5), none⟩ ::
⟨(some 32), .slc 29 (.t 30) none (some (.t 31)), none⟩ ::
⟨(some 33), .app 50 29 144 (.t 29) (.t 32), none⟩ ::
⟨(some 34), .mv (.t 0), none⟩ ::
⟨(some 35), .mv (.t 4), none⟩ ::
⟨(some 36), .idxS 29 (.t 34) (.t 35), none⟩ ::
⟨(some 37), .load (some 29) (.t 36), none⟩ ::
⟨(some 38), .bsl 50 29 1 [(.d (.int .u8 0)), (.d (.int .u32 0)), (.d (.int .u32 0)), (.d (.int .u32 0)), (.d (.int .u32 0)), (.d (.int .u32 0)), (.d (.int .u32 0)), (.d (.int .u32 0)), (.d (.int .u32 0)), (.d (.int .u32 0)), (.d (.int .u64 0)), (.d (.int .u32 0)), (.d (.int .u8 0)), (.d (.int .u32 0)), (.d (.int .u8 0)), (.d (.int .u8 0)), (.d (.int .u32 0)), (.d (.int .u32 0)), (.d (.int .u8 0)), (.d (.int .u8 0)), (.d (.int .u64 0)), (.d (.int .u8 0)), (.d (.int .u32 0)), (.d (.int .u8 0)), (.d (.int .u32 0)), (.d (.int .u32 0)), (.d (.int .u32 0)), (.d (.int .u32 0)), (.d .nils)] [(0, 29, (.t 37))], none⟩ ::
⟨(some 39), .app 50 29 144 (.t 33) (.t 38), none⟩ ::
⟨(some 40), .mv (.t 3), none⟩ ::
⟨(some 41), .mv (.t 5), none⟩ ::
⟨(some 42), .slc 29 (.t 40) (some (.t 41)) none, none⟩ ::
⟨(some 43), .app 50 29 144 (.t 39) (.t 42), none⟩ ::
⟨(some 3), .mv (.t 43), none⟩ :: []) (0 ::
0 ::
0 ::
6 ::
15 ::
0 ::
0 ::
96 ::
224 ::
480 ::
1023 ::
0 ::
0 ::
6144 ::
16383 ::
32767 :: []) true))))
  (.reg [⟨(some 10), .mv (.t 4), none⟩,
⟨(some 11), .bin .add (.t 10) (.k (.d (.int .i64 1))), none⟩,
⟨(some 4), .mv (.t 11), none⟩] (fullB 3) false))))))
(.seq
 (.reg [⟨(some 44), .mv (.t 3), none⟩,
⟨(some 2), .mv (.t 44), none⟩] (fullB 2) false)
 .ret))))
def rv : List RV := [.tmp 2]
/-! live ref11_Sorted: [0, 2, 3, 4, 5, 9, 26] -/
theorem c : cK Try.prog Try.f30.ntmps (Try.f30.body.getD .ret) = some s := by kernel_rfl
theorem b : Try.f30.body = some (Try.f30.body.getD .ret) := by kernel_rfl
theorem r : cRV Try.prog Try.f30.results.toList = some rv := by kernel_rfl
theorem ca : Callable Try.prog 30 = true := by kernel_rfl
theorem enter {args : List SV} {F : Hp} {k nk : Nat} {Q : SV → Hp → Prop} (hargs : SV.oks (fun n => decide (n < k)) args = true) (hF : F.ok (fun n => decide (n < k)) = true) (hN : args.length ≤ 45)
    (h : SW Try.prog 45 k s ⟨argE 0 args, F, k⟩ fun e st' => match e with | .normal => Fin k nk rv Q st' | .ret => Fin k nk rv Q st' | _ => False) : SB Try.prog 30 args F k nk Q :=
  SB.of_body Try.func30 b c r ca hargs hF hN h
end ref11_Sorted
/-! ### cmp.Or[int] -/
namespace cmp_Or_int
abbrev f : Nat := 31
def s : SCo := (.seq
(.reg [⟨(some 2), .mv (.k (.d (.int .i64 0))), none⟩] (fullB 1) false)
(.seq
(.reg [⟨(some 3), .mv (.k (.d (.int .i64 0))), none⟩] (fullB 1) false)
(.seq
(.seq
 (.reg [⟨(some 6), .mv (.t 0), none⟩,
⟨(some 7), .len (.t 6), none⟩,
⟨(some 8), .mv (.k (.d (.int .i64 0))), none⟩] (fullB 3) false)
 (.block 0
 (.loop
 (.seq
 (.reg [⟨(some 9), .bin .lss (.t 8) (.t 7), none⟩] (fullB 1) false)
 (.seq
  (.cond (.t 9)
  .skip
  (.exit 0))
  (.seq
  (.block 1
  (.seq
  (.reg [⟨(some 10), .idxS 1 (.t 6) (.t 8), none⟩,
⟨(some 11), .load none (.t 10), none⟩,
⟨(some 5), .mv (.t 11), none⟩] (fullB 3) false)
  (.seq
   (.reg [⟨(some 12), .mv (.t 5), none⟩,
⟨(some 13), .mv (.t 3), none⟩,
⟨(some 14), .bin .neq (.t 12) (.t 13), none⟩] (fullB 3) false)
   (.cond (.t 14)
   (.seq
   (.reg [⟨(some 15), .mv (.t 5), none⟩,
⟨(some 2), .mv (.t 15), none⟩] (fullB 2) false)
   .ret)
   .skip))))
  (.reg [⟨(some 16), .bin .add (.t 8) (.k (.d (.int .i64 1))), none⟩,
⟨(some 8), .mv (.t 16), none⟩] (fullB 2) false)))))))
(.seq
 (.reg [⟨(some 17), .mv (.t 3), none⟩,
⟨(some 2), .mv (.t 17), none⟩] (fullB 2) false)
 .ret))))
def rv : List RV := [.tmp 2]
/-! live cmp_Or_int: [0, 2, 3, 5, 6, 7, 8, 9, 14] -/
theorem c : cK Try.prog Try.f31.ntmps (Try.f31.body.getD .ret) = some s := by kernel_rfl
theorem b : Try.f31.body = some (Try.f31.body.getD .ret) := by kernel_rfl
theorem r : cRV Try.prog Try.f31.results.toList = some rv := by kernel_rfl
theorem ca : Callable Try.prog 31 = true := by kernel_rfl
theorem enter {args : List SV} {F : Hp} {k nk : Nat} {Q : SV → Hp → Prop} (hargs : SV.oks (fun n => decide (n < k)) args = true) (hF : F.ok (fun n => decide (n < k)) = true) (hN : args.length ≤ 18)
    (h : SW Try.prog 18 k s ⟨argE 0 args, F, k⟩ fun e st' => match e with | .normal => Fin k nk rv Q st' | .ret => Fin k nk rv Q st' | _ => False) : SB Try.prog 31 args F k nk Q :=
  SB.of_body Try.func31 b c r ca hargs hF hN h
end cmp_Or_int
/-! ### cmp.Compare[uint64] -/
namespace cmp_Compare_uint64
abbrev f : Nat := 32
def s : SCo := (.seq
(.reg [⟨(some 4), .mv (.k (.d (.int .i64 0))), none⟩] (fullB 1) false)
(.seq
(.reg [⟨(some 7), .mv (.t 0), none⟩,
⟨(some 8), .call (.k (.fn (.func 46) [] [])) [(.t 7)], none⟩,
⟨(some 5), .mv (.t 8), none⟩] (fullB 3) false)
(.seq
(.reg [⟨(some 9), .mv (.t 1), none⟩,
⟨(some 10), .call (.k (.fn (.func 46) [] [])) [(.t 9)], none⟩,
⟨(some 6), .mv (.t 10), none⟩] (fullB 3) false)
(.seq
 (.seq
 (.reg [⟨(some 11), .mv (.t 5), none⟩] (fullB 1) false)
 (.cond (.t 11)
 (.seq
 (.seq
  (.reg [⟨(some 12), .mv (.t 6), none⟩] (fullB 1) false)
  (.cond (.t 12)
  (.seq
  (.reg [⟨(some 4), .mv (.k (.d (.int .i64 0))), none⟩] (fullB 1) false)
  .ret)
  .skip))
 (.seq
  (.reg [⟨(some 4), .mv (.k (.d (.int .i64 (-1)))), none⟩] (fullB 1) false)
  .ret))
 .skip))
 (.seq
 (.seq
 (.reg [⟨(some 13), .mv (.t 6), none⟩] (fullB 1) false)
 (.cond (.t 13)
 (.seq
  (.reg [⟨(some 4), .mv (.k (.d (.int .i64 1))), none⟩] (fullB 1) false)
  .ret)
 .skip))
 (.seq
 (.seq
 (.reg [⟨(some 14), .mv (.t 0), none⟩,
⟨(some 15), .mv (.t 1), none⟩,
⟨(some 16), .bin .lss (.t 14) (.t 15), none⟩] (fullB 3) false)
 (.cond (.t 16)
  (.seq
  (.reg [⟨(some 4), .mv (.k (.d (.int .i64 (-1)))), none⟩] (fullB 1) false)
  .ret)
  .skip))
 (.seq
 (.seq
  (.reg [⟨(some 17), .mv (.t 0), none⟩,
⟨(some 18), .mv (.t 1), none⟩,
⟨(some 19), .bin .gtr (.t 17) (.t 18), none⟩] (fullB 3) false)
  (.cond (.t 19)
  (.seq
  (.reg [⟨(some 4), .mv (.k (.d (.int .i64 1))), none⟩] (fullB 1) false)
  .ret)
  .skip))
 (.seq
  (.reg [⟨(some 4), .mv (.k (.d (.int .i64 0))), none⟩] (fullB 1) false)
  .ret))))))))
def rv : List RV := [.tmp 4]
/-! live cmp_Compare_uint64: [0, 1, 4, 5, 6, 11, 12, 13, 16, 19] -/
theorem c : cK Try.prog Try.f32.ntmps (Try.f32.body.getD .ret) = some s := by kernel_rfl
theorem b : Try.f32.body = some (Try.f32.body.getD .ret) := by kernel_rfl
theorem r : cRV Try.prog Try.f32.results.toList = some rv := by kernel_rfl
theorem ca : Callable Try.prog 32 = true := by kernel_rfl
theorem enter {args : List SV} {F : Hp} {k nk : Nat} {Q : SV → Hp → Prop} (hargs : SV.oks (fun n => decide (n < k)) args = true) (hF : F.ok (fun n => decide (n < k)) = true) (hN : args.length ≤ 20)
    (h : SW Try.prog 20 k s ⟨argE 0 args, F, k⟩ fun e st' => match e with | .normal => Fin k nk rv Q st' | .ret => Fin k nk rv Q st' | _ => False) : SB Try.prog 32 args F k nk Q :=
  SB.of_body Try.func32 b c r ca hargs hF hN h
end cmp_Compare_uint64
/-! ### cmp.Compare[uint8] -/
namespace cmp_Compare_uint8
abbrev f : Nat := 33
def s : SCo := (.seq
(.reg [⟨(some 4), .mv (.k (.d (.int .i64 0))), none⟩] (fullB 1) false)
(.seq
(.reg [⟨(some 7), .mv (.t 0), none⟩,
⟨(some 8), .call (.k (.fn (.func 47) [] [])) [(.t 7)], none⟩,
⟨(some 5), .mv (.t 8), none⟩] (fullB 3) false)
(.seq
(.reg [⟨(some 9), .mv (.t 1), none⟩,
⟨(some 10), .call (.k (.fn (.func 47) [] [])) [(.t 9)], none⟩,
⟨(some 6), .mv (.t 10), none⟩] (fullB 3) false)
(.seq
 (.seq
 (.reg [⟨(some 11), .mv (.t 5), none⟩] (fullB 1) false)
 (.cond (.t 11)
 (.seq
 (.seq
  (.reg [⟨(some 12), .mv (.t 6), none⟩] (fullB 1) false)
  (.cond (.t 12)
  (.seq
  (.reg [⟨(some 4), .mv (.k (.d (.int .i64 0))), none⟩] (fullB 1) false)
  .ret)
  .skip))
 (.seq
  (.reg [⟨(some 4), .mv (.k (.d (.int .i64 (-1)))), none⟩] (fullB 1) false)
  .ret))
 .skip))
 (.seq
 (.seq
 (.reg [⟨(some 13), .mv (.t 6), none⟩] (fullB 1) false)
 (.cond (.t 13)
 (.seq
  (.reg [⟨(some 4), .mv (.k (.d (.int .i64 1))), none⟩] (fullB 1) false)
  .ret)
 .skip))
 (.seq
 (.seq
 (.reg [⟨(some 14), .mv (.t 0), none⟩,
⟨(some 15), .mv (.t 1), none⟩,
⟨(some 16), .bin .lss (.t 14) (.t 15), none⟩] (fullB 3) false)
 (.cond (.t 16)
  (.seq
  (.reg [⟨(some 4), .mv (.k (.d (.int .i64 (-1)))), none⟩] (fullB 1) false)
  .ret)
  .skip))
 (.seq
 (.seq
  (.reg [⟨(some 17), .mv (.t 0), none⟩,
⟨(some 18), .mv (.t 1), none⟩,
⟨(some 19), .bin .gtr (.t 17) (.t 18), none⟩] (fullB 3) false)
  (.cond (.t 19)
  (.seq
  (.reg [⟨(some 4), .mv (.k (.d (.int .i64 1))), none⟩] (fullB 1) false)
  .ret)
  .skip))
 (.seq
  (.reg [⟨(some 4), .mv (.k (.d (.int .i64 0))), none⟩] (fullB 1) false)
  .ret))))))))
def rv : List RV := [.tmp 4]
/-! live cmp_Compare_uint8: [0, 1, 4, 5, 6, 11, 12, 13, 16, 19] -/
theorem c : cK Try.prog Try.f33.ntmps (Try.f33.body.getD .ret) = some s := by kernel_rfl
theorem b : Try.f33.body = some (Try.f33.body.getD .ret) := by kernel_rfl
theorem r : cRV Try.prog Try.f33.results.toList = some rv := by kernel_rfl
theorem ca : Callable Try.prog 33 = true := by kernel_rfl
theorem enter {args : List SV} {F : Hp} {k nk : Nat} {Q : SV → Hp → Prop} (hargs : SV.oks (fun n => decide (n < k)) args = true) (hF : F.ok (fun n => decide (n < k)) = true) (hN : args.length ≤ 20)
    (h : SW Try.prog 20 k s ⟨argE 0 args, F, k⟩ fun e st' => match e with | .normal => Fin k nk rv Q st' | .ret => Fin k nk rv Q st' | _ => False) : SB Try.prog 33 args F k nk Q :=
  SB.of_body Try.func33 b c r ca hargs hF hN h
end cmp_Compare_uint8
/-! ### cmp.Compare[uint32] -/
namespace cmp_Compare_uint32
abbrev f : Nat := 34
def s : SCo := (.seq
(.reg [⟨(some 4), .mv (.k (.d (.int .i64 0))), none⟩] (fullB 1) false)
(.seq
(.reg [⟨(some 7), .mv (.t 0), none⟩,
⟨(some 8), .call (.k (.fn (.func 48) [] [])) [(.t 7)], none⟩,
⟨(some 5), .mv (.t 8), none⟩] (fullB 3) false)
(.seq
(.reg [⟨(some 9), .mv (.t 1), none⟩,
⟨(some 10), .call (.k (.fn (.func 48) [] [])) [(.t 9)], none⟩,
⟨(some 6), .mv (.t 10), none⟩] (fullB 3) false)
(.seq
 (.seq
 (.reg [⟨(some 11), .mv (.t 5), none⟩] (fullB 1) false)
 (.cond (.t 11)
 (.seq
 (.seq
  (.reg [⟨(some 12), .mv (.t 6), none⟩] (fullB 1) false)
  (.cond (.t 12)
  (.seq
  (.reg [⟨(some 4), .mv (.k (.d (.int .i64 0))), none⟩] (fullB 1) false)
  .ret)
  .skip))
 (.seq
  (.reg [⟨(some 4), .mv (.k (.d (.int .i64 (-1)))), none⟩] (fullB 1) false)
  .ret))
 .skip))
 (.seq
 (.seq
 (.reg [⟨(some 13), .mv (.t 6), none⟩] (fullB 1) false)
 (.cond (.t 13)
 (.seq
  (.reg [⟨(some 4), .mv (.k (.d (.int .i64 1))), none⟩] (fullB 1) false)
  .ret)
 .skip))
 (.seq
 (.seq
 (.reg [⟨(some 14), .mv (.t 0), none⟩,
⟨(some 15), .mv (.t 1), none⟩,
⟨(some 16), .bin .lss (.t 14) (.t 15), none⟩] (fullB 3) false)
 (.cond (.t 16)
  (.seq
  (.reg [⟨(some 4), .mv (.k (.d (.int .i64 (-1)))), none⟩] (fullB 1) false)
  .ret)
  .skip))
 (.seq
 (.seq
  (.reg [⟨(some 17), .mv (.t 0), none⟩,
⟨(some 18), .mv (.t 1), none⟩,
⟨(some 19), .bin .gtr (.t 17) (.t 18), none⟩] (fullB 3) false)
  (.cond (.t 19)
  (.seq
  (.reg [⟨(some 4), .mv (.k (.d (.int .i64 1))), none⟩] (fullB 1) false)
  .ret)
  .skip))
 (.seq
  (.reg [⟨(some 4), .mv (.k (.d (.int .i64 0))), none⟩] (fullB 1) false)
  .ret))))))))
def rv : List RV := [.tmp 4]
/-! live cmp_Compare_uint32: [0, 1, 4, 5, 6, 11, 12, 13, 16, 19] -/
theorem c : cK Try.prog Try.f34.ntmps (Try.f34.body.getD .ret) = some s := by kernel_rfl
theorem b : Try.f34.body = some (Try.f34.body.getD .ret) := by kernel_rfl
theorem r : cRV Try.prog Try.f34.results.toList = some rv := by kernel_rfl
theorem ca : Callable Try.prog 34 = true := by kernel_rfl
theorem enter {args : List SV} {F : Hp} {k nk : Nat} {Q : SV → Hp → Prop} (hargs : SV.oks (fun n => decide (n < k)) args = true) (hF : F.ok (fun n => decide (n < k)) = true) (hN : args.length ≤ 20)
    (h : SW Try.prog 20 k s ⟨argE 0 args, F, k⟩ fun e st' => match e with | .normal => Fin k nk rv Q st' | .ret => Fin k nk rv Q st' | _ => False) : SB Try.prog 34 args F k nk Q :=
  SB.of_body Try.func34 b c r ca hargs hF hN h
end cmp_Compare_uint32
/-! ### tranter.order.indexOf -/
namespace order_indexOf
abbrev f : Nat := 35
def s : SCo := (.seq
(.reg [⟨(some 2), .alloc 71 [(.d .nils), (.d .nilm)], none⟩] (fullB 1) false)
(.seq
(.reg [⟨(some 8), .mv (.t 0), none⟩,
⟨(some 9), .mkm, none⟩,
⟨(some 10), .bld [(.d .nils), (.d .nilm)] [(0, 1, (.t 8)), (1, 1, (.t 9))], none⟩,
⟨(some 3), .alloc 71 [(.d .nils), (.d .nilm)], none⟩,
⟨none, .store 2 (.t 3) (.t 10), none⟩] (fullB 5) false)
(.seq
(.seq
 (.reg [⟨(some 11), .mv (.t 0), none⟩,
⟨(some 12), .len (.t 11), none⟩,
⟨(some 13), .mv (.k (.d (.int .i64 0))), none⟩] (fullB 3) false)
 (.block 0
 (.loop
 (.seq
 (.reg [⟨(some 14), .bin .lss (.t 13) (.t 12), none⟩] (fullB 1) false)
 (.seq
  (.cond (.t 14)
  .skip
  (.exit 0))
  (.seq
  (.block 1
  (.seq
  (.reg [⟨(some 15), .mv (.t 13), none⟩,
⟨(some 16), .idxS 29 (.t 11) (.t 13), none⟩,
⟨(some 17), .load (some 29) (.t 16), none⟩,
⟨(some 5), .alloc 50 [(.d (.int .u8 0)), (.d (.int .u32 0)), (.d (.int .u32 0)), (.d (.int .u32 0)), (.d (.int .u32 0)), (.d (.int .u32 0)), (.d (.int .u32 0)), (.d (.int .u32 0)), (.d (.int .u32 0)), (.d (.int .u32 0)), (.d (.int .u64 0)), (.d (.int .u32 0)), (.d (.int .u8 0)), (.d (.int .u32 0)), (.d (.int .u8 0)), (.d (.int .u8 0)), (.d (.int .u32 0)), (.d (.int .u32 0)), (.d (.int .u8 0)), (.d (.int .u8 0)), (.d (.int .u64 0)), (.d (.int .u8 0)), (.d (.int .u32 0)), (.d (.int .u8 0)), (.d (.int .u32 0)), (.d (.int .u32 0)), (.d (.int .u32 0)), (.d (.int .u32 0)), (.d .nils)], none⟩,
⟨(some 4), .mv (.t 15), none⟩,
⟨none, .store 29 (.t 5) (.t 17), none⟩] (fullB 6) false)
  (.seq
   (.reg [⟨(some 19), .fld 1 (.t 3), none⟩,
⟨(some 20), .load none (.t 19), none⟩,
⟨(some 21), .fld 0 (.t 5), none⟩,
⟨(some 22), .load (some 2) (.t 21), none⟩,
⟨(some 23), .look [true, true] true (.d (.int .i64 0)) (.t 20) (.t 22) true, none⟩,
⟨(some 18), .mv (.t 23), none⟩,
⟨(some 24), .ext 0 (.t 18), none⟩,
⟨(some 25), .ext 1 (.t 18), none⟩,
⟨(some 6), .mv (.t 24), none⟩,
⟨(some 7), .mv (.t 25), none⟩] (fullB 10) false)
   (.seq
   (.reg [⟨(some 26), .mv (.t 7), none⟩,
⟨(some 27), .not (.t 26), none⟩] (fullB 2) false)
   (.cond (.t 27)
   (.reg [⟨(some 28), .fld 1 (.t 3), none⟩,
⟨(some 29), .load none (.t 28), none⟩,
⟨(some 30), .fld 0 (.t 5), none⟩,
⟨(some 31), .load (some 2) (.t 30), none⟩,
⟨(some 32), .mv (.t 4), none⟩,
⟨none, .mset [true, true] true (.t 29) (.t 31) (.t 32), none⟩] (fullB 6) false)
   .skip)))))
  (.reg [⟨(some 33), .bin .add (.t 13) (.k (.d (.int .i64 1))), none⟩,
⟨(some 13), .mv (.t 33), none⟩] (fullB 2) false)))))))
(.seq
 (.reg [⟨(some 34), .load (some 2) (.t 3), none⟩,
⟨none, .store 2 (.t 2) (.t 34), none⟩] (fullB 2) false)
 .ret))))
def rv : List RV := [.cell 2 (some 2)]
/-! live order_indexOf: [0, 2, 3, 4, 5, 7, 11, 12, 13, 14, 27] -/
theorem c : cK Try.prog Try.f35.ntmps (Try.f35.body.getD .ret) = some s := by kernel_rfl
theorem b : Try.f35.body = some (Try.f35.body.getD .ret) := by kernel_rfl
theorem r : cRV Try.prog Try.f35.results.toList = some rv := by kernel_rfl
theorem ca : Callable Try.prog 35 = true := by kernel_rfl
theorem enter {args : List SV} {F : Hp} {k nk : Nat} {Q : SV → Hp → Prop} (hargs : SV.oks (fun n => decide (n < k)) args = true) (hF : F.ok (fun n => decide (n < k)) = true) (hN : args.length ≤ 35)
    (h : SW Try.prog 35 k s ⟨argE 0 args, F, k⟩ fun e st' => match e with | .normal => Fin k nk rv Q st' | .ret => Fin k nk rv Q st' | _ => False) : SB Try.prog 35 args F k nk Q :=
  SB.of_body Try.func35 b c r ca hargs hF hN h
end order_indexOf
/-! ### slices.SortedFunc[int] -/
namespace slices_SortedFunc_int
abbrev f : Nat := 36
def s : SCo := (.seq
(.reg [⟨(some 4), .mv (.k (.d .nils)), none⟩] (fullB 1) false)
(.seq
(.reg [⟨(some 6), .mv (.t 0), none⟩,
⟨(some 7), .call (.k (.fn (.func 49) [] [])) [(.t 6)], none⟩,
⟨(some 5), .mv (.t 7), none⟩] (fullB 3) false)
(.seq
(.reg [⟨(some 8), .mv (.t 5), none⟩,
⟨(some 9), .mv (.t 1), none⟩,
⟨(some 10), .call (.k (.fn (.func 50) [] [])) [(.t 8), (.t 9)], none⟩] (fullB 3) false)
(.seq
 (.reg [⟨(some 11), .mv (.t 5), none⟩,
⟨(some 4), .mv (.t 11), none⟩] (fullB 2) false)
 .ret))))
def rv : List RV := [.tmp 4]
/-! live slices_SortedFunc_int: [0, 1, 4, 5] -/
theorem c : cK Try.prog Try.f36.ntmps (Try.f36.body.getD .ret) = some s := by kernel_rfl
theorem b : Try.f36.body = some (Try.f36.body.getD .ret) := by kernel_rfl
theorem r : cRV Try.prog Try.f36.results.toList = some rv := by kernel_rfl
theorem ca : Callable Try.prog 36 = true := by kernel_rfl
theorem enter {args : List SV} {F : Hp} {k nk : Nat} {Q : SV → Hp → Prop} (hargs : SV.oks (fun n => decide (n < k)) args = true) (hF : F.ok (fun n => decide (n < k)) = true) (hN : args.length ≤ 12)
    (h : SW Try.prog 12 k s ⟨argE 0 args, F, k⟩ fun e st' => match e with | .normal => Fin k nk rv Q st' | .ret => Fin k nk rv Q st' | _ => False) : SB Try.prog 36 args F k nk Q :=
  SB.of_body Try.func36 b c r ca hargs hF hN h
end slices_SortedFunc_int
/-! ### (tranter.order.index).once -/
namespace order_index_once
abbrev f : Nat := 37
def s : SCo := (.seq
(.reg [⟨(some 1), .box 71 (.t 0), none⟩,
⟨(some 2), .mv (.k (.d .nilf)), none⟩] (fullB 2) false)
(.seq
(.reg [⟨(some 3), .mkf (.func 51) [] [(.t 1)], none⟩,
⟨(some 2), .mv (.t 3), none⟩] (fullB 2) false)
.ret))
def rv : List RV := [.tmp 2]
/-! live order_index_once: [0, 1, 2] -/
theorem c : cK Try.prog Try.f37.ntmps (Try.f37.body.getD .ret) = some s := by kernel_rfl
theorem b : Try.f37.body = some (Try.f37.body.getD .ret) := by kernel_rfl
theorem r : cRV Try.prog Try.f37.results.toList = some rv := by kernel_rfl
theorem ca : Callable Try.prog 37 = true := by kernel_rfl
theorem enter {args : List SV} {F : Hp} {k nk : Nat} {Q : SV → Hp → Prop} (hargs : SV.oks (fun n => decide (n < k)) args = true) (hF : F.ok (fun n => decide (n < k)) = true) (hN : args.length ≤ 4)
    (h : SW Try.prog 4 k s ⟨argE 0 args, F, k⟩ fun e st' => match e with | .normal => Fin k nk rv Q st' | .ret => Fin k nk rv Q st' | _ => False) : SB Try.prog 37 args F k nk Q :=
  SB.of_body Try.func37 b c r ca hargs hF hN h
end order_index_once
/-! ### (tranter.order.index).compare -/
namespace order_index_compare
abbrev f : Nat := 38
def s : SCo := (.seq
(.reg [⟨(some 3), .box 71 (.t 0), none⟩,
⟨(some 6), .mv (.k (.d (.int .i64 0))), none⟩] (fullB 2) false)
(.seq
(.reg [⟨(some 7), .fld 0 (.t 3), none⟩,
⟨(some 8), .load none (.t 7), none⟩,
⟨(some 9), .mv (.t 1), none⟩,
⟨(some 10), .idxS 29 (.t 8) (.t 9), none⟩,
⟨(some 11), .load (some 29) (.t 10), none⟩,
⟨(some 12), .fld 0 (.t 3), none⟩,
⟨(some 13), .load none (.t 12), none⟩,
⟨(some 14), .mv (.t 2), none⟩,
⟨(some 15), .idxS 29 (.t 13) (.t 14), none⟩,
⟨(some 16), .load (some 29) (.t 15), none⟩,
⟨(some 17), .call (.k (.fn (.func 18) [] [])) [(.t 11), (.t 16)], none⟩,
⟨(some 6), .mv (.t 17), none⟩] [0,
1,
0,
7,
15,
0,
32,
0,
224,
480,
1023,
2047] true)
.ret))
def rv : List RV := [.tmp 6]
/-! live order_index_compare: [0, 1, 2, 3, 6] -/
theorem c : cK Try.prog Try.f38.ntmps (Try.f38.body.getD .ret) = some s := by kernel_rfl
theorem b : Try.f38.body = some (Try.f38.body.getD .ret) := by kernel_rfl
theorem r : cRV Try.prog Try.f38.results.toList = some rv := by kernel_rfl
theorem ca : Callable Try.prog 38 = true := by kernel_rfl
theorem enter {args : List SV} {F : Hp} {k nk : Nat} {Q : SV → Hp → Prop} (hargs : SV.oks (fun n => decide (n < k)) args = true) (hF : F.ok (fun n => decide (n < k)) = true) (hN : args.length ≤ 18)
    (h : SW Try.prog 18 k s ⟨argE 0 args, F, k⟩ fun e st' => match e with | .normal => Fin k nk rv Q st' | .ret => Fin k nk rv Q st' | _ => False) : SB Try.prog 38 args F k nk Q :=
  SB.of_body Try.func38 b c r ca hargs hF hN h
end order_index_compare
/-! ### tranter.frame.May -/
namespace frame_May
abbrev f : Nat := 39
def s : SCo := (.seq
(.reg [⟨(some 1), .box 33 (.t 0), none⟩,
⟨(some 2), .mv (.k (.d (.bool false))), none⟩] (fullB 2) false)
(.seq
(.reg [⟨(some 4), .fld 11 (.t 1), none⟩,
⟨(some 5), .load none (.t 4), none⟩,
⟨(some 6), .call (.k (.fn (.func 52) [] [])) [(.t 5), (.k (.fn (.func 53) [] []))], none⟩,
⟨(some 3), .mv (.t 6), none⟩] (fullB 4) false)
(.seq
(.reg (⟨(some 7), .fld 0 (.t 1), none⟩ ::
⟨(some 8), .load none (.t 7), none⟩ ::
⟨(some 9), .bin .leq (.t 8) (.k (.d (.int .u8 1))), none⟩ ::
⟨(some 10), .fld 1 (.t 1), none⟩ ::
⟨(some 11), .load none (.t 10), none⟩ ::
⟨(some 12), .fld 2 (.t 1), none⟩ ::
⟨(some 13), .load none (.t 12), none⟩ ::
⟨(some 14), .mx (.t 11) (.t 13), none⟩ ::
⟨(some 15), .bin .lss (.t 14) (.k (.d (.int .u8 8))), none⟩ ::
⟨(some 16), .fld 1 (.t 1), none⟩ ::
⟨(some 17), .load none (.t 16), none⟩ ::
⟨(some 18), .fld 2 (.t 1), none⟩ ::
⟨(some 19), .load none (.t 18), none⟩ ::
⟨(some 20), .bin .neq (.t 17) (.t 19), none⟩ ::
⟨(some 21), .fld 0 (.t 1), none⟩ ::
⟨(some 22), .load none (.t 21), none⟩ ::
⟨(some 23), .bin .eql (.t 22) (.k (.d (.int .u8 1))), none⟩ ::
⟨(some 24), .mv (.t 23), none⟩ ::
⟨(some 25), .fld 11 (.t 1), some (24, false)⟩ ::
⟨(some 26), .load none (.t 25), some (24, false)⟩ ::
⟨(some 27), .len (.t 26), some (24, false)⟩ ::
⟨(some 28), .bin .eql (.t 27) (.k (.d (.int .i64 0))), some (24, false)⟩ ::
⟨(some 29), .pick (.t 24) (.k (.d (.bool true))) (.t 28), none⟩ ::
⟨(some 30), .fld 11 (.t 1), none⟩ ::
⟨(some 31), .load none (.t 30), none⟩ ::
⟨(some 32), .len (.t 31), none⟩ ::
⟨(some 33), .bin .leq (.t 32) (.k (.d (.int .i64 64))), none⟩ ::
⟨(some 34), .mv (.t 3), none⟩ ::
⟨(some 35), .not (.t 34), none⟩ ::
⟨(some 36), .bsl 4 1 6 [(.d (.bool false)), (.d (.bool false)), (.d (.bool false)), (.d (.bool false)), (.d (.bool false)), (.d (.bool false))] [(0, 1, (.t 9)), (1, 1, (.t 15)), (2, 1, (.t 20)), (3, 1, (.t 29)), (4, 1, (.t 33)), (5, 1, (.t 35))], none⟩ ::
⟨(some 37), .call (.k (.fn (.func 54) [] [])) [(.t 36)], none⟩ ::
⟨(some 2), .mv (.t 37), none⟩ :: []) (fullB 32) false)
.ret)))
def rv : List RV := [.tmp 2]
/-! live frame_May: [0, 1, 2, 3] -/
theorem c : cK Try.prog Try.f39.ntmps (Try.f39.body.getD .ret) = some s := by kernel_rfl
theorem b : Try.f39.body = some (Try.f39.body.getD .ret) := by kernel_rfl
theorem r : cRV Try.prog Try.f39.results.toList = some rv := by kernel_rfl
theorem ca : Callable Try.prog 39 = true := by kernel_rfl
theorem enter {args : List SV} {F : Hp} {k nk : Nat} {Q : SV → Hp → Prop} (hargs : SV.oks (fun n => decide (n < k)) args = true) (hF : F.ok (fun n => decide (n < k)) = true) (hN : args.length ≤ 38)
    (h : SW Try.prog 38 k s ⟨argE 0 args, F, k⟩ fun e st' => match e with | .normal => Fin k nk rv Q st' | .ret => Fin k nk rv Q st' | _ => False) : SB Try.prog 39 args F k nk Q :=
  SB.of_body Try.func39 b c r ca hargs hF hN h
end frame_May
/-! ### tranter.gossip.lacked$1 -/
namespace gossip_lacked_1
abbrev f : Nat := 40
def s : SCo := (.seq
(.reg [⟨(some 11), .mkm, none⟩,
⟨(some 4), .mv (.t 11), none⟩] (fullB 2) false)
(.seq
(.reg [⟨(some 5), .mv (.k (.d .nils)), none⟩] (fullB 1) false)
(.seq
(.seq
 (.reg [⟨(some 12), .load none (.t 1), none⟩,
⟨(some 13), .len (.t 12), none⟩,
⟨(some 14), .mv (.k (.d (.int .i64 0))), none⟩] (fullB 3) false)
 (.block 0
 (.loop
 (.seq
 (.reg [⟨(some 15), .bin .lss (.t 14) (.t 13), none⟩] (fullB 1) false)
 (.seq
  (.cond (.t 15)
  .skip
  (.exit 0))
  (.seq
  (.block 1
  (.seq
  (.reg [⟨(some 16), .idxS 29 (.t 12) (.t 14), none⟩,
⟨(some 17), .load (some 29) (.t 16), none⟩,
⟨(some 7), .alloc 50 [(.d (.int .u8 0)), (.d (.int .u32 0)), (.d (.int .u32 0)), (.d (.int .u32 0)), (.d (.int .u32 0)), (.d (.int .u32 0)), (.d (.int .u32 0)), (.d (.int .u32 0)), (.d (.int .u32 0)), (.d (.int .u32 0)), (.d (.int .u64 0)), (.d (.int .u32 0)), (.d (.int .u8 0)), (.d (.int .u32 0)), (.d (.int .u8 0)), (.d (.int .u8 0)), (.d (.int .u32 0)), (.d (.int .u32 0)), (.d (.int .u8 0)), (.d (.int .u8 0)), (.d (.int .u64 0)), (.d (.int .u8 0)), (.d (.int .u32 0)), (.d (.int .u8 0)), (.d (.int .u32 0)), (.d (.int .u32 0)), (.d (.int .u32 0)), (.d (.int .u32 0)), (.d .nils)], none⟩,
⟨none, .store 29 (.t 7) (.t 17), none⟩] (fullB 4) false)
  (.seq
   (.reg [⟨(some 18), .fld 0 (.t 7), none⟩,
⟨(some 19), .fld 0 (.t 18), none⟩,
⟨(some 20), .load none (.t 19), none⟩,
⟨(some 21), .conv .u32 (.t 20), none⟩,
⟨(some 22), .fld 0 (.t 7), none⟩,
⟨(some 23), .fld 1 (.t 22), none⟩,
⟨(some 24), .load none (.t 23), none⟩,
⟨(some 25), .bld [(.d (.int .u32 0)), (.d (.int .u32 0))] [(0, 1, (.t 21)), (1, 1, (.t 24))], none⟩,
⟨(some 8), .alloc 81 [(.d (.int .u32 0)), (.d (.int .u32 0))], none⟩,
⟨none, .store 2 (.t 8) (.t 25), none⟩] (fullB 10) false)
   (.seq
   (.seq
   (.reg [⟨(some 26), .mv (.t 4), none⟩,
⟨(some 27), .load (some 2) (.t 8), none⟩,
⟨(some 28), .look [true, true] true (.d (.int .i64 0)) (.t 26) (.t 27) false, none⟩,
⟨(some 29), .bin .eql (.t 28) (.k (.d (.int .i64 0))), none⟩,
⟨(some 30), .mv (.t 29), none⟩,
⟨(some 31), .load (some 8) (.t 2), some (30, true)⟩,
⟨(some 32), .fld 0 (.t 7), some (30, true)⟩,
⟨(some 33), .load (some 2) (.t 32), some (30, true)⟩,
⟨(some 34), .call (.k (.fn (.func 41) [] [])) [(.t 31), (.t 33)], some (30, true)⟩,
⟨(some 35), .not (.t 34), some (30, true)⟩,
⟨(some 36), .pick (.t 30) (.t 35) (.k (.d (.bool false))), none⟩] (fullB 11) false)
   (.cond (.t 36)
   (.reg [⟨(some 37), .mv (.t 5), none⟩,
⟨(some 38), .load (some 29) (.t 7), none⟩,
⟨(some 39), .bsl 50 29 1 [(.d (.int .u8 0)), (.d (.int .u32 0)), (.d (.int .u32 0)), (.d (.int .u32 0)), (.d (.int .u32 0)), (.d (.int .u32 0)), (.d (.int .u32 0)), (.d (.int .u32 0)), (.d (.int .u32 0)), (.d (.int .u32 0)), (.d (.int .u64 0)), (.d (.int .u32 0)), (.d (.int .u8 0)), (.d (.int .u32 0)), (.d (.int .u8 0)), (.d (.int .u8 0)), (.d (.int .u32 0)), (.d (.int .u32 0)), (.d (.int .u8 0)), (.d (.int .u8 0)), (.d (.int .u64 0)), (.d (.int .u8 0)), (.d (.int .u32 0)), (.d (.int .u8 0)), (.d (.int .u32 0)), (.d (.int .u32 0)), (.d (.int .u32 0)), (.d (.int .u32 0)), (.d .nils)] [(0, 29, (.t 38))], none⟩,
⟨(some 40), .app 50 29 144 (.t 37) (.t 39), none⟩,
⟨(some 5), .mv (.t 40), none⟩] (fullB 5) false)
   .skip))
   (.reg [⟨(some 41), .mv (.t 4), none⟩,
⟨(some 42), .load (some 2) (.t 8), none⟩,
⟨none, .mset [true, true] true (.t 41) (.t 42) (.k (.d (.int .i64 1))), none⟩] (fullB 3) false)))))
  (.reg [⟨(some 43), .bin .add (.t 14) (.k (.d (.int .i64 1))), none⟩,
⟨(some 14), .mv (.t 43), none⟩] (fullB 2) false)))))))
(.seq
 (.reg [⟨(some 44), .mv (.t 5), none⟩,
⟨(some 45), .call (.k (.fn (.func 42) [] [])) [(.t 44), (.k (.fn (.func 18) [] []))], none⟩] (fullB 2) false)
 (.seq
 (.reg [⟨(some 46), .mv (.t 5), none⟩,
⟨(some 47), .len (.t 46), none⟩,
⟨(some 48), .mv (.k (.d (.int .i64 0))), none⟩] (fullB 3) false)
 (.block 2
 (.loop
 (.seq
  (.reg [⟨(some 49), .bin .lss (.t 48) (.t 47), none⟩] (fullB 1) false)
  (.seq
  (.cond (.t 49)
  .skip
  (.exit 2))
  (.seq
  (.block 3
  (.seq
   (.reg [⟨(some 50), .idxS 29 (.t 46) (.t 48), none⟩,
⟨(some 51), .load (some 29) (.t 50), none⟩,
⟨(some 10), .alloc 50 [(.d (.int .u8 0)), (.d (.int .u32 0)), (.d (.int .u32 0)), (.d (.int .u32 0)), (.d (.int .u32 0)), (.d (.int .u32 0)), (.d (.int .u32 0)), (.d (.int .u32 0)), (.d (.int .u32 0)), (.d (.int .u32 0)), (.d (.int .u64 0)), (.d (.int .u32 0)), (.d (.int .u8 0)), (.d (.int .u32 0)), (.d (.int .u8 0)), (.d (.int .u8 0)), (.d (.int .u32 0)), (.d (.int .u32 0)), (.d (.int .u8 0)), (.d (.int .u8 0)), (.d (.int .u64 0)), (.d (.int .u8 0)), (.d (.int .u32 0)), (.d (.int .u8 0)), (.d (.int .u32 0)), (.d (.int .u32 0)), (.d (.int .u32 0)), (.d (.int .u32 0)), (.d .nils)], none⟩,
⟨none, .store 29 (.t 10) (.t 51), none⟩] (fullB 4) false)
   (.seq
   (.reg [⟨(some 52), .fld 28 (.t 10), none⟩,
⟨(some 53), .load none (.t 52), none⟩,
⟨(some 54), .call (.k (.fn (.func 43) [] [])) [(.t 53)], none⟩,
⟨(some 55), .fld 28 (.t 10), none⟩,
⟨none, .store 1 (.t 55) (.t 54), none⟩] (fullB 5) false)
   (.seq
   (.reg [⟨(some 56), .mv (.t 0), none⟩,
⟨(some 57), .load (some 29) (.t 10), none⟩,
⟨(some 58), .call (.t 56) [(.t 57)], none⟩,
⟨(some 59), .not (.t 58), none⟩] (fullB 4) false)
   (.cond (.t 59)
   .ret
   .skip)))))
  (.reg [⟨(some 60), .bin .add (.t 48) (.k (.d (.int .i64 1))), none⟩,
⟨(some 48), .mv (.t 60), none⟩] (fullB 2) false)))))))))))
def rv : List RV := []
/-! live gossip_lacked_1: [0, 1, 2, 4, 5, 7, 8, 10, 12, 13, 14, 15, 36, 46, 47, 48, 49, 59] -/
theorem c : cK Try.prog Try.f40.ntmps (Try.f40.body.getD .ret) = some s := by kernel_rfl
theorem b : Try.f40.body = some (Try.f40.body.getD .ret) := by kernel_rfl
theorem r : cRV Try.prog Try.f40.results.toList = some rv := by kernel_rfl
theorem ca : Callable Try.prog 40 = true := by kernel_rfl
theorem enter {args : List SV} {F : Hp} {k nk : Nat} {Q : SV → Hp → Prop} (hargs : SV.oks (fun n => decide (n < k)) args = true) (hF : F.ok (fun n => decide (n < k)) = true) (hN : args.length ≤ 61)
    (h : SW Try.prog 61 k s ⟨argE 0 args, F, k⟩ fun e st' => match e with | .normal => Fin k nk rv Q st' | .ret => Fin k nk rv Q st' | _ => False) : SB Try.prog 40 args F k nk Q :=
  SB.of_body Try.func40 b c r ca hargs hF hN h
end gossip_lacked_1
/-! ### tranter.vector.Covers -/
namespace vector_Covers
abbrev f : Nat := 41
def s : SCo := (.seq
(.reg [⟨(some 2), .box 28 (.t 0), none⟩,
⟨(some 3), .box 46 (.t 1), none⟩,
⟨(some 4), .mv (.k (.d (.bool false))), none⟩] (fullB 3) false)
(.seq
(.reg [⟨(some 5), .load (some 2) (.t 3), none⟩,
⟨(some 6), .call (.k (.fn (.func 55) [] [])) [(.t 5)], none⟩,
⟨(some 7), .mv (.t 6), none⟩,
⟨(some 8), .fld 0 (.t 3), some (7, true)⟩,
⟨(some 9), .load none (.t 8), some (7, true)⟩,
⟨(some 10), .idxA 8 1 (.t 2) (.t 9), some (7, true)⟩,
⟨(some 11), .load none (.t 10), some (7, true)⟩,
⟨(some 12), .fld 1 (.t 3), some (7, true)⟩,
⟨(some 13), .load none (.t 12), some (7, true)⟩,
⟨(some 14), .bin .geq (.t 11) (.t 13), some (7, true)⟩,
⟨(some 15), .pick (.t 7) (.t 14) (.k (.d (.bool false))), none⟩,
⟨(some 4), .mv (.t 15), none⟩] [0,
1,
3,
7,
15,
31,
63,
7,
135,
511,
1023,
2047] true)
.ret))
def rv : List RV := [.tmp 4]
/-! live vector_Covers: [0, 1, 2, 3, 4] -/
theorem c : cK Try.prog Try.f41.ntmps (Try.f41.body.getD .ret) = some s := by kernel_rfl
theorem b : Try.f41.body = some (Try.f41.body.getD .ret) := by kernel_rfl
theorem r : cRV Try.prog Try.f41.results.toList = some rv := by kernel_rfl
theorem ca : Callable Try.prog 41 = true := by kernel_rfl
theorem enter {args : List SV} {F : Hp} {k nk : Nat} {Q : SV → Hp → Prop} (hargs : SV.oks (fun n => decide (n < k)) args = true) (hF : F.ok (fun n => decide (n < k)) = true) (hN : args.length ≤ 16)
    (h : SW Try.prog 16 k s ⟨argE 0 args, F, k⟩ fun e st' => match e with | .normal => Fin k nk rv Q st' | .ret => Fin k nk rv Q st' | _ => False) : SB Try.prog 41 args F k nk Q :=
  SB.of_body Try.func41 b c r ca hargs hF hN h
end vector_Covers
/-! ### slices.Clone[[]tranter.api.Claim,tranter.api.Claim] -/
namespace slices_Clone_Lapi_Claim_api_Claim
abbrev f : Nat := 43
def s : SCo := (.seq
(.reg [⟨(some 2), .mv (.k (.d .nils)), none⟩] (fullB 1) false)
(.seq
(.seq
(.reg [⟨(some 3), .mv (.t 0), none⟩,
⟨(some 4), .eqnil false 3 (.t 3), none⟩] (fullB 2) false)
(.cond (.t 4)
 (.seq
 (.reg [⟨(some 2), .mv (.k (.d .nils)), none⟩] (fullB 1) false)
 .ret)
 .skip))
(.seq
(.reg [⟨(some 5), .bsl 85 4 0 [] [], none⟩,
⟨(some 6), .mv (.t 0), none⟩,
⟨(some 7), .app 85 4 16 (.t 5) (.t 6), none⟩,
⟨(some 2), .mv (.t 7), none⟩] (fullB 4) false)
.ret)))
def rv : List RV := [.tmp 2]
/-! live slices_Clone_Lapi_Claim_api_Claim: [0, 2, 4] -/
theorem c : cK Try.prog Try.f43.ntmps (Try.f43.body.getD .ret) = some s := by kernel_rfl
theorem b : Try.f43.body = some (Try.f43.body.getD .ret) := by kernel_rfl
theorem r : cRV Try.prog Try.f43.results.toList = some rv := by kernel_rfl
theorem ca : Callable Try.prog 43 = true := by kernel_rfl
theorem enter {args : List SV} {F : Hp} {k nk : Nat} {Q : SV → Hp → Prop} (hargs : SV.oks (fun n => decide (n < k)) args = true) (hF : F.ok (fun n => decide (n < k)) = true) (hN : args.length ≤ 8)
    (h : SW Try.prog 8 k s ⟨argE 0 args, F, k⟩ fun e st' => match e with | .normal => Fin k nk rv Q st' | .ret => Fin k nk rv Q st' | _ => False) : SB Try.prog 43 args F k nk Q :=
  SB.of_body Try.func43 b c r ca hargs hF hN h
end slices_Clone_Lapi_Claim_api_Claim
/-! ### slices.AppendSeq[[]tranter.api.Op,tranter.api.Op] -/
namespace slices_AppendSeq_Lapi_Op_api_Op
abbrev f : Nat := 44
def s : SCo := (.seq
(.reg [⟨(some 2), .box 25 (.t 0), none⟩,
⟨(some 4), .mv (.k (.d .nils)), none⟩] (fullB 2) false)
(.seq
(.seq
(.reg [⟨(some 6), .mv (.t 1), none⟩] (fullB 1) false)
(.block 0
 (.rfun (.t 6) [7]
 (.reg [⟨(some 5), .alloc 50 [(.d (.int .u8 0)), (.d (.int .u32 0)), (.d (.int .u32 0)), (.d (.int .u32 0)), (.d (.int .u32 0)), (.d (.int .u32 0)), (.d (.int .u32 0)), (.d (.int .u32 0)), (.d (.int .u32 0)), (.d (.int .u32 0)), (.d (.int .u64 0)), (.d (.int .u32 0)), (.d (.int .u8 0)), (.d (.int .u32 0)), (.d (.int .u8 0)), (.d (.int .u8 0)), (.d (.int .u32 0)), (.d (.int .u32 0)), (.d (.int .u8 0)), (.d (.int .u8 0)), (.d (.int .u64 0)), (.d (.int .u8 0)), (.d (.int .u32 0)), (.d (.int .u8 0)), (.d (.int .u32 0)), (.d (.int .u32 0)), (.d (.int .u32 0)), (.d (.int .u32 0)), (.d .nils)], none⟩,
⟨none, .store 29 (.t 5) (.t 7), none⟩] (fullB 2) false)
 (.block 1
 (.reg [⟨(some 8), .load none (.t 2), none⟩,
⟨(some 9), .load (some 29) (.t 5), none⟩,
⟨(some 10), .bsl 50 29 1 [(.d (.int .u8 0)), (.d (.int .u32 0)), (.d (.int .u32 0)), (.d (.int .u32 0)), (.d (.int .u32 0)), (.d (.int .u32 0)), (.d (.int .u32 0)), (.d (.int .u32 0)), (.d (.int .u32 0)), (.d (.int .u32 0)), (.d (.int .u64 0)), (.d (.int .u32 0)), (.d (.int .u8 0)), (.d (.int .u32 0)), (.d (.int .u8 0)), (.d (.int .u8 0)), (.d (.int .u32 0)), (.d (.int .u32 0)), (.d (.int .u8 0)), (.d (.int .u8 0)), (.d (.int .u64 0)), (.d (.int .u8 0)), (.d (.int .u32 0)), (.d (.int .u8 0)), (.d (.int .u32 0)), (.d (.int .u32 0)), (.d (.int .u32 0)), (.d (.int .u32 0)), (.d .nils)] [(0, 29, (.t 9))], none⟩,
⟨(some 11), .app 50 29 144 (.t 8) (.t 10), none⟩,
⟨none, .store 1 (.t 2) (.t 11), none⟩] (fullB 5) false)))))
(.seq
(.reg [⟨(some 12), .load none (.t 2), none⟩,
⟨(some 4), .mv (.t 12), none⟩] (fullB 2) false)
.ret)))
def rv : List RV := [.tmp 4]
/-! live slices_AppendSeq_Lapi_Op_api_Op: [0, 1, 2, 4, 5, 6, 7] -/
theorem c : cK Try.prog Try.f44.ntmps (Try.f44.body.getD .ret) = some s := by kernel_rfl
theorem b : Try.f44.body = some (Try.f44.body.getD .ret) := by kernel_rfl
theorem r : cRV Try.prog Try.f44.results.toList = some rv := by kernel_rfl
theorem ca : Callable Try.prog 44 = true := by kernel_rfl
theorem enter {args : List SV} {F : Hp} {k nk : Nat} {Q : SV → Hp → Prop} (hargs : SV.oks (fun n => decide (n < k)) args = true) (hF : F.ok (fun n => decide (n < k)) = true) (hN : args.length ≤ 13)
    (h : SW Try.prog 13 k s ⟨argE 0 args, F, k⟩ fun e st' => match e with | .normal => Fin k nk rv Q st' | .ret => Fin k nk rv Q st' | _ => False) : SB Try.prog 44 args F k nk Q :=
  SB.of_body Try.func44 b c r ca hargs hF hN h
end slices_AppendSeq_Lapi_Op_api_Op
/-! ### tranter.tranterref11.Ahead -/
namespace ref11_Ahead
abbrev f : Nat := 45
def s : SCo := (.seq
(.reg [⟨(some 2), .box 50 (.t 0), none⟩,
⟨(some 3), .box 50 (.t 1), none⟩,
⟨(some 4), .mv (.k (.d (.bool false))), none⟩] (fullB 3) false)
(.seq
(.seq
(.reg [⟨(some 5), .fld 10 (.t 2), none⟩,
⟨(some 6), .load none (.t 5), none⟩,
⟨(some 7), .fld 10 (.t 3), none⟩,
⟨(some 8), .load none (.t 7), none⟩,
⟨(some 9), .bin .neq (.t 6) (.t 8), none⟩] (fullB 5) false)
(.cond (.t 9)
 (.seq
 (.reg [⟨(some 10), .fld 10 (.t 2), none⟩,
⟨(some 11), .load none (.t 10), none⟩,
⟨(some 12), .fld 10 (.t 3), none⟩,
⟨(some 13), .load none (.t 12), none⟩,
⟨(some 14), .bin .lss (.t 11) (.t 13), none⟩,
⟨(some 4), .mv (.t 14), none⟩] (fullB 6) false)
 .ret)
 .skip))
(.seq
(.seq
 (.reg [⟨(some 15), .fld 0 (.t 2), none⟩,
⟨(some 16), .fld 0 (.t 15), none⟩,
⟨(some 17), .load none (.t 16), none⟩,
⟨(some 18), .fld 0 (.t 3), none⟩,
⟨(some 19), .fld 0 (.t 18), none⟩,
⟨(some 20), .load none (.t 19), none⟩,
⟨(some 21), .bin .neq (.t 17) (.t 20), none⟩] (fullB 7) false)
 (.cond (.t 21)
 (.seq
 (.reg [⟨(some 22), .fld 0 (.t 2), none⟩,
⟨(some 23), .fld 0 (.t 22), none⟩,
⟨(some 24), .load none (.t 23), none⟩,
⟨(some 25), .fld 0 (.t 3), none⟩,
⟨(some 26), .fld 0 (.t 25), none⟩,
⟨(some 27), .load none (.t 26), none⟩,
⟨(some 28), .bin .lss (.t 24) (.t 27), none⟩,
⟨(some 4), .mv (.t 28), none⟩] (fullB 8) false)
 .ret)
 .skip))
(.seq
 (.reg [⟨(some 29), .fld 0 (.t 2), none⟩,
⟨(some 30), .fld 1 (.t 29), none⟩,
⟨(some 31), .load none (.t 30), none⟩,
⟨(some 32), .fld 0 (.t 3), none⟩,
⟨(some 33), .fld 1 (.t 32), none⟩,
⟨(some 34), .load none (.t 33), none⟩,
⟨(some 35), .bin .lss (.t 31) (.t 34), none⟩,
⟨(some 4), .mv (.t 35), none⟩] (fullB 8) false)
 .ret))))
def rv : List RV := [.tmp 4]
/-! live ref11_Ahead: [0, 1, 2, 3, 4, 9, 21] -/
theorem c : cK Try.prog Try.f45.ntmps (Try.f45.body.getD .ret) = some s := by kernel_rfl
theorem b : Try.f45.body = some (Try.f45.body.getD .ret) := by kernel_rfl
theorem r : cRV Try.prog Try.f45.results.toList = some rv := by kernel_rfl
theorem ca : Callable Try.prog 45 = true := by kernel_rfl
theorem enter {args : List SV} {F : Hp} {k nk : Nat} {Q : SV → Hp → Prop} (hargs : SV.oks (fun n => decide (n < k)) args = true) (hF : F.ok (fun n => decide (n < k)) = true) (hN : args.length ≤ 36)
    (h : SW Try.prog 36 k s ⟨argE 0 args, F, k⟩ fun e st' => match e with | .normal => Fin k nk rv Q st' | .ret => Fin k nk rv Q st' | _ => False) : SB Try.prog 45 args F k nk Q :=
  SB.of_body Try.func45 b c r ca hargs hF hN h
end ref11_Ahead
/-! ### cmp.isNaN[uint64] -/
namespace cmp_isNaN_uint64
abbrev f : Nat := 46
def s : SCo := (.seq
(.reg [⟨(some 2), .mv (.k (.d (.bool false))), none⟩] (fullB 1) false)
(.seq
(.reg [⟨(some 3), .mv (.t 0), none⟩,
⟨(some 4), .mv (.t 0), none⟩,
⟨(some 5), .bin .neq (.t 3) (.t 4), none⟩,
⟨(some 2), .mv (.t 5), none⟩] (fullB 4) false)
.ret))
def rv : List RV := [.tmp 2]
/-! live cmp_isNaN_uint64: [0, 2] -/
theorem c : cK Try.prog Try.f46.ntmps (Try.f46.body.getD .ret) = some s := by kernel_rfl
theorem b : Try.f46.body = some (Try.f46.body.getD .ret) := by kernel_rfl
theorem r : cRV Try.prog Try.f46.results.toList = some rv := by kernel_rfl
theorem ca : Callable Try.prog 46 = true := by kernel_rfl
theorem enter {args : List SV} {F : Hp} {k nk : Nat} {Q : SV → Hp → Prop} (hargs : SV.oks (fun n => decide (n < k)) args = true) (hF : F.ok (fun n => decide (n < k)) = true) (hN : args.length ≤ 6)
    (h : SW Try.prog 6 k s ⟨argE 0 args, F, k⟩ fun e st' => match e with | .normal => Fin k nk rv Q st' | .ret => Fin k nk rv Q st' | _ => False) : SB Try.prog 46 args F k nk Q :=
  SB.of_body Try.func46 b c r ca hargs hF hN h
end cmp_isNaN_uint64
/-! ### cmp.isNaN[uint8] -/
namespace cmp_isNaN_uint8
abbrev f : Nat := 47
def s : SCo := (.seq
(.reg [⟨(some 2), .mv (.k (.d (.bool false))), none⟩] (fullB 1) false)
(.seq
(.reg [⟨(some 3), .mv (.t 0), none⟩,
⟨(some 4), .mv (.t 0), none⟩,
⟨(some 5), .bin .neq (.t 3) (.t 4), none⟩,
⟨(some 2), .mv (.t 5), none⟩] (fullB 4) false)
.ret))
def rv : List RV := [.tmp 2]
/-! live cmp_isNaN_uint8: [0, 2] -/
theorem c : cK Try.prog Try.f47.ntmps (Try.f47.body.getD .ret) = some s := by kernel_rfl
theorem b : Try.f47.body = some (Try.f47.body.getD .ret) := by kernel_rfl
theorem r : cRV Try.prog Try.f47.results.toList = some rv := by kernel_rfl
theorem ca : Callable Try.prog 47 = true := by kernel_rfl
theorem enter {args : List SV} {F : Hp} {k nk : Nat} {Q : SV → Hp → Prop} (hargs : SV.oks (fun n => decide (n < k)) args = true) (hF : F.ok (fun n => decide (n < k)) = true) (hN : args.length ≤ 6)
    (h : SW Try.prog 6 k s ⟨argE 0 args, F, k⟩ fun e st' => match e with | .normal => Fin k nk rv Q st' | .ret => Fin k nk rv Q st' | _ => False) : SB Try.prog 47 args F k nk Q :=
  SB.of_body Try.func47 b c r ca hargs hF hN h
end cmp_isNaN_uint8
/-! ### cmp.isNaN[uint32] -/
namespace cmp_isNaN_uint32
abbrev f : Nat := 48
def s : SCo := (.seq
(.reg [⟨(some 2), .mv (.k (.d (.bool false))), none⟩] (fullB 1) false)
(.seq
(.reg [⟨(some 3), .mv (.t 0), none⟩,
⟨(some 4), .mv (.t 0), none⟩,
⟨(some 5), .bin .neq (.t 3) (.t 4), none⟩,
⟨(some 2), .mv (.t 5), none⟩] (fullB 4) false)
.ret))
def rv : List RV := [.tmp 2]
/-! live cmp_isNaN_uint32: [0, 2] -/
theorem c : cK Try.prog Try.f48.ntmps (Try.f48.body.getD .ret) = some s := by kernel_rfl
theorem b : Try.f48.body = some (Try.f48.body.getD .ret) := by kernel_rfl
theorem r : cRV Try.prog Try.f48.results.toList = some rv := by kernel_rfl
theorem ca : Callable Try.prog 48 = true := by kernel_rfl
theorem enter {args : List SV} {F : Hp} {k nk : Nat} {Q : SV → Hp → Prop} (hargs : SV.oks (fun n => decide (n < k)) args = true) (hF : F.ok (fun n => decide (n < k)) = true) (hN : args.length ≤ 6)
    (h : SW Try.prog 6 k s ⟨argE 0 args, F, k⟩ fun e st' => match e with | .normal => Fin k nk rv Q st' | .ret => Fin k nk rv Q st' | _ => False) : SB Try.prog 48 args F k nk Q :=
  SB.of_body Try.func48 b c r ca hargs hF hN h
end cmp_isNaN_uint32
/-! ### slices.Collect[int] -/
namespace slices_Collect_int
abbrev f : Nat := 49
def s : SCo := (.seq
(.reg [⟨(some 2), .mv (.k (.d .nils)), none⟩] (fullB 1) false)
(.seq
(.reg [⟨(some 3), .mv (.t 0), none⟩,
⟨(some 4), .call (.k (.fn (.func 58) [] [])) [(.k (.d .nils)), (.t 3)], none⟩,
⟨(some 2), .mv (.t 4), none⟩] (fullB 3) false)
.ret))
def rv : List RV := [.tmp 2]
/-! live slices_Collect_int: [0, 2] -/
theorem c : cK Try.prog Try.f49.ntmps (Try.f49.body.getD .ret) = some s := by kernel_rfl
theorem b : Try.f49.body = some (Try.f49.body.getD .ret) := by kernel_rfl
theorem r : cRV Try.prog Try.f49.results.toList = some rv := by kernel_rfl
theorem ca : Callable Try.prog 49 = true := by kernel_rfl
theorem enter {args : List SV} {F : Hp} {k nk : Nat} {Q : SV → Hp → Prop} (hargs : SV.oks (fun n => decide (n < k)) args = true) (hF : F.ok (fun n => decide (n < k)) = true) (hN : args.length ≤ 5)
    (h : SW Try.prog 5 k s ⟨argE 0 args, F, k⟩ fun e st' => match e with | .normal => Fin k nk rv Q st' | .ret => Fin k nk rv Q st' | _ => False) : SB Try.prog 49 args F k nk Q :=
  SB.of_body Try.func49 b c r ca hargs hF hN h
end slices_Collect_int
/-! ### (tranter.order.index).once$1 -/
namespace order_index_once_1
abbrev f : Nat := 51
def s : SCo := (.seq
(.reg [⟨(some 5), .fld 0 (.t 1), none⟩,
⟨(some 6), .load none (.t 5), none⟩,
⟨(some 7), .len (.t 6), none⟩,
⟨(some 8), .mv (.k (.d (.int .i64 0))), none⟩] (fullB 4) false)
(.block 0
(.loop
(.seq
 (.reg [⟨(some 9), .bin .lss (.t 8) (.t 7), none⟩] (fullB 1) false)
 (.seq
 (.cond (.t 9)
 .skip
 (.exit 0))
 (.seq
 (.block 1
 (.seq
  (.reg [⟨(some 10), .mv (.t 8), none⟩,
⟨(some 11), .idxS 29 (.t 6) (.t 8), none⟩,
⟨(some 12), .load (some 29) (.t 11), none⟩,
⟨(some 4), .alloc 50 [(.d (.int .u8 0)), (.d (.int .u32 0)), (.d (.int .u32 0)), (.d (.int .u32 0)), (.d (.int .u32 0)), (.d (.int .u32 0)), (.d (.int .u32 0)), (.d (.int .u32 0)), (.d (.int .u32 0)), (.d (.int .u32 0)), (.d (.int .u64 0)), (.d (.int .u32 0)), (.d (.int .u8 0)), (.d (.int .u32 0)), (.d (.int .u8 0)), (.d (.int .u8 0)), (.d (.int .u32 0)), (.d (.int .u32 0)), (.d (.int .u8 0)), (.d (.int .u8 0)), (.d (.int .u64 0)), (.d (.int .u8 0)), (.d (.int .u32 0)), (.d (.int .u8 0)), (.d (.int .u32 0)), (.d (.int .u32 0)), (.d (.int .u32 0)), (.d (.int .u32 0)), (.d .nils)], none⟩,
⟨(some 3), .mv (.t 10), none⟩,
⟨none, .store 29 (.t 4) (.t 12), none⟩] (fullB 6) false)
  (.seq
  (.reg [⟨(some 13), .fld 1 (.t 1), none⟩,
⟨(some 14), .load none (.t 13), none⟩,
⟨(some 15), .fld 0 (.t 4), none⟩,
⟨(some 16), .load (some 2) (.t 15), none⟩,
⟨(some 17), .look [true, true] true (.d (.int .i64 0)) (.t 14) (.t 16) false, none⟩,
⟨(some 18), .mv (.t 3), none⟩,
⟨(some 19), .bin .eql (.t 17) (.t 18), none⟩,
⟨(some 20), .mv (.t 19), none⟩,
⟨(some 21), .mv (.t 0), some (20, true)⟩,
⟨(some 22), .mv (.t 3), some (20, true)⟩,
⟨(some 23), .call (.t 21) [(.t 22)], some (20, true)⟩,
⟨(some 24), .not (.t 23), some (20, true)⟩,
⟨(some 25), .pick (.t 20) (.t 24) (.k (.d (.bool false))), none⟩] (fullB 13) false)
  (.cond (.t 25)
  .ret
  .skip))))
 (.reg [⟨(some 26), .bin .add (.t 8) (.k (.d (.int .i64 1))), none⟩,
⟨(some 8), .mv (.t 26), none⟩] (fullB 2) false)))))))
def rv : List RV := []
/-! live order_index_once_1: [0, 1, 3, 4, 6, 7, 8, 9, 25] -/
theorem c : cK Try.prog Try.f51.ntmps (Try.f51.body.getD .ret) = some s := by kernel_rfl
theorem b : Try.f51.body = some (Try.f51.body.getD .ret) := by kernel_rfl
theorem r : cRV Try.prog Try.f51.results.toList = some rv := by kernel_rfl
theorem ca : Callable Try.prog 51 = true := by kernel_rfl
theorem enter {args : List SV} {F : Hp} {k nk : Nat} {Q : SV → Hp → Prop} (hargs : SV.oks (fun n => decide (n < k)) args = true) (hF : F.ok (fun n => decide (n < k)) = true) (hN : args.length ≤ 27)
    (h : SW Try.prog 27 k s ⟨argE 0 args, F, k⟩ fun e st' => match e with | .normal => Fin k nk rv Q st' | .ret => Fin k nk rv Q st' | _ => False) : SB Try.prog 51 args F k nk Q :=
  SB.of_body Try.func51 b c r ca hargs hF hN h
end order_index_once_1
/-! ### slices.ContainsFunc[[]tranter.api.Op,tranter.api.Op] -/
namespace slices_ContainsFunc_Lapi_Op_api_Op
abbrev f : Nat := 52
def s : SCo := (.seq
(.reg [⟨(some 4), .mv (.k (.d (.bool false))), none⟩] (fullB 1) false)
(.seq
(.reg [⟨(some 5), .mv (.t 0), none⟩,
⟨(some 6), .mv (.t 1), none⟩,
⟨(some 7), .call (.k (.fn (.func 60) [] [])) [(.t 5), (.t 6)], none⟩,
⟨(some 8), .bin .geq (.t 7) (.k (.d (.int .i64 0))), none⟩,
⟨(some 4), .mv (.t 8), none⟩] (fullB 5) false)
.ret))
def rv : List RV := [.tmp 4]
/-! live slices_ContainsFunc_Lapi_Op_api_Op: [0, 1, 4] -/
theorem c : cK Try.prog Try.f52.ntmps (Try.f52.body.getD .ret) = some s := by kernel_rfl
theorem b : Try.f52.body = some (Try.f52.body.getD .ret) := by kernel_rfl
theorem r : cRV Try.prog Try.f52.results.toList = some rv := by kernel_rfl
theorem ca : Callable Try.prog 52 = true := by kernel_rfl
theorem enter {args : List SV} {F : Hp} {k nk : Nat} {Q : SV → Hp → Prop} (hargs : SV.oks (fun n => decide (n < k)) args = true) (hF : F.ok (fun n => decide (n < k)) = true) (hN : args.length ≤ 9)
    (h : SW Try.prog 9 k s ⟨argE 0 args, F, k⟩ fun e st' => match e with | .normal => Fin k nk rv Q st' | .ret => Fin k nk rv Q st' | _ => False) : SB Try.prog 52 args F k nk Q :=
  SB.of_body Try.func52 b c r ca hargs hF hN h
end slices_ContainsFunc_Lapi_Op_api_Op
/-! ### tranter.frame.May$1 -/
namespace frame_May_1
abbrev f : Nat := 53
def s : SCo := (.seq
(.reg [⟨(some 1), .box 50 (.t 0), none⟩,
⟨(some 2), .mv (.k (.d (.bool false))), none⟩] (fullB 2) false)
(.seq
(.reg [⟨(some 3), .fld 28 (.t 1), none⟩,
⟨(some 4), .load none (.t 3), none⟩,
⟨(some 5), .len (.t 4), none⟩,
⟨(some 6), .bin .gtr (.t 5) (.k (.d (.int .i64 16))), none⟩,
⟨(some 2), .mv (.t 6), none⟩] (fullB 5) false)
.ret))
def rv : List RV := [.tmp 2]
/-! live frame_May_1: [0, 1, 2] -/
theorem c : cK Try.prog Try.f53.ntmps (Try.f53.body.getD .ret) = some s := by kernel_rfl
theorem b : Try.f53.body = some (Try.f53.body.getD .ret) := by kernel_rfl
theorem r : cRV Try.prog Try.f53.results.toList = some rv := by kernel_rfl
theorem ca : Callable Try.prog 53 = true := by kernel_rfl
theorem enter {args : List SV} {F : Hp} {k nk : Nat} {Q : SV → Hp → Prop} (hargs : SV.oks (fun n => decide (n < k)) args = true) (hF : F.ok (fun n => decide (n < k)) = true) (hN : args.length ≤ 7)
    (h : SW Try.prog 7 k s ⟨argE 0 args, F, k⟩ fun e st' => match e with | .normal => Fin k nk rv Q st' | .ret => Fin k nk rv Q st' | _ => False) : SB Try.prog 53 args F k nk Q :=
  SB.of_body Try.func53 b c r ca hargs hF hN h
end frame_May_1
/-! ### tranter.frame.all -/
namespace frame_all
abbrev f : Nat := 54
def s : SCo := (.seq
(.reg [⟨(some 2), .mv (.k (.d (.bool false))), none⟩] (fullB 1) false)
(.seq
(.reg [⟨(some 3), .mv (.t 0), none⟩,
⟨(some 4), .call (.k (.fn (.func 61) [] [])) [(.t 3), (.k (.d (.bool false)))], none⟩,
⟨(some 5), .not (.t 4), none⟩,
⟨(some 2), .mv (.t 5), none⟩] (fullB 4) false)
.ret))
def rv : List RV := [.tmp 2]
/-! live frame_all: [0, 2] -/
theorem c : cK Try.prog Try.f54.ntmps (Try.f54.body.getD .ret) = some s := by kernel_rfl
theorem b : Try.f54.body = some (Try.f54.body.getD .ret) := by kernel_rfl
theorem r : cRV Try.prog Try.f54.results.toList = some rv := by kernel_rfl
theorem ca : Callable Try.prog 54 = true := by kernel_rfl
theorem enter {args : List SV} {F : Hp} {k nk : Nat} {Q : SV → Hp → Prop} (hargs : SV.oks (fun n => decide (n < k)) args = true) (hF : F.ok (fun n => decide (n < k)) = true) (hN : args.length ≤ 6)
    (h : SW Try.prog 6 k s ⟨argE 0 args, F, k⟩ fun e st' => match e with | .normal => Fin k nk rv Q st' | .ret => Fin k nk rv Q st' | _ => False) : SB Try.prog 54 args F k nk Q :=
  SB.of_body Try.func54 b c r ca hargs hF hN h
end frame_all
/-! ### tranter.dot.May -/
namespace dot_May
abbrev f : Nat := 55
def s : SCo := (.seq
(.reg [⟨(some 1), .box 46 (.t 0), none⟩,
⟨(some 2), .mv (.k (.d (.bool false))), none⟩] (fullB 2) false)
(.seq
(.reg [⟨(some 3), .fld 0 (.t 1), none⟩,
⟨(some 4), .load none (.t 3), none⟩,
⟨(some 5), .bin .lss (.t 4) (.k (.d (.int .u8 8))), none⟩,
⟨(some 6), .mv (.t 5), none⟩,
⟨(some 7), .fld 1 (.t 1), some (6, true)⟩,
⟨(some 8), .load none (.t 7), some (6, true)⟩,
⟨(some 9), .bin .gtr (.t 8) (.k (.d (.int .u32 0))), some (6, true)⟩,
⟨(some 10), .pick (.t 6) (.t 9) (.k (.d (.bool false))), none⟩,
⟨(some 2), .mv (.t 10), none⟩] (fullB 9) false)
.ret))
def rv : List RV := [.tmp 2]
/-! live dot_May: [0, 1, 2] -/
theorem c : cK Try.prog Try.f55.ntmps (Try.f55.body.getD .ret) = some s := by kernel_rfl
theorem b : Try.f55.body = some (Try.f55.body.getD .ret) := by kernel_rfl
theorem r : cRV Try.prog Try.f55.results.toList = some rv := by kernel_rfl
theorem ca : Callable Try.prog 55 = true := by kernel_rfl
theorem enter {args : List SV} {F : Hp} {k nk : Nat} {Q : SV → Hp → Prop} (hargs : SV.oks (fun n => decide (n < k)) args = true) (hF : F.ok (fun n => decide (n < k)) = true) (hN : args.length ≤ 11)
    (h : SW Try.prog 11 k s ⟨argE 0 args, F, k⟩ fun e st' => match e with | .normal => Fin k nk rv Q st' | .ret => Fin k nk rv Q st' | _ => False) : SB Try.prog 55 args F k nk Q :=
  SB.of_body Try.func55 b c r ca hargs hF hN h
end dot_May
/-! ### slices.AppendSeq[[]int,int] -/
namespace slices_AppendSeq_Lint_int
abbrev f : Nat := 58
def s : SCo := (.seq
(.reg [⟨(some 2), .box 73 (.t 0), none⟩,
⟨(some 4), .mv (.k (.d .nils)), none⟩] (fullB 2) false)
(.seq
(.seq
(.reg [⟨(some 6), .mv (.t 1), none⟩] (fullB 1) false)
(.block 0
 (.rfun (.t 6) [7]
 (.reg [⟨(some 5), .mv (.t 7), none⟩] (fullB 1) false)
 (.block 1
 (.reg [⟨(some 8), .load none (.t 2), none⟩,
⟨(some 9), .mv (.t 5), none⟩,
⟨(some 10), .bsl 3 1 1 [(.d (.int .i64 0))] [(0, 1, (.t 9))], none⟩,
⟨(some 11), .app 3 1 8 (.t 8) (.t 10), none⟩,
⟨none, .store 1 (.t 2) (.t 11), none⟩] (fullB 5) false)))))
(.seq
(.reg [⟨(some 12), .load none (.t 2), none⟩,
⟨(some 4), .mv (.t 12), none⟩] (fullB 2) false)
.ret)))
def rv : List RV := [.tmp 4]
/-! live slices_AppendSeq_Lint_int: [0, 1, 2, 4, 5, 6, 7] -/
theorem c : cK Try.prog Try.f58.ntmps (Try.f58.body.getD .ret) = some s := by kernel_rfl
theorem b : Try.f58.body = some (Try.f58.body.getD .ret) := by kernel_rfl
theorem r : cRV Try.prog Try.f58.results.toList = some rv := by kernel_rfl
theorem ca : Callable Try.prog 58 = true := by kernel_rfl
theorem enter {args : List SV} {F : Hp} {k nk : Nat} {Q : SV → Hp → Prop} (hargs : SV.oks (fun n => decide (n < k)) args = true) (hF : F.ok (fun n => decide (n < k)) = true) (hN : args.length ≤ 13)
    (h : SW Try.prog 13 k s ⟨argE 0 args, F, k⟩ fun e st' => match e with | .normal => Fin k nk rv Q st' | .ret => Fin k nk rv Q st' | _ => False) : SB Try.prog 58 args F k nk Q :=
  SB.of_body Try.func58 b c r ca hargs hF hN h
end slices_AppendSeq_Lint_int
/-! ### slices.IndexFunc[[]tranter.api.Op,tranter.api.Op] -/
namespace slices_IndexFunc_Lapi_Op_api_Op
abbrev f : Nat := 60
def s : SCo := (.seq
(.reg [⟨(some 4), .mv (.k (.d (.int .i64 0))), none⟩] (fullB 1) false)
(.seq
(.seq
(.reg [⟨(some 6), .mv (.t 0), none⟩,
⟨(some 7), .len (.t 6), none⟩,
⟨(some 8), .mv (.k (.d (.int .i64 0))), none⟩] (fullB 3) false)
(.block 0
 (.loop
 (.seq
 (.reg [⟨(some 9), .bin .lss (.t 8) (.t 7), none⟩] (fullB 1) false)
 (.seq
 (.cond (.t 9)
  .skip
  (.exit 0))
 (.seq
  (.block 1
  (.seq
  (.reg [⟨(some 10), .mv (.t 8), none⟩,
⟨(some 5), .mv (.t 10), none⟩] (fullB 2) false)
  (.seq
  (.reg [⟨(some 11), .mv (.t 1), none⟩,
⟨(some 12), .mv (.t 0), none⟩,
⟨(some 13), .mv (.t 5), none⟩,
⟨(some 14), .idxS 29 (.t 12) (.t 13), none⟩,
⟨(some 15), .load (some 29) (.t 14), none⟩,
⟨(some 16), .call (.t 11) [(.t 15)], none⟩] (fullB 6) false)
  (.cond (.t 16)
   (.seq
   (.reg [⟨(some 17), .mv (.t 5), none⟩,
⟨(some 4), .mv (.t 17), none⟩] (fullB 2) false)
   .ret)
   .skip))))
  (.reg [⟨(some 18), .bin .add (.t 8) (.k (.d (.int .i64 1))), none⟩,
⟨(some 8), .mv (.t 18), none⟩] (fullB 2) false)))))))
(.seq
(.reg [⟨(some 4), .mv (.k (.d (.int .i64 (-1)))), none⟩] (fullB 1) false)
.ret)))
def rv : List RV := [.tmp 4]
/-! live slices_IndexFunc_Lapi_Op_api_Op: [0, 1, 4, 5, 7, 8, 9, 16] -/
theorem c : cK Try.prog Try.f60.ntmps (Try.f60.body.getD .ret) = some s := by kernel_rfl
theorem b : Try.f60.body = some (Try.f60.body.getD .ret) := by kernel_rfl
theorem r : cRV Try.prog Try.f60.results.toList = some rv := by kernel_rfl
theorem ca : Callable Try.prog 60 = true := by kernel_rfl
theorem enter {args : List SV} {F : Hp} {k nk : Nat} {Q : SV → Hp → Prop} (hargs : SV.oks (fun n => decide (n < k)) args = true) (hF : F.ok (fun n => decide (n < k)) = true) (hN : args.length ≤ 19)
    (h : SW Try.prog 19 k s ⟨argE 0 args, F, k⟩ fun e st' => match e with | .normal => Fin k nk rv Q st' | .ret => Fin k nk rv Q st' | _ => False) : SB Try.prog 60 args F k nk Q :=
  SB.of_body Try.func60 b c r ca hargs hF hN h
end slices_IndexFunc_Lapi_Op_api_Op
/-! ### slices.Contains[[]bool,bool] -/
namespace slices_Contains_Lbool_bool
abbrev f : Nat := 61
def s : SCo := (.seq
(.reg [⟨(some 4), .mv (.k (.d (.bool false))), none⟩] (fullB 1) false)
(.seq
(.reg [⟨(some 5), .mv (.t 0), none⟩,
⟨(some 6), .mv (.t 1), none⟩,
⟨(some 7), .call (.k (.fn (.func 80) [] [])) [(.t 5), (.t 6)], none⟩,
⟨(some 8), .bin .geq (.t 7) (.k (.d (.int .i64 0))), none⟩,
⟨(some 4), .mv (.t 8), none⟩] (fullB 5) false)
.ret))
def rv : List RV := [.tmp 4]
/-! live slices_Contains_Lbool_bool: [0, 1, 4] -/
theorem c : cK Try.prog Try.f61.ntmps (Try.f61.body.getD .ret) = some s := by kernel_rfl
theorem b : Try.f61.body = some (Try.f61.body.getD .ret) := by kernel_rfl
theorem r : cRV Try.prog Try.f61.results.toList = some rv := by kernel_rfl
theorem ca : Callable Try.prog 61 = true := by kernel_rfl
theorem enter {args : List SV} {F : Hp} {k nk : Nat} {Q : SV → Hp → Prop} (hargs : SV.oks (fun n => decide (n < k)) args = true) (hF : F.ok (fun n => decide (n < k)) = true) (hN : args.length ≤ 9)
    (h : SW Try.prog 9 k s ⟨argE 0 args, F, k⟩ fun e st' => match e with | .normal => Fin k nk rv Q st' | .ret => Fin k nk rv Q st' | _ => False) : SB Try.prog 61 args F k nk Q :=
  SB.of_body Try.func61 b c r ca hargs hF hN h
end slices_Contains_Lbool_bool
/-! ### slices.Index[[]bool,bool] -/
namespace slices_Index_Lbool_bool
abbrev f : Nat := 80
def s : SCo := (.seq
(.reg [⟨(some 4), .mv (.k (.d (.int .i64 0))), none⟩] (fullB 1) false)
(.seq
(.seq
(.reg [⟨(some 6), .mv (.t 0), none⟩,
⟨(some 7), .len (.t 6), none⟩,
⟨(some 8), .mv (.k (.d (.int .i64 0))), none⟩] (fullB 3) false)
(.block 0
 (.loop
 (.seq
 (.reg [⟨(some 9), .bin .lss (.t 8) (.t 7), none⟩] (fullB 1) false)
 (.seq
 (.cond (.t 9)
  .skip
  (.exit 0))
 (.seq
  (.block 1
  (.seq
  (.reg [⟨(some 10), .mv (.t 8), none⟩,
⟨(some 5), .mv (.t 10), none⟩] (fullB 2) false)
  (.seq
  (.reg [⟨(some 11), .mv (.t 1), none⟩,
⟨(some 12), .mv (.t 0), none⟩,
⟨(some 13), .mv (.t 5), none⟩,
⟨(some 14), .idxS 1 (.t 12) (.t 13), none⟩,
⟨(some 15), .load none (.t 14), none⟩,
⟨(some 16), .eqb false (.t 11) (.t 15), none⟩] (fullB 6) false)
  (.cond (.t 16)
   (.seq
   (.reg [⟨(some 17), .mv (.t 5), none⟩,
⟨(some 4), .mv (.t 17), none⟩] (fullB 2) false)
   .ret)
   .skip))))
  (.reg [⟨(some 18), .bin .add (.t 8) (.k (.d (.int .i64 1))), none⟩,
⟨(some 8), .mv (.t 18), none⟩] (fullB 2) false)))))))
(.seq
(.reg [⟨(some 4), .mv (.k (.d (.int .i64 (-1)))), none⟩] (fullB 1) false)
.ret)))
def rv : List RV := [.tmp 4]
/-! live slices_Index_Lbool_bool: [0, 1, 4, 5, 7, 8, 9, 16] -/
theorem c : cK Try.prog Try.f80.ntmps (Try.f80.body.getD .ret) = some s := by kernel_rfl
theorem b : Try.f80.body = some (Try.f80.body.getD .ret) := by kernel_rfl
theorem r : cRV Try.prog Try.f80.results.toList = some rv := by kernel_rfl
theorem ca : Callable Try.prog 80 = true := by kernel_rfl
theorem enter {args : List SV} {F : Hp} {k nk : Nat} {Q : SV → Hp → Prop} (hargs : SV.oks (fun n => decide (n < k)) args = true) (hF : F.ok (fun n => decide (n < k)) = true) (hN : args.length ≤ 19)
    (h : SW Try.prog 19 k s ⟨argE 0 args, F, k⟩ fun e st' => match e with | .normal => Fin k nk rv Q st' | .ret => Fin k nk rv Q st' | _ => False) : SB Try.prog 80 args F k nk Q :=
  SB.of_body Try.func80 b c r ca hargs hF hN h
end slices_Index_Lbool_bool
end Go.Proofs.Ytpbfnenlbkjhgaa
