/-
  The code of the functions in the small form, by program (gen.py); each is checked against the translation by the kernel.
-/
import Derived.Test.YtmmonbnlleeloaaChecked
import Derived.Test.YtmmonbnlleeloaaP4
set_option linter.unusedVariables false
set_option linter.unusedSimpArgs false
set_option linter.unusedSectionVars false
namespace Go.Proofs.Ytmmonbnlleeloaa
open Go.Sl Go.Proofs
theorem mixed : Try.prog.follows .mixedOrders = true := by kernel_rfl
abbrev T_ : Nat := 0
abbrev T_func : Nat := 1
abbrev T_int64 : Nat := 2
abbrev T_int : Nat := 3
abbrev T_bool : Nat := 4
abbrev T_uint8 : Nat := 5
abbrev T_abi_BoundsErrorCode : Nat := 6
abbrev T_runtime_boundsError : Nat := 8
abbrev T_string : Nat := 9
abbrev T_runtime_errorString : Nat := 10
abbrev T_runtime_plainError : Nat := 11
abbrev T_uintptr : Nat := 12
abbrev T_struct_msg_string_addr_uintptr : Nat := 13
abbrev T_runtime_errorAddressString : Nat := 14
abbrev T_P_runtime_TypeAssertionError : Nat := 15
abbrev T_P_runtime_PanicNilError : Nat := 16
abbrev T_P_abi_Type : Nat := 17
abbrev T_struct_typ_P_abi_Type : Nat := 18
abbrev T_maps_unhashableTypeError : Nat := 19
abbrev T_interface : Nat := 20
abbrev T_int32 : Nat := 21
abbrev T_L_api_Op : Nat := 22
abbrev T_func_L_api_Op_bool : Nat := 23
abbrev T_func_bool : Nat := 24
abbrev T_P_tree_Tree : Nat := 25
abbrev T_func_L_api_Op_P_tree_Tree : Nat := 26
abbrev T_L_api_Dot : Nat := 27
abbrev T_api_Errno : Nat := 28
abbrev T_L_api_Dot_api_Errno : Nat := 29
abbrev T_func_api_Dot_L_api_Dot_api_Errno : Nat := 30
abbrev T_uint32 : Nat := 31
abbrev T_struct_R_uint8_N_uint32 : Nat := 32
abbrev T_api_Dot : Nat := 33
abbrev T_A8_uint32 : Nat := 34
abbrev T_api_Vector : Nat := 35
abbrev T_uint64 : Nat := 36
abbrev T_L_api_Claim : Nat := 37
abbrev T_api_Op : Nat := 39
abbrev T_api_Credential : Nat := 41
abbrev T_api_Credential_api_Errno : Nat := 42
abbrev T_func_api_Dot_api_Credential_api_Errno : Nat := 43
abbrev T_api_Op_bool : Nat := 44
abbrev T_func_L_api_Op_api_Dot_api_Op_bool : Nat := 45
abbrev T_func_api_Op_api_Op_bool : Nat := 46
abbrev T_func_api_Dot_api_Dot_bool : Nat := 47
abbrev T_func_L_api_Op_int_int : Nat := 48
abbrev T_func_L_api_Op_L_api_Op : Nat := 49
abbrev T_func_L_api_Dot_L_api_Dot_bool : Nat := 50
abbrev T_func_L_api_Op_int_uint8_bool : Nat := 51
abbrev T_P_shape_Shape : Nat := 52
abbrev T_func_L_api_Op_P_shape_Shape : Nat := 53
abbrev T_func_api_Op_api_Errno : Nat := 54
abbrev T_func_api_Dot_bool : Nat := 55
abbrev T_func_L_api_Op_int_bool : Nat := 56
abbrev T_tranterlaw16_Ask : Nat := 58
abbrev T_api_Credential_bool : Nat := 59
abbrev T_L_api_Dot_int : Nat := 61
abbrev T_func_L_api_Op_api_Dot_L_api_Dot_int : Nat := 62
abbrev T_func_L_api_Op_api_Dot_api_Dot_bool : Nat := 63
abbrev T_L_api_Credential : Nat := 64
abbrev T_func_L_api_Op_api_Dot_L_api_Credential : Nat := 65
abbrev T_func_api_Dot_L_api_Credential : Nat := 67
abbrev T_func_api_Dot_uint32_L_api_Dot : Nat := 68
abbrev T_func_L_api_Op_api_Op_int : Nat := 69
abbrev T_func_L_api_Op_tranterlaw16_Ask_bool : Nat := 70
abbrev T_mapAapi_Dot_api_Credential : Nat := 71
abbrev T_mapAapi_Dot_api_Op : Nat := 72
abbrev T_tree_Tree : Nat := 74
abbrev T_L_P_tree_Tree : Nat := 75
abbrev T_func_tranterlaw16_Ask_bool : Nat := 76
abbrev T_func_L_api_Dot_api_Dot_bool : Nat := 77
abbrev T_L_api_Spend : Nat := 78
abbrev T_struct_Cred_api_Dot_Spent_uint64 : Nat := 79
abbrev T_api_Spend : Nat := 80
abbrev T_A2_api_Spend : Nat := 81
abbrev T_L_api_Spend_api_Errno : Nat := 82
abbrev T_func_L_api_Spend_L_api_Spend_bool : Nat := 84
abbrev T_uint64_api_Errno : Nat := 86
abbrev T_api_Dot_api_Errno : Nat := 88
abbrev T_api_Dot_uint64_int : Nat := 90
abbrev T_L_api_Spend_int : Nat := 92
abbrev T_func_L_api_Spend_api_Dot_uint64 : Nat := 94
abbrev T_func_L_api_Op_L_api_Spend_api_Spend_bool : Nat := 95
abbrev T_func_L_api_Op_L_api_Spend_bool : Nat := 96
abbrev T_L_api_Line : Nat := 97
abbrev T_api_Desk : Nat := 99
abbrev T_func_L_api_Line_L_api_Spend_api_Op_bool : Nat := 100
abbrev T_func_L_api_Spend_L_api_Spend : Nat := 101
abbrev T_L_api_Sold : Nat := 102
abbrev T_api_Order : Nat := 104
abbrev T_api_Order_api_Desk_uint8 : Nat := 105
abbrev T_func_L_api_Line_L_api_Line_bool : Nat := 107
abbrev T_func_L_api_Op_api_Desk_api_Op_bool : Nat := 108
abbrev T_L_uint32 : Nat := 109
abbrev T_api_Line : Nat := 111
abbrev T_api_Sold : Nat := 113
abbrev T_struct_Line_api_Dot_Version_api_Dot : Nat := 114
abbrev T_api_Claim : Nat := 115
abbrev T_func_P_tree_Tree : Nat := 116
abbrev T_func_api_Dot_api_Op_bool : Nat := 117
abbrev T_func_uint8_uint8 : Nat := 118
abbrev T_func_api_Dot_L_api_Dot : Nat := 119
abbrev T_mapAapi_Dot_int : Nat := 120
abbrev T_mapAapi_Dot_api_Dot : Nat := 121
abbrev T_shape_Shape : Nat := 123
abbrev T_L_P_shape_Shape : Nat := 124
abbrev T_func_L_api_Dot : Nat := 125
abbrev T_func_api_Op_bool : Nat := 126
abbrev T_P_revoke_Index : Nat := 127
abbrev T_mapAapi_Dot_L_api_Dot : Nat := 128
abbrev T_revoke_Index : Nat := 130
abbrev T_L_P_revoke_Index : Nat := 131
abbrev T_int_api_Errno : Nat := 132
abbrev T_func_api_Dot_int_api_Errno : Nat := 133
abbrev T_L_L_api_Dot : Nat := 134
abbrev T_func_L_L_api_Dot : Nat := 135
abbrev T_func_api_Op : Nat := 136
abbrev T_func_L_api_Op_func_api_Op_bool_L_api_Op : Nat := 137
abbrev T_func_func_api_Credential_bool : Nat := 138
abbrev T_iter_SeqAtranter_api_Credential : Nat := 139
abbrev T_func_api_Vector_api_Dot_bool : Nat := 141
abbrev T_func_api_Op_int_int : Nat := 142
abbrev T_func_L_api_Op_api_Op_bool : Nat := 143
abbrev T_func_api_Op_api_Op_int : Nat := 144
abbrev T_func_L_api_Op : Nat := 145
abbrev T_func_uint32_uint8_uint32_uint32_api_Op : Nat := 146
abbrev T_func_api_Op_uint32_uint32_api_Op : Nat := 147
abbrev T_func_api_Dot_api_Op_api_Credential_bool : Nat := 148
abbrev T_struct_e_api_Errno_is_func_bool : Nat := 149
abbrev T_shape_reason : Nat := 150
abbrev T_A7_shape_reason : Nat := 151
abbrev T_func_L_api_Dot_L_api_Dot : Nat := 153
abbrev T_func_int_int : Nat := 155
abbrev T_func_int_int_int : Nat := 156
abbrev T_func_api_Dot_api_Dot_int : Nat := 157
abbrev T_func_api_Credential_api_Credential_int : Nat := 158
abbrev T_tree_reason : Nat := 160
abbrev T_A5_tree_reason : Nat := 161
abbrev T_api_Credential_int : Nat := 162
abbrev T_mapAapi_Dot_uint64 : Nat := 164
abbrev T_charge_spends : Nat := 165
abbrev T_func_L_api_Spend_charge_spends : Nat := 166
abbrev T_api_Dot_uint64 : Nat := 167
abbrev T_func_L_api_Spend : Nat := 169
abbrev T_func_L_api_Op_L_api_Spend_api_Dot_uint64 : Nat := 170
abbrev T_func_api_Line_bool : Nat := 171
abbrev T_func_api_Order_api_Order_bool : Nat := 172
abbrev T_func_L_api_Line_L_api_Line : Nat := 173
abbrev T_func_func_int_int_bool : Nat := 174
abbrev T_iter_Seq2Aint_int : Nat := 175
abbrev T_func_L_api_Line_api_Op_iter_Seq2Aint_int : Nat := 176
abbrev T_func_api_Line_api_Sold : Nat := 177
abbrev T_func_api_Line_uint64 : Nat := 178
abbrev T_func_api_Line_api_Line_bool : Nat := 179
abbrev T_func_L_api_Claim_L_api_Claim : Nat := 180
abbrev T_func_func_api_Dot_bool : Nat := 182
abbrev T_iter_SeqAtranter_api_Dot : Nat := 183
abbrev T_func_api_Op_iter_SeqAtranter_api_Dot : Nat := 186
abbrev T_func_api_Dot_api_Dot : Nat := 187
abbrev T_func_func_api_Op_bool : Nat := 188
abbrev T_func_api_Op_api_Dot : Nat := 190
abbrev T_func_L_L_api_Dot_L_L_api_Dot : Nat := 191
abbrev T_func_P_shape_Shape_P_revoke_Index : Nat := 192
abbrev T_func_L_api_Op_func_api_Op_bool_int : Nat := 193
abbrev T_func_api_Credential_bool : Nat := 194
abbrev T_func_uint8_string : Nat := 195
abbrev T_func_api_Op_api_Dot_bool : Nat := 196
abbrev T_func_string_uint8_bool : Nat := 197
abbrev T_func_L_api_Op_api_Dot_int : Nat := 198
abbrev T_func_api_Vector_api_Vector_bool : Nat := 199
abbrev T_A9_uint8 : Nat := 200
abbrev T_func_api_Claim_api_Op_bool : Nat := 202
abbrev T_func_api_Claim_bool : Nat := 204
abbrev T_func_L_api_Dot_api_Dot_L_api_Dot : Nat := 205
abbrev T_func_uint_int : Nat := 207
abbrev T_uint : Nat := 208
abbrev T_L_int : Nat := 209
abbrev T_func_int_bool : Nat := 210
abbrev T_func_uint8_uint8_int : Nat := 211
abbrev T_func_uint32_uint32_int : Nat := 212
abbrev T_func_uint8_uint8_bool : Nat := 213
abbrev T_uint64_bool : Nat := 214
abbrev T_func_api_Dot_uint64 : Nat := 215
abbrev T_L_charge_pair : Nat := 216
abbrev T_func_func_api_Dot_uint64_bool : Nat := 217
abbrev T_iter_Seq2Atranter_api_Dot_uint64 : Nat := 218
abbrev T_struct_api_Spend : Nat := 220
abbrev T_charge_pair : Nat := 221
abbrev T_func_charge_pair_charge_pair_int : Nat := 223
abbrev T_func_charge_pair_int : Nat := 224
abbrev T_func_L_uint32_bool : Nat := 225
abbrev T_func_L_uint32_L_uint32_bool : Nat := 226
abbrev T_func_L_uint32_L_uint32 : Nat := 227
abbrev T_int_bool : Nat := 228
abbrev T_func_int_int_bool : Nat := 229
abbrev T_api_Line_api_Errno : Nat := 230
abbrev T_dot_set : Nat := 232
abbrev T_func_L_api_Dot_dot_set : Nat := 233
abbrev T_func_iter_SeqAtranter_api_Dot_L_api_Dot : Nat := 234
abbrev T_func_L_api_Dot_func_api_Dot_api_Dot_int : Nat := 235
abbrev T_iter_SeqAtranter_api_Op : Nat := 236
abbrev T_L_string : Nat := 237
abbrev T_api_Dot_bool : Nat := 238
abbrev T_func_L_api_Claim_func_api_Claim_bool_int : Nat := 239
abbrev T_slices_sortedHint : Nat := 241
abbrev T_int_slices_sortedHint : Nat := 242
abbrev T_func_uint32_int : Nat := 247
abbrev T_func_uint64_int : Nat := 248
abbrev T_func_uint8_bool : Nat := 249
abbrev T_func_uint32_bool : Nat := 250
abbrev T_func_api_Dot_uint64_bool : Nat := 251
abbrev T_func_api_Line_api_Line : Nat := 253
abbrev T_func_api_Line_api_Dot_uint32_bool : Nat := 254
abbrev T_func_dot_set_iter_SeqAtranter_api_Dot : Nat := 255
abbrev T_slices_xorshift : Nat := 258
abbrev T_func_int_uint : Nat := 259
abbrev T_func_uint64 : Nat := 260
abbrev T_P_int : Nat := 262
abbrev T_func_L_uint32_func_uint32_bool_bool : Nat := 269
abbrev T_P_slices_xorshift : Nat := 275
abbrev T_int_int : Nat := 276
abbrev T_func_L_uint32_func_uint32_bool_int : Nat := 280
abbrev T_func_string : Nat := 285
abbrev T_runtime_TypeAssertionError : Nat := 287
abbrev T_A0_P_runtime_PanicNilError : Nat := 288
abbrev T_struct_A0_P_runtime_PanicNilError : Nat := 289
abbrev T_runtime_PanicNilError : Nat := 290
abbrev T_func_int : Nat := 291
abbrev T_abi_TFlag : Nat := 292
abbrev T_abi_Kind : Nat := 293
abbrev T_func_unsafe_Pointer_unsafe_Pointer_bool : Nat := 294
abbrev T_P_uint8 : Nat := 295
abbrev T_abi_NameOff : Nat := 296
abbrev T_abi_TypeOff : Nat := 297
abbrev T_abi_Type : Nat := 299
abbrev T_unsafe_Pointer : Nat := 300
/-! ### tranter.tranterlaw16.TreeNarrows -/
/-! ### tranter.tranterlaw16.TreeTells -/
namespace law16_TreeTells
abbrev f : Nat := 7
def s : SCo := (.seq
(.reg [⟨(some 3), .box 58 (.t 1), none⟩,
⟨(some 4), .mv (.k (.d (.bool false))), none⟩] (fullB 2) false)
(.seq
(.seq
(.reg [⟨(some 17), .mv (.t 0), none⟩,
⟨(some 18), .call (.k (.fn (.func 20) [] [])) [(.t 17)], none⟩] (fullB 2) false)
(.cond (.t 18)
 (.seq
 (.reg [⟨(some 19), .call (.k (.fn (.func 21) [] [])) [], none⟩,
⟨(some 4), .mv (.t 19), none⟩] (fullB 2) false)
 .ret)
 .skip))
(.seq
(.reg [⟨(some 20), .mv (.t 0), none⟩,
⟨(some 21), .call (.k (.fn (.func 22) [] [])) [(.t 20)], none⟩,
⟨(some 5), .mv (.t 21), none⟩] (fullB 3) false)
(.seq
 (.seq
 (.reg [⟨(some 22), .mv (.t 5), none⟩,
⟨(some 23), .eqnil false 0 (.t 22), none⟩] (fullB 2) false)
 (.cond (.t 23)
 (.seq
 (.reg [⟨(some 4), .mv (.k (.d (.bool false))), none⟩] (fullB 1) false)
 .ret)
 .skip))
 (.seq
 (.reg [⟨(some 25), .mv (.t 5), none⟩,
⟨(some 26), .fld 0 (.t 3), none⟩,
⟨(some 27), .load (some 2) (.t 26), none⟩,
⟨(some 28), .call (.k (.fn (.func 24) [] [])) [(.t 25), (.t 27)], none⟩,
⟨(some 24), .mv (.t 28), none⟩,
⟨(some 29), .ext 0 (.t 24), none⟩,
⟨(some 30), .ext 1 (.t 24), none⟩,
⟨(some 6), .alloc 41 [(.d (.int .u8 0)), (.d (.int .u32 0)), (.d (.int .u8 0)), (.d (.int .u32 0)), (.d (.int .u8 0)), (.d (.int .u32 0)), (.d (.int .u32 0)), (.d (.int .u8 0)), (.d (.int .u8 0)), (.d (.int .u64 0)), (.d (.int .i64 0))], none⟩,
⟨none, .store 11 (.t 6) (.t 29), none⟩,
⟨(some 7), .mv (.t 30), none⟩] (fullB 10) false)
 (.seq
 (.reg [⟨(some 32), .mv (.t 0), none⟩,
⟨(some 33), .fld 0 (.t 3), none⟩,
⟨(some 34), .load (some 2) (.t 33), none⟩,
⟨(some 35), .call (.k (.fn (.func 35) [] [])) [(.t 32), (.t 34)], none⟩,
⟨(some 31), .mv (.t 35), none⟩,
⟨(some 36), .ext 0 (.t 31), none⟩,
⟨(some 37), .ext 1 (.t 31), none⟩,
⟨(some 8), .alloc 41 [(.d (.int .u8 0)), (.d (.int .u32 0)), (.d (.int .u8 0)), (.d (.int .u32 0)), (.d (.int .u8 0)), (.d (.int .u32 0)), (.d (.int .u32 0)), (.d (.int .u8 0)), (.d (.int .u8 0)), (.d (.int .u64 0)), (.d (.int .i64 0))], none⟩,
⟨none, .store 11 (.t 8) (.t 36), none⟩,
⟨(some 9), .mv (.t 37), none⟩] (fullB 10) false)
 (.seq
 (.reg [⟨(some 39), .mv (.t 5), none⟩,
⟨(some 40), .fld 0 (.t 3), none⟩,
⟨(some 41), .load (some 2) (.t 40), none⟩,
⟨(some 42), .call (.k (.fn (.func 23) [] [])) [(.t 39), (.t 41)], none⟩,
⟨(some 38), .mv (.t 42), none⟩,
⟨(some 43), .ext 0 (.t 38), none⟩,
⟨(some 44), .ext 1 (.t 38), none⟩,
⟨(some 10), .mv (.t 43), none⟩,
⟨(some 11), .mv (.t 44), none⟩] (fullB 9) false)
 (.seq
  (.reg [⟨(some 46), .mv (.t 0), none⟩,
⟨(some 47), .fld 0 (.t 3), none⟩,
⟨(some 48), .load (some 2) (.t 47), none⟩,
⟨(some 49), .call (.k (.fn (.func 36) [] [])) [(.t 46), (.t 48)], none⟩,
⟨(some 45), .mv (.t 49), none⟩,
⟨(some 50), .ext 0 (.t 45), none⟩,
⟨(some 51), .ext 1 (.t 45), none⟩,
⟨(some 12), .mv (.t 50), none⟩,
⟨(some 13), .mv (.t 51), none⟩] (fullB 9) false)
  (.seq
  (.seq
  (.reg (⟨(some 52), .mv (.t 9), none⟩ ::
⟨(some 53), .mv (.t 52), none⟩ ::
⟨(some 54), .load (some 11) (.t 6), some (53, true)⟩ ::
⟨(some 55), .load (some 11) (.t 8), some (53, true)⟩ ::
⟨(some 56), .eqv true [true, true, true, true, true, true, true, true, true, true, true] (.t 54) (.t 55), some (53, true)⟩ ::
⟨(some 57), .pick (.t 53) (.t 56) (.k (.d (.bool false))), none⟩ ::
⟨(some 58), .mv (.t 57), none⟩ ::
⟨(some 59), .mv (.t 9), some (58, false)⟩ ::
⟨(some 60), .not (.t 59), some (58, false)⟩ ::
⟨(some 61), .mv (.t 60), some (58, false)⟩ ::
⟨(some 62), .load (some 11) (.t 6), some (61, true)⟩ ::
⟨(some 63), .bld [(.d (.int .u8 0)), (.d (.int .u32 0)), (.d (.int .u8 0)), (.d (.int .u32 0)), (.d (.int .u8 0)), (.d (.int .u32 0)), (.d (.int .u32 0)), (.d (.int .u8 0)), (.d (.int .u8 0)), (.d (.int .u64 0)), (.d (.int .i64 0))] [], some (61, true)⟩ ::
⟨(some 64), .eqv true [true, true, true, true, true, true, true, true, true, true, true] (.t 62) (.t 63), some (61, true)⟩ ::
⟨(some 65), .pick (.t 61) (.t 64) (.k (.d (.bool false))), some (58, false)⟩ ::
⟨(some 66), .pick (.t 58) (.k (.d (.bool true))) (.t 65), none⟩ ::
⟨(some 67), .mv (.t 66), none⟩ ::
⟨(some 68), .mv (.t 7), some (67, false)⟩ ::
⟨(some 69), .bin .eql (.t 68) (.k (.d (.int .i64 0))), some (67, false)⟩ ::
⟨(some 70), .mv (.t 9), some (67, false)⟩ ::
⟨(some 71), .eqb true (.t 69) (.t 70), some (67, false)⟩ ::
⟨(some 72), .pick (.t 67) (.k (.d (.bool true))) (.t 71), none⟩ ::
⟨(some 73), .mv (.t 72), none⟩ ::
⟨(some 74), .mv (.t 10), some (73, false)⟩ ::
⟨(some 75), .mv (.t 12), some (73, false)⟩ ::
⟨(some 76), .call (.k (.fn (.func 30) [] [])) [(.t 74), (.t 75)], some (73, false)⟩ ::
⟨(some 77), .not (.t 76), some (73, false)⟩ ::
⟨(some 78), .pick (.t 73) (.k (.d (.bool true))) (.t 77), none⟩ ::
⟨(some 79), .mv (.t 78), none⟩ ::
⟨(some 80), .mv (.t 11), some (79, false)⟩ ::
⟨(some 81), .mv (.t 13), some (79, false)⟩ ::
⟨(some 82), .bin .neq (.t 80) (.t 81), some (79, false)⟩ ::
⟨(some 83), .pick (.t 79) (.k (.d (.bool true))) (.t 82), none⟩ ::
⟨(some 84), .mv (.t 83), none⟩ ::
⟨(some 85), .mv (.t 5), some (84, false)⟩ ::
⟨(some 86), .fld 0 (.t 3), some (84, false)⟩ ::
⟨(some 87), .load (some 2) (.t 86), some (84, false)⟩ ::
⟨(some 88), .fld 2 (.t 3), some (84, false)⟩ ::
⟨(some 89), .load (some 2) (.t 88), some (84, false)⟩ ::
⟨(some 90), .call (.k (.fn (.func 27) [] [])) [(.t 85), (.t 87), (.t 89)], some (84, false)⟩ ::
⟨(some 91), .mv (.t 0), some (84, false)⟩ ::
⟨(some 92), .fld 0 (.t 3), some (84, false)⟩ ::
⟨(some 93), .load (some 2) (.t 92), some (84, false)⟩ ::
⟨(some 94), .fld 2 (.t 3), some (84, false)⟩ ::
⟨(some 95), .load (some 2) (.t 94), some (84, false)⟩ ::
⟨(some 96), .call (.k (.fn (.func 37) [] [])) [(.t 91), (.t 93), (.t 95)], some (84, false)⟩ ::
⟨(some 97), .eqb true (.t 90) (.t 96), some (84, false)⟩ ::
⟨(some 98), .pick (.t 84) (.k (.d (.bool true))) (.t 97), none⟩ :: []) (0 ::
1 ::
3 ::
3 ::
15 ::
31 ::
63 ::
127 ::
255 ::
511 ::
1023 ::
1023 ::
4095 ::
8191 ::
16383 ::
32767 ::
65535 ::
131071 ::
65535 ::
524287 ::
1048575 ::
2097151 ::
4194303 ::
4194303 ::
16777215 ::
33554431 ::
67108863 ::
134217727 ::
268435455 ::
268435455 ::
1073741823 ::
2147483647 ::
4294967295 ::
8589934591 ::
8589934591 ::
25769803775 ::
8589934591 ::
77309411327 ::
274877906943 ::
8589934591 ::
8589934591 ::
1108101562367 ::
8589934591 ::
4406636445695 ::
17592186044415 ::
35184372088831 ::
70368744177663 :: []) true)
  (.cond (.t 98)
  (.seq
   (.reg [⟨(some 4), .mv (.k (.d (.bool false))), none⟩] (fullB 1) false)
   .ret)
  .skip))
  (.seq
  (.reg [⟨(some 99), .mv (.t 0), none⟩,
⟨(some 100), .fld 2 (.t 3), none⟩,
⟨(some 101), .load (some 2) (.t 100), none⟩,
⟨(some 102), .call (.k (.fn (.func 38) [] [])) [(.t 99), (.t 101)], none⟩,
⟨(some 14), .mv (.t 102), none⟩] (fullB 5) false)
  (.seq
  (.reg [⟨(some 15), .mv (.k (.d .nils)), none⟩] (fullB 1) false)
  (.seq
   (.seq
   (.reg [⟨(some 16), .mv (.k (.d (.int .i64 0))), none⟩] (fullB 1) false)
   (.block 0
   (.loop
   (.seq
    (.seq
    (.reg [⟨(some 103), .mv (.t 16), none⟩,
⟨(some 104), .mv (.t 14), none⟩,
⟨(some 105), .len (.t 104), none⟩,
⟨(some 106), .bin .lss (.t 103) (.t 105), none⟩] (fullB 4) false)
    (.cond (.t 106)
    .skip
    (.exit 0)))
    (.seq
    (.block 1
    (.seq
    (.reg [⟨(some 109), .mv (.t 14), none⟩,
⟨(some 110), .mv (.t 16), none⟩,
⟨(some 111), .idxS 11 (.t 109) (.t 110), none⟩,
⟨(some 112), .fld 6 (.t 111), none⟩,
⟨(some 113), .load none (.t 112), none⟩,
⟨(some 114), .fld 4 (.t 3), none⟩,
⟨(some 115), .load none (.t 114), none⟩,
⟨(some 116), .bin .eql (.t 113) (.t 115), none⟩] [0,
0,
3,
7,
15,
0,
32,
127] true)
    (.cond (.t 116)
     (.reg [⟨(some 117), .mv (.t 15), none⟩,
⟨(some 118), .mv (.t 14), none⟩,
⟨(some 119), .mv (.t 16), none⟩,
⟨(some 120), .idxS 11 (.t 118) (.t 119), none⟩,
⟨(some 121), .fld 0 (.t 120), none⟩,
⟨(some 122), .load (some 2) (.t 121), none⟩,
⟨(some 123), .bsl 33 2 1 [(.d (.int .u8 0)), (.d (.int .u32 0))] [(0, 2, (.t 122))], none⟩,
⟨(some 124), .app 33 2 8 (.t 117) (.t 123), none⟩,
⟨(some 15), .mv (.t 124), none⟩] (fullB 9) false)
     .skip)))
    (.reg [⟨(some 107), .mv (.t 16), none⟩,
⟨(some 108), .bin .add (.t 107) (.k (.d (.int .i64 1))), none⟩,
⟨(some 16), .mv (.t 108), none⟩] (fullB 3) false))))))
   (.seq
   (.reg (⟨(some 125), .mv (.t 5), none⟩ ::
⟨(some 126), .fld 2 (.t 3), none⟩ ::
⟨(some 127), .load (some 2) (.t 126), none⟩ ::
⟨(some 128), .call (.k (.fn (.func 40) [] [])) [(.t 125), (.t 127)], none⟩ ::
⟨(some 129), .mv (.t 14), none⟩ ::
⟨(some 130), .call (.k (.fn (.func 39) [] [])) [(.t 128), (.t 129)], none⟩ ::
⟨(some 131), .mv (.t 130), none⟩ ::
⟨(some 132), .mv (.t 5), some (131, true)⟩ ::
⟨(some 133), .fld 2 (.t 3), some (131, true)⟩ ::
⟨(some 134), .load (some 2) (.t 133), some (131, true)⟩ ::
⟨(some 135), .fld 4 (.t 3), some (131, true)⟩ ::
⟨(some 136), .load none (.t 135), some (131, true)⟩ ::
⟨(some 137), .call (.k (.fn (.func 41) [] [])) [(.t 132), (.t 134), (.t 136)], some (131, true)⟩ ::
⟨(some 138), .mv (.t 15), some (131, true)⟩ ::
⟨(some 139), .call (.k (.fn (.func 30) [] [])) [(.t 137), (.t 138)], some (131, true)⟩ ::
⟨(some 140), .pick (.t 131) (.t 139) (.k (.d (.bool false))), none⟩ ::
⟨(some 141), .mv (.t 140), none⟩ ::
⟨(some 142), .mv (.t 5), some (141, true)⟩ ::
⟨(some 143), .fld 5 (.t 3), some (141, true)⟩ ::
⟨(some 144), .load (some 29) (.t 143), some (141, true)⟩ ::
⟨(some 145), .call (.k (.fn (.func 42) [] [])) [(.t 142), (.t 144)], some (141, true)⟩ ::
⟨(some 146), .mv (.t 0), some (141, true)⟩ ::
⟨(some 147), .fld 5 (.t 3), some (141, true)⟩ ::
⟨(some 148), .load (some 29) (.t 147), some (141, true)⟩ ::
⟨(some 149), .call (.k (.fn (.func 43) [] [])) [(.t 146), (.t 148)], some (141, true)⟩ ::
⟨(some 150), .bin .eql (.t 145) (.t 149), some (141, true)⟩ ::
⟨(some 151), .pick (.t 141) (.t 150) (.k (.d (.bool false))), none⟩ ::
⟨(some 152), .mv (.t 151), none⟩ ::
⟨(some 153), .call (.k (.fn (.func 21) [] [])) [], some (152, true)⟩ ::
⟨(some 154), .pick (.t 152) (.t 153) (.k (.d (.bool false))), none⟩ ::
⟨(some 4), .mv (.t 154), none⟩ :: []) (0 ::
0 ::
2 ::
7 ::
0 ::
31 ::
63 ::
127 ::
127 ::
383 ::
127 ::
1151 ::
4095 ::
127 ::
16383 ::
32767 ::
65535 ::
131071 ::
131071 ::
393215 ::
1048575 ::
131071 ::
131071 ::
4325375 ::
16777215 ::
33554431 ::
67108863 ::
134217727 ::
268435455 ::
536870911 ::
1073741823 :: []) true)
   .ret)))))))))))))
def rv : List RV := [.tmp 4]
/-! live law16_TreeTells: [0, 1, 3, 4, 5, 6, 7, 8, 9, 10, 11, 12, 13, 14, 15, 16, 18, 23, 98, 106, 116] -/
theorem c : cK Try.prog Try.f7.ntmps (Try.f7.body.getD .ret) = some s := by kernel_rfl
theorem b : Try.f7.body = some (Try.f7.body.getD .ret) := by kernel_rfl
theorem r : cRV Try.prog Try.f7.results.toList = some rv := by kernel_rfl
theorem ca : Callable Try.prog 7 = true := by kernel_rfl
theorem enter {args : List SV} {F : Hp} {k nk : Nat} {Q : SV → Hp → Prop} (hargs : SV.oks (fun n => decide (n < k)) args = true) (hF : F.ok (fun n => decide (n < k)) = true) (hN : args.length ≤ 155)
    (h : SW Try.prog 155 k s ⟨argE 0 args, F, k⟩ fun e st' => match e with | .normal => Fin k nk rv Q st' | .ret => Fin k nk rv Q st' | _ => False) : SB Try.prog 7 args F k nk Q :=
  SB.of_body Try.func7 b c r ca hargs hF hN h
end law16_TreeTells
/-! ### tranter.tranterlaw16.TreeNone -/
/-! ### tranter.tranterlaw16.TreeHeld -/
/-! ### tranter.tranterref10.Great -/
namespace ref10_Great
abbrev f : Nat := 20
def s : SCo := (.seq
(.reg [⟨(some 2), .mv (.k (.d (.bool false))), none⟩] (fullB 1) false)
(.seq
(.reg [⟨(some 3), .mv (.k (.d (.int .i64 0))), none⟩] (fullB 1) false)
(.seq
(.seq
 (.reg [⟨(some 4), .mv (.k (.d (.int .i64 0))), none⟩] (fullB 1) false)
 (.block 0
 (.loop
 (.seq
 (.seq
  (.reg [⟨(some 5), .mv (.t 4), none⟩,
⟨(some 6), .mv (.t 0), none⟩,
⟨(some 7), .len (.t 6), none⟩,
⟨(some 8), .bin .lss (.t 5) (.t 7), none⟩,
⟨(some 9), .mv (.t 8), none⟩,
⟨(some 10), .mv (.t 4), some (9, true)⟩,
⟨(some 11), .bin .lss (.t 10) (.k (.d (.int .i64 100))), some (9, true)⟩,
⟨(some 12), .pick (.t 9) (.t 11) (.k (.d (.bool false))), none⟩] (fullB 8) false)
  (.cond (.t 12)
  .skip
  (.exit 0)))
 (.seq
  (.block 1
  (.reg [⟨(some 15), .mv (.t 3), none⟩,
⟨(some 16), .mv (.t 0), none⟩,
⟨(some 17), .mv (.t 4), none⟩,
⟨(some 18), .idxS 29 (.t 16) (.t 17), none⟩,
⟨(some 19), .fld 28 (.t 18), none⟩,
⟨(some 20), .load none (.t 19), none⟩,
⟨(some 21), .len (.t 20), none⟩,
⟨(some 22), .bin .add (.t 15) (.t 21), none⟩,
⟨(some 3), .mv (.t 22), none⟩] (fullB 9) false))
  (.reg [⟨(some 13), .mv (.t 4), none⟩,
⟨(some 14), .bin .add (.t 13) (.k (.d (.int .i64 1))), none⟩,
⟨(some 4), .mv (.t 14), none⟩] (fullB 3) false))))))
(.seq
 (.reg [⟨(some 23), .mv (.t 0), none⟩,
⟨(some 24), .len (.t 23), none⟩,
⟨(some 25), .bin .gtr (.t 24) (.k (.d (.int .i64 80))), none⟩,
⟨(some 26), .mv (.t 25), none⟩,
⟨(some 27), .mv (.t 3), some (26, false)⟩,
⟨(some 28), .bin .gtr (.t 27) (.k (.d (.int .i64 300))), some (26, false)⟩,
⟨(some 29), .pick (.t 26) (.k (.d (.bool true))) (.t 28), none⟩,
⟨(some 2), .mv (.t 29), none⟩] (fullB 8) false)
 .ret))))
def rv : List RV := [.tmp 2]
/-! live ref10_Great: [0, 2, 3, 4, 12] -/
theorem c : cK Try.prog Try.f20.ntmps (Try.f20.body.getD .ret) = some s := by kernel_rfl
theorem b : Try.f20.body = some (Try.f20.body.getD .ret) := by kernel_rfl
theorem r : cRV Try.prog Try.f20.results.toList = some rv := by kernel_rfl
theorem ca : Callable Try.prog 20 = true := by kernel_rfl
theorem enter {args : List SV} {F : Hp} {k nk : Nat} {Q : SV → Hp → Prop} (hargs : SV.oks (fun n => decide (n < k)) args = true) (hF : F.ok (fun n => decide (n < k)) = true) (hN : args.length ≤ 30)
    (h : SW Try.prog 30 k s ⟨argE 0 args, F, k⟩ fun e st' => match e with | .normal => Fin k nk rv Q st' | .ret => Fin k nk rv Q st' | _ => False) : SB Try.prog 20 args F k nk Q :=
  SB.of_body Try.func20 b c r ca hargs hF hN h
end ref10_Great
/-! ### tranter.tranterlaw16.head -/
namespace law16_head
abbrev f : Nat := 21
def s : SCo := (.seq
(.reg [⟨(some 0), .mv (.k (.d (.bool false))), none⟩] (fullB 1) false)
(.seq
(.reg [⟨(some 9), .call (.k (.fn (.func 70) [] [])) [], none⟩,
⟨(some 10), .call (.k (.fn (.func 71) [] [])) [], none⟩,
⟨(some 11), .call (.k (.fn (.func 72) [] [])) [], none⟩,
⟨(some 12), .bsl 39 29 3 [(.d (.int .u8 0)), (.d (.int .u32 0)), (.d (.int .u32 0)), (.d (.int .u32 0)), (.d (.int .u32 0)), (.d (.int .u32 0)), (.d (.int .u32 0)), (.d (.int .u32 0)), (.d (.int .u32 0)), (.d (.int .u32 0)), (.d (.int .u64 0)), (.d (.int .u32 0)), (.d (.int .u8 0)), (.d (.int .u32 0)), (.d (.int .u8 0)), (.d (.int .u8 0)), (.d (.int .u32 0)), (.d (.int .u32 0)), (.d (.int .u8 0)), (.d (.int .u8 0)), (.d (.int .u64 0)), (.d (.int .u8 0)), (.d (.int .u32 0)), (.d (.int .u8 0)), (.d (.int .u32 0)), (.d (.int .u32 0)), (.d (.int .u32 0)), (.d (.int .u32 0)), (.d .nils), (.d (.int .u8 0)), (.d (.int .u32 0)), (.d (.int .u32 0)), (.d (.int .u32 0)), (.d (.int .u32 0)), (.d (.int .u32 0)), (.d (.int .u32 0)), (.d (.int .u32 0)), (.d (.int .u32 0)), (.d (.int .u32 0)), (.d (.int .u64 0)), (.d (.int .u32 0)), (.d (.int .u8 0)), (.d (.int .u32 0)), (.d (.int .u8 0)), (.d (.int .u8 0)), (.d (.int .u32 0)), (.d (.int .u32 0)), (.d (.int .u8 0)), (.d (.int .u8 0)), (.d (.int .u64 0)), (.d (.int .u8 0)), (.d (.int .u32 0)), (.d (.int .u8 0)), (.d (.int .u32 0)), (.d (.int .u32 0)), (.d (.int .u32 0)), (.d (.int .u32 0)), (.d .nils), (.d (.int .u8 0)), (.d (.int .u32 0)), (.d (.int .u32 0)), (.d (.int .u32 0)), (.d (.int .u32 0)), (.d (.int .u32 0)), (.d (.int .u32 0)), (.d (.int .u32 0)), (.d (.int .u32 0)), (.d (.int .u32 0)), (.d (.int .u64 0)), (.d (.int .u32 0)), (.d (.int .u8 0)), (.d (.int .u32 0)), (.d (.int .u8 0)), (.d (.int .u8 0)), (.d (.int .u32 0)), (.d (.int .u32 0)), (.d (.int .u8 0)), (.d (.int .u8 0)), (.d (.int .u64 0)), (.d (.int .u8 0)), (.d (.int .u32 0)), (.d (.int .u8 0)), (.d (.int .u32 0)), (.d (.int .u32 0)), (.d (.int .u32 0)), (.d (.int .u32 0)), (.d .nils)] [(0, 29, (.t 9)), (29, 29, (.t 10)), (58, 29, (.t 11))], none⟩,
⟨(some 13), .call (.k (.fn (.func 22) [] [])) [(.t 12)], none⟩,
⟨(some 1), .mv (.t 13), none⟩] (fullB 6) false)
(.seq
(.seq
 (.reg [⟨(some 14), .mv (.t 1), none⟩,
⟨(some 15), .eqnil false 0 (.t 14), none⟩] (fullB 2) false)
 (.cond (.t 15)
 (.seq
 (.reg [⟨(some 0), .mv (.k (.d (.bool false))), none⟩] (fullB 1) false)
 .ret)
 .skip))
(.seq
 (.reg [⟨(some 17), .mv (.t 1), none⟩,
⟨(some 18), .bld [(.d (.int .u8 0)), (.d (.int .u32 0))] [(1, 1, (.k (.d (.int .u32 3))))], none⟩,
⟨(some 19), .call (.k (.fn (.func 23) [] [])) [(.t 17), (.t 18)], none⟩,
⟨(some 16), .mv (.t 19), none⟩,
⟨(some 20), .ext 0 (.t 16), none⟩,
⟨(some 21), .ext 1 (.t 16), none⟩,
⟨(some 2), .mv (.t 20), none⟩,
⟨(some 3), .mv (.t 21), none⟩] (fullB 8) false)
 (.seq
 (.reg [⟨(some 22), .call (.k (.fn (.func 70) [] [])) [], none⟩,
⟨(some 23), .call (.k (.fn (.func 70) [] [])) [], none⟩,
⟨(some 24), .call (.k (.fn (.func 70) [] [])) [], none⟩,
⟨(some 25), .call (.k (.fn (.func 70) [] [])) [], none⟩,
⟨(some 26), .call (.k (.fn (.func 70) [] [])) [], none⟩,
⟨(some 4), .alloc 39 [(.d (.int .u8 0)), (.d (.int .u32 0)), (.d (.int .u32 0)), (.d (.int .u32 0)), (.d (.int .u32 0)), (.d (.int .u32 0)), (.d (.int .u32 0)), (.d (.int .u32 0)), (.d (.int .u32 0)), (.d (.int .u32 0)), (.d (.int .u64 0)), (.d (.int .u32 0)), (.d (.int .u8 0)), (.d (.int .u32 0)), (.d (.int .u8 0)), (.d (.int .u8 0)), (.d (.int .u32 0)), (.d (.int .u32 0)), (.d (.int .u8 0)), (.d (.int .u8 0)), (.d (.int .u64 0)), (.d (.int .u8 0)), (.d (.int .u32 0)), (.d (.int .u8 0)), (.d (.int .u32 0)), (.d (.int .u32 0)), (.d (.int .u32 0)), (.d (.int .u32 0)), (.d .nils)], none⟩,
⟨(some 5), .alloc 39 [(.d (.int .u8 0)), (.d (.int .u32 0)), (.d (.int .u32 0)), (.d (.int .u32 0)), (.d (.int .u32 0)), (.d (.int .u32 0)), (.d (.int .u32 0)), (.d (.int .u32 0)), (.d (.int .u32 0)), (.d (.int .u32 0)), (.d (.int .u64 0)), (.d (.int .u32 0)), (.d (.int .u8 0)), (.d (.int .u32 0)), (.d (.int .u8 0)), (.d (.int .u8 0)), (.d (.int .u32 0)), (.d (.int .u32 0)), (.d (.int .u8 0)), (.d (.int .u8 0)), (.d (.int .u64 0)), (.d (.int .u8 0)), (.d (.int .u32 0)), (.d (.int .u8 0)), (.d (.int .u32 0)), (.d (.int .u32 0)), (.d (.int .u32 0)), (.d (.int .u32 0)), (.d .nils)], none⟩,
⟨(some 6), .alloc 39 [(.d (.int .u8 0)), (.d (.int .u32 0)), (.d (.int .u32 0)), (.d (.int .u32 0)), (.d (.int .u32 0)), (.d (.int .u32 0)), (.d (.int .u32 0)), (.d (.int .u32 0)), (.d (.int .u32 0)), (.d (.int .u32 0)), (.d (.int .u64 0)), (.d (.int .u32 0)), (.d (.int .u8 0)), (.d (.int .u32 0)), (.d (.int .u8 0)), (.d (.int .u8 0)), (.d (.int .u32 0)), (.d (.int .u32 0)), (.d (.int .u8 0)), (.d (.int .u8 0)), (.d (.int .u64 0)), (.d (.int .u8 0)), (.d (.int .u32 0)), (.d (.int .u8 0)), (.d (.int .u32 0)), (.d (.int .u32 0)), (.d (.int .u32 0)), (.d (.int .u32 0)), (.d .nils)], none⟩,
⟨(some 7), .alloc 39 [(.d (.int .u8 0)), (.d (.int .u32 0)), (.d (.int .u32 0)), (.d (.int .u32 0)), (.d (.int .u32 0)), (.d (.int .u32 0)), (.d (.int .u32 0)), (.d (.int .u32 0)), (.d (.int .u32 0)), (.d (.int .u32 0)), (.d (.int .u64 0)), (.d (.int .u32 0)), (.d (.int .u8 0)), (.d (.int .u32 0)), (.d (.int .u8 0)), (.d (.int .u8 0)), (.d (.int .u32 0)), (.d (.int .u32 0)), (.d (.int .u8 0)), (.d (.int .u8 0)), (.d (.int .u64 0)), (.d (.int .u8 0)), (.d (.int .u32 0)), (.d (.int .u8 0)), (.d (.int .u32 0)), (.d (.int .u32 0)), (.d (.int .u32 0)), (.d (.int .u32 0)), (.d .nils)], none⟩,
⟨(some 8), .alloc 39 [(.d (.int .u8 0)), (.d (.int .u32 0)), (.d (.int .u32 0)), (.d (.int .u32 0)), (.d (.int .u32 0)), (.d (.int .u32 0)), (.d (.int .u32 0)), (.d (.int .u32 0)), (.d (.int .u32 0)), (.d (.int .u32 0)), (.d (.int .u64 0)), (.d (.int .u32 0)), (.d (.int .u8 0)), (.d (.int .u32 0)), (.d (.int .u8 0)), (.d (.int .u8 0)), (.d (.int .u32 0)), (.d (.int .u32 0)), (.d (.int .u8 0)), (.d (.int .u8 0)), (.d (.int .u64 0)), (.d (.int .u8 0)), (.d (.int .u32 0)), (.d (.int .u8 0)), (.d (.int .u32 0)), (.d (.int .u32 0)), (.d (.int .u32 0)), (.d (.int .u32 0)), (.d .nils)], none⟩,
⟨none, .store 29 (.t 4) (.t 22), none⟩,
⟨none, .store 29 (.t 5) (.t 23), none⟩,
⟨none, .store 29 (.t 6) (.t 24), none⟩,
⟨none, .store 29 (.t 7) (.t 25), none⟩,
⟨none, .store 29 (.t 8) (.t 26), none⟩] (fullB 15) false)
 (.seq
 (.reg [⟨(some 27), .fld 11 (.t 4), none⟩,
⟨none, .store 1 (.t 27) (.k (.d (.int .u32 1))), none⟩] (fullB 2) false)
 (.seq
 (.reg [⟨(some 28), .fld 18 (.t 5), none⟩,
⟨none, .store 1 (.t 28) (.k (.d (.int .u8 4))), none⟩] (fullB 2) false)
 (.seq
  (.reg [⟨(some 29), .fld 20 (.t 6), none⟩,
⟨none, .store 1 (.t 29) (.k (.d (.int .u64 501))), none⟩] (fullB 2) false)
  (.seq
  (.reg [⟨(some 30), .bld [(.d (.int .u8 0)), (.d (.int .u32 0))] [(1, 1, (.k (.d (.int .u32 3))))], none⟩,
⟨(some 31), .fld 15 (.t 7), none⟩,
⟨none, .store 2 (.t 31) (.t 30), none⟩] (fullB 3) false)
  (.seq
  (.reg [⟨(some 32), .bld [(.d (.int .u8 0)), (.d (.int .u32 0))] [(1, 1, (.k (.d (.int .u32 4))))], none⟩,
⟨(some 33), .fld 0 (.t 8), none⟩,
⟨none, .store 2 (.t 33) (.t 32), none⟩] (fullB 3) false)
  (.seq
  (.reg [⟨(some 34), .bld [(.d (.int .u32 0)), (.d (.int .u32 0)), (.d (.int .u32 0)), (.d (.int .u32 0)), (.d (.int .u32 0)), (.d (.int .u32 0)), (.d (.int .u32 0)), (.d (.int .u32 0))] [(0, 1, (.k (.d (.int .u32 3))))], none⟩,
⟨(some 35), .fld 2 (.t 8), none⟩,
⟨none, .store 8 (.t 35) (.t 34), none⟩] (fullB 3) false)
  (.seq
   (.reg [⟨(some 36), .fld 11 (.t 8), none⟩,
⟨none, .store 1 (.t 36) (.k (.d (.int .u32 3))), none⟩] (fullB 2) false)
   (.seq
   (.reg [⟨(some 37), .bld [(.d (.int .u8 0)), (.d (.int .u32 0))] [(1, 1, (.k (.d (.int .u32 3))))], none⟩,
⟨(some 38), .fld 15 (.t 8), none⟩,
⟨none, .store 2 (.t 38) (.t 37), none⟩] (fullB 3) false)
   (.seq
   (.reg (⟨(some 39), .mv (.t 2), none⟩ ::
⟨(some 40), .bld [(.d (.int .u8 0)), (.d (.int .u32 0))] [(1, 1, (.k (.d (.int .u32 3))))], none⟩ ::
⟨(some 41), .bld [(.d (.int .u8 0)), (.d (.int .u32 0))] [(1, 1, (.k (.d (.int .u32 2))))], none⟩ ::
⟨(some 42), .bld [(.d (.int .u8 0)), (.d (.int .u32 0))] [(1, 1, (.k (.d (.int .u32 1))))], none⟩ ::
⟨(some 43), .bsl 33 2 3 [(.d (.int .u8 0)), (.d (.int .u32 0)), (.d (.int .u8 0)), (.d (.int .u32 0)), (.d (.int .u8 0)), (.d (.int .u32 0))] [(0, 2, (.t 40)), (2, 2, (.t 41)), (4, 2, (.t 42))], none⟩ ::
⟨(some 44), .call (.k (.fn (.func 30) [] [])) [(.t 39), (.t 43)], none⟩ ::
⟨(some 45), .mv (.t 44), none⟩ ::
⟨(some 46), .mv (.t 3), some (45, true)⟩ ::
⟨(some 47), .bin .eql (.t 46) (.k (.d (.int .i64 0))), some (45, true)⟩ ::
⟨(some 48), .pick (.t 45) (.t 47) (.k (.d (.bool false))), none⟩ ::
⟨(some 49), .mv (.t 48), none⟩ ::
⟨(some 50), .mv (.t 1), some (49, true)⟩ ::
⟨(some 51), .bld [(.d (.int .u8 0)), (.d (.int .u32 0))] [(1, 1, (.k (.d (.int .u32 1))))], some (49, true)⟩ ::
⟨(some 52), .bld [(.d (.int .u8 0)), (.d (.int .u32 0))] [(1, 1, (.k (.d (.int .u32 3))))], some (49, true)⟩ ::
⟨(some 53), .call (.k (.fn (.func 27) [] [])) [(.t 50), (.t 51), (.t 52)], some (49, true)⟩ ::
⟨(some 54), .pick (.t 49) (.t 53) (.k (.d (.bool false))), none⟩ ::
⟨(some 55), .mv (.t 54), none⟩ ::
⟨(some 56), .mv (.t 1), some (55, true)⟩ ::
⟨(some 57), .bld [(.d (.int .u8 0)), (.d (.int .u32 0))] [(1, 1, (.k (.d (.int .u32 3))))], some (55, true)⟩ ::
⟨(some 58), .bld [(.d (.int .u8 0)), (.d (.int .u32 0))] [(1, 1, (.k (.d (.int .u32 1))))], some (55, true)⟩ ::
⟨(some 59), .call (.k (.fn (.func 27) [] [])) [(.t 56), (.t 57), (.t 58)], some (55, true)⟩ ::
⟨(some 60), .not (.t 59), some (55, true)⟩ ::
⟨(some 61), .pick (.t 55) (.t 60) (.k (.d (.bool false))), none⟩ ::
⟨(some 62), .mv (.t 61), none⟩ ::
⟨(some 63), .mv (.t 1), some (62, true)⟩ ::
⟨(some 64), .load (some 29) (.t 4), some (62, true)⟩ ::
⟨(some 65), .call (.k (.fn (.func 42) [] [])) [(.t 63), (.t 64)], some (62, true)⟩ ::
⟨(some 66), .bin .eql (.t 65) (.k (.d (.int .i64 273))), some (62, true)⟩ ::
⟨(some 67), .pick (.t 62) (.t 66) (.k (.d (.bool false))), none⟩ ::
⟨(some 68), .mv (.t 67), none⟩ ::
⟨(some 69), .mv (.t 1), some (68, true)⟩ ::
⟨(some 70), .load (some 29) (.t 5), some (68, true)⟩ ::
⟨(some 71), .call (.k (.fn (.func 42) [] [])) [(.t 69), (.t 70)], some (68, true)⟩ ::
⟨(some 72), .bin .eql (.t 71) (.k (.d (.int .i64 275))), some (68, true)⟩ ::
⟨(some 73), .pick (.t 68) (.t 72) (.k (.d (.bool false))), none⟩ ::
⟨(some 74), .mv (.t 73), none⟩ ::
⟨(some 75), .mv (.t 1), some (74, true)⟩ ::
⟨(some 76), .load (some 29) (.t 6), some (74, true)⟩ ::
⟨(some 77), .call (.k (.fn (.func 42) [] [])) [(.t 75), (.t 76)], some (74, true)⟩ ::
⟨(some 78), .bin .eql (.t 77) (.k (.d (.int .i64 275))), some (74, true)⟩ ::
⟨(some 79), .pick (.t 74) (.t 78) (.k (.d (.bool false))), none⟩ ::
⟨(some 80), .mv (.t 79), none⟩ ::
⟨(some 81), .mv (.t 1), some (80, true)⟩ ::
⟨(some 82), .load (some 29) (.t 7), some (80, true)⟩ ::
⟨(some 83), .call (.k (.fn (.func 42) [] [])) [(.t 81), (.t 82)], some (80, true)⟩ ::
⟨(some 84), .bin .eql (.t 83) (.k (.d (.int .i64 272))), some (80, true)⟩ ::
⟨(some 85), .pick (.t 80) (.t 84) (.k (.d (.bool false))), none⟩ ::
⟨(some 86), .mv (.t 85), none⟩ ::
⟨(some 87), .mv (.t 1), some (86, true)⟩ ::
⟨(some 88), .load (some 29) (.t 8), some (86, true)⟩ ::
⟨(some 89), .call (.k (.fn (.func 42) [] [])) [(.t 87), (.t 88)], some (86, true)⟩ ::
⟨(some 90), .bin .eql (.t 89) (.k (.d (.int .i64 274))), some (86, true)⟩ ::
⟨(some 91), .pick (.t 86) (.t 90) (.k (.d (.bool false))), none⟩ ::
⟨(some 92), .mv (.t 91), none⟩ ::
⟨(some 93), .mv (.t 1), some (92, true)⟩ ::
⟨(some 94), .call (.k (.fn (.func 71) [] [])) [], some (92, true)⟩ ::
⟨(some 95), .call (.k (.fn (.func 42) [] [])) [(.t 93), (.t 94)], some (92, true)⟩ ::
⟨(some 96), .bin .eql (.t 95) (.k (.d (.int .i64 2))), some (92, true)⟩ ::
⟨(some 97), .pick (.t 92) (.t 96) (.k (.d (.bool false))), none⟩ ::
⟨(some 0), .mv (.t 97), none⟩ :: []) (fullB 60) false)
   .ret))))))))))))))
def rv : List RV := [.tmp 0]
/-! live law16_head: [0, 1, 2, 3, 4, 5, 6, 7, 8, 15] -/
theorem c : cK Try.prog Try.f21.ntmps (Try.f21.body.getD .ret) = some s := by kernel_rfl
theorem b : Try.f21.body = some (Try.f21.body.getD .ret) := by kernel_rfl
theorem r : cRV Try.prog Try.f21.results.toList = some rv := by kernel_rfl
theorem ca : Callable Try.prog 21 = true := by kernel_rfl
theorem enter {args : List SV} {F : Hp} {k nk : Nat} {Q : SV → Hp → Prop} (hargs : SV.oks (fun n => decide (n < k)) args = true) (hF : F.ok (fun n => decide (n < k)) = true) (hN : args.length ≤ 98)
    (h : SW Try.prog 98 k s ⟨argE 0 args, F, k⟩ fun e st' => match e with | .normal => Fin k nk rv Q st' | .ret => Fin k nk rv Q st' | _ => False) : SB Try.prog 21 args F k nk Q :=
  SB.of_body Try.func21 b c r ca hargs hF hN h
end law16_head
/-! ### tranter.tree.New -/
namespace tree_New
abbrev f : Nat := 22
def s : SCo := (.seq
(.reg [⟨(some 2), .mv (.k (.d .nilp)), none⟩] (fullB 1) false)
(.seq
(.reg [⟨(some 8), .mkm, none⟩,
⟨(some 9), .mkm, none⟩,
⟨(some 10), .bld [(.d .nilm), (.d .nilm)] [(0, 1, (.t 8)), (1, 1, (.t 9))], none⟩,
⟨(some 11), .box 74 (.t 10), none⟩,
⟨(some 3), .mv (.t 11), none⟩] (fullB 5) false)
(.seq
(.reg [⟨(some 12), .mkm, none⟩,
⟨(some 4), .alloc 120 [(.d .nilm)], none⟩,
⟨none, .store 1 (.t 4) (.t 12), none⟩] (fullB 3) false)
(.seq
 (.reg [⟨(some 13), .mv (.t 0), none⟩,
⟨(some 14), .call (.k (.fn (.func 74) [] [])) [(.t 13)], none⟩,
⟨(some 15), .mkf (.func 75) [] [(.t 4)], none⟩,
⟨(some 16), .call (.k (.fn (.func 73) [] [])) [(.t 14), (.t 15)], none⟩,
⟨(some 5), .mv (.t 16), none⟩] (fullB 5) false)
 (.seq
 (.seq
 (.reg [⟨(some 6), .mv (.k (.d (.bool true))), none⟩] (fullB 1) false)
 (.block 0
 (.loop
  (.seq
  (.seq
  (.reg [⟨(some 17), .mv (.t 6), none⟩] (fullB 1) false)
  (.cond (.t 17)
  .skip
  (.exit 0)))
  (.block 1
  (.seq
  (.reg [⟨(some 18), .mv (.t 5), none⟩,
⟨(some 19), .len (.t 18), none⟩,
⟨(some 7), .mv (.t 19), none⟩] (fullB 3) false)
  (.seq
   (.reg [⟨(some 20), .mv (.t 5), none⟩,
⟨(some 21), .mv (.t 3), none⟩,
⟨(some 22), .mkf (.func 76) [(.t 21)] [], none⟩,
⟨(some 23), .call (.k (.fn (.func 73) [] [])) [(.t 20), (.t 22)], none⟩,
⟨(some 5), .mv (.t 23), none⟩] (fullB 5) false)
   (.reg [⟨(some 24), .mv (.t 5), none⟩,
⟨(some 25), .len (.t 24), none⟩,
⟨(some 26), .mv (.t 7), none⟩,
⟨(some 27), .bin .lss (.t 25) (.t 26), none⟩,
⟨(some 6), .mv (.t 27), none⟩] (fullB 5) false))))))))
 (.seq
 (.reg [⟨(some 28), .mv (.t 3), none⟩,
⟨(some 2), .mv (.t 28), none⟩] (fullB 2) false)
 .ret))))))
def rv : List RV := [.tmp 2]
/-! live tree_New: [0, 2, 3, 4, 5, 6, 7, 17] -/
theorem c : cK Try.prog Try.f22.ntmps (Try.f22.body.getD .ret) = some s := by kernel_rfl
theorem b : Try.f22.body = some (Try.f22.body.getD .ret) := by kernel_rfl
theorem r : cRV Try.prog Try.f22.results.toList = some rv := by kernel_rfl
theorem ca : Callable Try.prog 22 = true := by kernel_rfl
theorem enter {args : List SV} {F : Hp} {k nk : Nat} {Q : SV → Hp → Prop} (hargs : SV.oks (fun n => decide (n < k)) args = true) (hF : F.ok (fun n => decide (n < k)) = true) (hN : args.length ≤ 29)
    (h : SW Try.prog 29 k s ⟨argE 0 args, F, k⟩ fun e st' => match e with | .normal => Fin k nk rv Q st' | .ret => Fin k nk rv Q st' | _ => False) : SB Try.prog 22 args F k nk Q :=
  SB.of_body Try.func22 b c r ca hargs hF hN h
end tree_New
/-! ### (tranter.tree.Tree).Chain -/
namespace tree_Tree_Chain
abbrev f : Nat := 23
def s : SCo := (.seq
(.reg [⟨(some 3), .box 33 (.t 1), none⟩,
⟨(some 4), .mv (.k (.d .nils)), none⟩,
⟨(some 5), .mv (.k (.d (.int .i64 0))), none⟩] (fullB 3) false)
(.seq
(.seq
(.reg [⟨(some 11), .mv (.t 0), none⟩,
⟨(some 12), .load (some 2) (.t 3), none⟩,
⟨(some 13), .call (.k (.fn (.func 24) [] [])) [(.t 11), (.t 12)], none⟩,
⟨(some 10), .mv (.t 13), none⟩,
⟨(some 14), .ext 0 (.t 10), none⟩,
⟨(some 15), .ext 1 (.t 10), none⟩,
⟨(some 6), .alloc 41 [(.d (.int .u8 0)), (.d (.int .u32 0)), (.d (.int .u8 0)), (.d (.int .u32 0)), (.d (.int .u8 0)), (.d (.int .u32 0)), (.d (.int .u32 0)), (.d (.int .u8 0)), (.d (.int .u8 0)), (.d (.int .u64 0)), (.d (.int .i64 0))], none⟩,
⟨none, .store 11 (.t 6) (.t 14), none⟩,
⟨(some 7), .mv (.t 15), none⟩] (fullB 9) false)
(.seq
 (.reg [⟨(some 16), .mv (.t 7), none⟩,
⟨(some 17), .bin .neq (.t 16) (.k (.d (.int .i64 0))), none⟩] (fullB 2) false)
 (.cond (.t 17)
 (.seq
 (.reg [⟨(some 18), .mv (.t 7), none⟩,
⟨(some 4), .mv (.k (.d .nils)), none⟩,
⟨(some 5), .mv (.t 18), none⟩] (fullB 3) false)
 .ret)
 .skip)))
(.seq
(.reg [⟨(some 8), .alloc 27 [(.d .nils)], none⟩] (fullB 1) false)
(.seq
 (.seq
 (.reg [⟨(some 19), .mv (.t 0), none⟩,
⟨(some 20), .load (some 2) (.t 3), none⟩,
⟨(some 21), .call (.k (.fn (.func 77) [] [])) [(.t 19), (.t 20)], none⟩] (fullB 3) false)
 (.block 0
 (.rfun (.t 21) [22]
 (.reg [⟨(some 9), .alloc 41 [(.d (.int .u8 0)), (.d (.int .u32 0)), (.d (.int .u8 0)), (.d (.int .u32 0)), (.d (.int .u8 0)), (.d (.int .u32 0)), (.d (.int .u32 0)), (.d (.int .u8 0)), (.d (.int .u8 0)), (.d (.int .u64 0)), (.d (.int .i64 0))], none⟩,
⟨none, .store 11 (.t 9) (.t 22), none⟩] (fullB 2) false)
 (.block 1
  (.reg [⟨(some 23), .load none (.t 8), none⟩,
⟨(some 24), .fld 0 (.t 9), none⟩,
⟨(some 25), .load (some 2) (.t 24), none⟩,
⟨(some 26), .bsl 33 2 1 [(.d (.int .u8 0)), (.d (.int .u32 0))] [(0, 2, (.t 25))], none⟩,
⟨(some 27), .app 33 2 8 (.t 23) (.t 26), none⟩,
⟨none, .store 1 (.t 8) (.t 27), none⟩] (fullB 6) false)))))
 (.seq
 (.reg [⟨(some 28), .load none (.t 8), none⟩,
⟨(some 4), .mv (.t 28), none⟩,
⟨(some 5), .mv (.k (.d (.int .i64 0))), none⟩] (fullB 3) false)
 .ret)))))
def rv : List RV := [.tmp 4, .tmp 5]
/-! live tree_Tree_Chain: [0, 1, 3, 4, 5, 7, 8, 9, 17, 21, 22] -/
theorem c : cK Try.prog Try.f23.ntmps (Try.f23.body.getD .ret) = some s := by kernel_rfl
theorem b : Try.f23.body = some (Try.f23.body.getD .ret) := by kernel_rfl
theorem r : cRV Try.prog Try.f23.results.toList = some rv := by kernel_rfl
theorem ca : Callable Try.prog 23 = true := by kernel_rfl
theorem enter {args : List SV} {F : Hp} {k nk : Nat} {Q : SV → Hp → Prop} (hargs : SV.oks (fun n => decide (n < k)) args = true) (hF : F.ok (fun n => decide (n < k)) = true) (hN : args.length ≤ 29)
    (h : SW Try.prog 29 k s ⟨argE 0 args, F, k⟩ fun e st' => match e with | .normal => Fin k nk rv Q st' | .ret => Fin k nk rv Q st' | _ => False) : SB Try.prog 23 args F k nk Q :=
  SB.of_body Try.func23 b c r ca hargs hF hN h
end tree_Tree_Chain
/-! ### (tranter.tree.Tree).Get -/
namespace tree_Tree_Get
abbrev f : Nat := 24
def s : SCo := (.seq
(.reg [⟨(some 3), .box 33 (.t 1), none⟩,
⟨(some 4), .alloc 41 [(.d (.int .u8 0)), (.d (.int .u32 0)), (.d (.int .u8 0)), (.d (.int .u32 0)), (.d (.int .u8 0)), (.d (.int .u32 0)), (.d (.int .u32 0)), (.d (.int .u8 0)), (.d (.int .u8 0)), (.d (.int .u64 0)), (.d (.int .i64 0))], none⟩,
⟨(some 5), .mv (.k (.d (.int .i64 0))), none⟩] (fullB 3) false)
(.seq
(.seq
(.reg [⟨(some 8), .mv (.t 0), none⟩,
⟨(some 9), .call (.k (.fn (.func 78) [] [])) [(.t 8)], none⟩] (fullB 2) false)
(.cond (.t 9)
 (.seq
 (.reg [⟨(some 10), .bld [(.d (.int .u8 0)), (.d (.int .u32 0)), (.d (.int .u8 0)), (.d (.int .u32 0)), (.d (.int .u8 0)), (.d (.int .u32 0)), (.d (.int .u32 0)), (.d (.int .u8 0)), (.d (.int .u8 0)), (.d (.int .u64 0)), (.d (.int .i64 0))] [], none⟩,
⟨none, .store 11 (.t 4) (.t 10), none⟩,
⟨(some 5), .mv (.k (.d (.int .i64 1))), none⟩] (fullB 3) false)
 .ret)
 .skip))
(.seq
(.reg [⟨(some 12), .mv (.t 0), none⟩,
⟨(some 13), .nilc (.t 12), none⟩,
⟨(some 14), .fld 0 (.t 13), none⟩,
⟨(some 15), .load none (.t 14), none⟩,
⟨(some 16), .load (some 2) (.t 3), none⟩,
⟨(some 17), .look [true, true] true (.agg [(.d (.int .u8 0)), (.d (.int .u32 0)), (.d (.int .u8 0)), (.d (.int .u32 0)), (.d (.int .u8 0)), (.d (.int .u32 0)), (.d (.int .u32 0)), (.d (.int .u8 0)), (.d (.int .u8 0)), (.d (.int .u64 0)), (.d (.int .i64 0))]) (.t 15) (.t 16) true, none⟩,
⟨(some 11), .mv (.t 17), none⟩,
⟨(some 18), .ext 0 (.t 11), none⟩,
⟨(some 19), .ext 1 (.t 11), none⟩,
⟨(some 6), .alloc 41 [(.d (.int .u8 0)), (.d (.int .u32 0)), (.d (.int .u8 0)), (.d (.int .u32 0)), (.d (.int .u8 0)), (.d (.int .u32 0)), (.d (.int .u32 0)), (.d (.int .u8 0)), (.d (.int .u8 0)), (.d (.int .u64 0)), (.d (.int .i64 0))], none⟩,
⟨none, .store 11 (.t 6) (.t 18), none⟩,
⟨(some 7), .mv (.t 19), none⟩] [0,
1,
3,
7,
0,
31,
63,
127,
127,
0,
767,
2047] true)
(.seq
 (.seq
 (.reg [⟨(some 20), .mv (.t 7), none⟩,
⟨(some 21), .not (.t 20), none⟩] (fullB 2) false)
 (.cond (.t 21)
 (.seq
 (.reg [⟨(some 22), .bld [(.d (.int .u8 0)), (.d (.int .u32 0)), (.d (.int .u8 0)), (.d (.int .u32 0)), (.d (.int .u8 0)), (.d (.int .u32 0)), (.d (.int .u32 0)), (.d (.int .u8 0)), (.d (.int .u8 0)), (.d (.int .u64 0)), (.d (.int .i64 0))] [], none⟩,
⟨none, .store 11 (.t 4) (.t 22), none⟩,
⟨(some 5), .mv (.k (.d (.int .i64 7))), none⟩] (fullB 3) false)
 .ret)
 .skip))
 (.seq
 (.reg [⟨(some 23), .load (some 11) (.t 6), none⟩,
⟨none, .store 11 (.t 4) (.t 23), none⟩,
⟨(some 5), .mv (.k (.d (.int .i64 0))), none⟩] (fullB 3) false)
 .ret)))))
def rv : List RV := [.cell 4 (some 11), .tmp 5]
/-! live tree_Tree_Get: [0, 1, 3, 4, 5, 6, 7, 9, 21] -/
theorem c : cK Try.prog Try.f24.ntmps (Try.f24.body.getD .ret) = some s := by kernel_rfl
theorem b : Try.f24.body = some (Try.f24.body.getD .ret) := by kernel_rfl
theorem r : cRV Try.prog Try.f24.results.toList = some rv := by kernel_rfl
theorem ca : Callable Try.prog 24 = true := by kernel_rfl
theorem enter {args : List SV} {F : Hp} {k nk : Nat} {Q : SV → Hp → Prop} (hargs : SV.oks (fun n => decide (n < k)) args = true) (hF : F.ok (fun n => decide (n < k)) = true) (hN : args.length ≤ 24)
    (h : SW Try.prog 24 k s ⟨argE 0 args, F, k⟩ fun e st' => match e with | .normal => Fin k nk rv Q st' | .ret => Fin k nk rv Q st' | _ => False) : SB Try.prog 24 args F k nk Q :=
  SB.of_body Try.func24 b c r ca hargs hF hN h
end tree_Tree_Get
/-! ### tranter.tranterref10.Find -/
namespace ref10_Find
abbrev f : Nat := 25
def s : SCo := (.seq
(.reg [⟨(some 3), .box 33 (.t 1), none⟩,
⟨(some 4), .alloc 39 [(.d (.int .u8 0)), (.d (.int .u32 0)), (.d (.int .u32 0)), (.d (.int .u32 0)), (.d (.int .u32 0)), (.d (.int .u32 0)), (.d (.int .u32 0)), (.d (.int .u32 0)), (.d (.int .u32 0)), (.d (.int .u32 0)), (.d (.int .u64 0)), (.d (.int .u32 0)), (.d (.int .u8 0)), (.d (.int .u32 0)), (.d (.int .u8 0)), (.d (.int .u8 0)), (.d (.int .u32 0)), (.d (.int .u32 0)), (.d (.int .u8 0)), (.d (.int .u8 0)), (.d (.int .u64 0)), (.d (.int .u8 0)), (.d (.int .u32 0)), (.d (.int .u8 0)), (.d (.int .u32 0)), (.d (.int .u32 0)), (.d (.int .u32 0)), (.d (.int .u32 0)), (.d .nils)], none⟩,
⟨(some 5), .mv (.k (.d (.bool false))), none⟩] (fullB 3) false)
(.seq
(.seq
(.reg [⟨(some 6), .mv (.k (.d (.int .i64 0))), none⟩] (fullB 1) false)
(.block 0
 (.loop
 (.seq
 (.seq
 (.reg [⟨(some 7), .mv (.t 6), none⟩,
⟨(some 8), .mv (.t 0), none⟩,
⟨(some 9), .len (.t 8), none⟩,
⟨(some 10), .bin .lss (.t 7) (.t 9), none⟩] (fullB 4) false)
 (.cond (.t 10)
  .skip
  (.exit 0)))
 (.seq
 (.block 1
  (.seq
  (.reg [⟨(some 13), .mv (.t 0), none⟩,
⟨(some 14), .mv (.t 6), none⟩,
⟨(some 15), .idxS 29 (.t 13) (.t 14), none⟩,
⟨(some 16), .fld 0 (.t 15), none⟩,
⟨(some 17), .load (some 2) (.t 16), none⟩,
⟨(some 18), .load (some 2) (.t 3), none⟩,
⟨(some 19), .eqv false [true, true] (.t 17) (.t 18), none⟩] [0,
0,
3,
7,
15,
0,
63] true)
  (.cond (.t 19)
  (.seq
  (.reg [⟨(some 20), .mv (.t 0), none⟩,
⟨(some 21), .mv (.t 6), none⟩,
⟨(some 22), .idxS 29 (.t 20) (.t 21), none⟩,
⟨(some 23), .load (some 29) (.t 22), none⟩,
⟨none, .store 29 (.t 4) (.t 23), none⟩,
⟨(some 5), .mv (.k (.d (.bool true))), none⟩] (fullB 6) false)
  .ret)
  .skip)))
 (.reg [⟨(some 11), .mv (.t 6), none⟩,
⟨(some 12), .bin .add (.t 11) (.k (.d (.int .i64 1))), none⟩,
⟨(some 6), .mv (.t 12), none⟩] (fullB 3) false))))))
(.seq
(.reg [⟨(some 24), .bld [(.d (.int .u8 0)), (.d (.int .u32 0)), (.d (.int .u32 0)), (.d (.int .u32 0)), (.d (.int .u32 0)), (.d (.int .u32 0)), (.d (.int .u32 0)), (.d (.int .u32 0)), (.d (.int .u32 0)), (.d (.int .u32 0)), (.d (.int .u64 0)), (.d (.int .u32 0)), (.d (.int .u8 0)), (.d (.int .u32 0)), (.d (.int .u8 0)), (.d (.int .u8 0)), (.d (.int .u32 0)), (.d (.int .u32 0)), (.d (.int .u8 0)), (.d (.int .u8 0)), (.d (.int .u64 0)), (.d (.int .u8 0)), (.d (.int .u32 0)), (.d (.int .u8 0)), (.d (.int .u32 0)), (.d (.int .u32 0)), (.d (.int .u32 0)), (.d (.int .u32 0)), (.d .nils)] [], none⟩,
⟨none, .store 29 (.t 4) (.t 24), none⟩,
⟨(some 5), .mv (.k (.d (.bool false))), none⟩] (fullB 3) false)
.ret)))
def rv : List RV := [.cell 4 (some 29), .tmp 5]
/-! live ref10_Find: [0, 1, 3, 4, 5, 6, 10, 19] -/
theorem c : cK Try.prog Try.f25.ntmps (Try.f25.body.getD .ret) = some s := by kernel_rfl
theorem b : Try.f25.body = some (Try.f25.body.getD .ret) := by kernel_rfl
theorem r : cRV Try.prog Try.f25.results.toList = some rv := by kernel_rfl
theorem ca : Callable Try.prog 25 = true := by kernel_rfl
theorem enter {args : List SV} {F : Hp} {k nk : Nat} {Q : SV → Hp → Prop} (hargs : SV.oks (fun n => decide (n < k)) args = true) (hF : F.ok (fun n => decide (n < k)) = true) (hN : args.length ≤ 25)
    (h : SW Try.prog 25 k s ⟨argE 0 args, F, k⟩ fun e st' => match e with | .normal => Fin k nk rv Q st' | .ret => Fin k nk rv Q st' | _ => False) : SB Try.prog 25 args F k nk Q :=
  SB.of_body Try.func25 b c r ca hargs hF hN h
end ref10_Find
/-! ### tranter.tranterref10.Before -/
namespace ref10_Before
abbrev f : Nat := 26
def s : SCo := (.seq
(.reg [⟨(some 2), .box 39 (.t 0), none⟩,
⟨(some 3), .box 39 (.t 1), none⟩,
⟨(some 4), .mv (.k (.d (.bool false))), none⟩] (fullB 3) false)
(.seq
(.reg [⟨(some 5), .fld 2 (.t 3), none⟩,
⟨(some 6), .load (some 8) (.t 5), none⟩,
⟨(some 7), .fld 0 (.t 2), none⟩,
⟨(some 8), .load (some 2) (.t 7), none⟩,
⟨(some 9), .call (.k (.fn (.func 79) [] [])) [(.t 6), (.t 8)], none⟩,
⟨(some 4), .mv (.t 9), none⟩] (fullB 6) false)
.ret))
def rv : List RV := [.tmp 4]
/-! live ref10_Before: [0, 1, 2, 3, 4] -/
theorem c : cK Try.prog Try.f26.ntmps (Try.f26.body.getD .ret) = some s := by kernel_rfl
theorem b : Try.f26.body = some (Try.f26.body.getD .ret) := by kernel_rfl
theorem r : cRV Try.prog Try.f26.results.toList = some rv := by kernel_rfl
theorem ca : Callable Try.prog 26 = true := by kernel_rfl
theorem enter {args : List SV} {F : Hp} {k nk : Nat} {Q : SV → Hp → Prop} (hargs : SV.oks (fun n => decide (n < k)) args = true) (hF : F.ok (fun n => decide (n < k)) = true) (hN : args.length ≤ 10)
    (h : SW Try.prog 10 k s ⟨argE 0 args, F, k⟩ fun e st' => match e with | .normal => Fin k nk rv Q st' | .ret => Fin k nk rv Q st' | _ => False) : SB Try.prog 26 args F k nk Q :=
  SB.of_body Try.func26 b c r ca hargs hF hN h
end ref10_Before
/-! ### (tranter.tree.Tree).Above -/
namespace tree_Tree_Above
abbrev f : Nat := 27
def s : SCo := (.seq
(.reg [⟨(some 4), .box 33 (.t 1), none⟩,
⟨(some 5), .box 33 (.t 2), none⟩,
⟨(some 6), .alloc 4 [(.d (.bool false))], none⟩] (fullB 3) false)
(.seq
(.seq
(.reg [⟨(some 8), .mv (.t 0), none⟩,
⟨(some 9), .call (.k (.fn (.func 78) [] [])) [(.t 8)], none⟩,
⟨(some 10), .mv (.t 9), none⟩,
⟨(some 11), .load (some 2) (.t 4), some (10, false)⟩,
⟨(some 12), .load (some 2) (.t 5), some (10, false)⟩,
⟨(some 13), .eqv false [true, true] (.t 11) (.t 12), some (10, false)⟩,
⟨(some 14), .pick (.t 10) (.k (.d (.bool true))) (.t 13), none⟩] (fullB 7) false)
(.cond (.t 14)
 (.seq
 (.reg [⟨none, .store 1 (.t 6) (.k (.d (.bool false))), none⟩] (fullB 1) false)
 .ret)
 .skip))
(.seq
(.seq
 (.reg [⟨(some 15), .mv (.t 0), none⟩,
⟨(some 16), .load (some 2) (.t 5), none⟩,
⟨(some 17), .call (.k (.fn (.func 77) [] [])) [(.t 15), (.t 16)], none⟩] (fullB 3) false)
 (.block 0
 (.rfun (.t 17) [18]
 (.reg [⟨(some 7), .alloc 41 [(.d (.int .u8 0)), (.d (.int .u32 0)), (.d (.int .u8 0)), (.d (.int .u32 0)), (.d (.int .u8 0)), (.d (.int .u32 0)), (.d (.int .u32 0)), (.d (.int .u8 0)), (.d (.int .u8 0)), (.d (.int .u64 0)), (.d (.int .i64 0))], none⟩,
⟨none, .store 11 (.t 7) (.t 18), none⟩] (fullB 2) false)
 (.block 1
 (.seq
  (.reg [⟨(some 19), .fld 0 (.t 7), none⟩,
⟨(some 20), .load (some 2) (.t 19), none⟩,
⟨(some 21), .load (some 2) (.t 4), none⟩,
⟨(some 22), .eqv false [true, true] (.t 20) (.t 21), none⟩] (fullB 4) false)
  (.cond (.t 22)
  (.seq
  (.reg [⟨none, .store 1 (.t 6) (.k (.d (.bool true))), none⟩] (fullB 1) false)
  .ret)
  .skip))))))
(.seq
 (.reg [⟨none, .store 1 (.t 6) (.k (.d (.bool false))), none⟩] (fullB 1) false)
 .ret))))
def rv : List RV := [.cell 6 none]
/-! live tree_Tree_Above: [0, 1, 2, 4, 5, 6, 7, 14, 17, 18, 22] -/
theorem c : cK Try.prog Try.f27.ntmps (Try.f27.body.getD .ret) = some s := by kernel_rfl
theorem b : Try.f27.body = some (Try.f27.body.getD .ret) := by kernel_rfl
theorem r : cRV Try.prog Try.f27.results.toList = some rv := by kernel_rfl
theorem ca : Callable Try.prog 27 = true := by kernel_rfl
theorem enter {args : List SV} {F : Hp} {k nk : Nat} {Q : SV → Hp → Prop} (hargs : SV.oks (fun n => decide (n < k)) args = true) (hF : F.ok (fun n => decide (n < k)) = true) (hN : args.length ≤ 23)
    (h : SW Try.prog 23 k s ⟨argE 0 args, F, k⟩ fun e st' => match e with | .normal => Fin k nk rv Q st' | .ret => Fin k nk rv Q st' | _ => False) : SB Try.prog 27 args F k nk Q :=
  SB.of_body Try.func27 b c r ca hargs hF hN h
end tree_Tree_Above
/-! ### tranter.tranterref03.Same -/
namespace ref03_Same
abbrev f : Nat := 30
def s : SCo := (.seq
(.reg [⟨(some 4), .mv (.k (.d (.bool false))), none⟩] (fullB 1) false)
(.seq
(.seq
(.reg [⟨(some 6), .mv (.t 0), none⟩,
⟨(some 7), .len (.t 6), none⟩,
⟨(some 8), .mv (.t 1), none⟩,
⟨(some 9), .len (.t 8), none⟩,
⟨(some 10), .bin .neq (.t 7) (.t 9), none⟩] (fullB 5) false)
(.cond (.t 10)
 (.seq
 (.reg [⟨(some 4), .mv (.k (.d (.bool false))), none⟩] (fullB 1) false)
 .ret)
 .skip))
(.seq
(.seq
 (.reg [⟨(some 5), .mv (.k (.d (.int .i64 0))), none⟩] (fullB 1) false)
 (.block 0
 (.loop
 (.seq
 (.seq
  (.reg [⟨(some 11), .mv (.t 5), none⟩,
⟨(some 12), .mv (.t 0), none⟩,
⟨(some 13), .len (.t 12), none⟩,
⟨(some 14), .bin .lss (.t 11) (.t 13), none⟩] (fullB 4) false)
  (.cond (.t 14)
  .skip
  (.exit 0)))
 (.seq
  (.block 1
  (.seq
  (.reg [⟨(some 17), .mv (.t 0), none⟩,
⟨(some 18), .mv (.t 5), none⟩,
⟨(some 19), .idxS 2 (.t 17) (.t 18), none⟩,
⟨(some 20), .load (some 2) (.t 19), none⟩,
⟨(some 21), .mv (.t 1), none⟩,
⟨(some 22), .mv (.t 5), none⟩,
⟨(some 23), .idxS 2 (.t 21) (.t 22), none⟩,
⟨(some 24), .load (some 2) (.t 23), none⟩,
⟨(some 25), .eqv true [true, true] (.t 20) (.t 24), none⟩] [0,
0,
3,
7,
0,
0,
48,
112,
255] true)
  (.cond (.t 25)
  (.seq
   (.reg [⟨(some 4), .mv (.k (.d (.bool false))), none⟩] (fullB 1) false)
   .ret)
  .skip)))
  (.reg [⟨(some 15), .mv (.t 5), none⟩,
⟨(some 16), .bin .add (.t 15) (.k (.d (.int .i64 1))), none⟩,
⟨(some 5), .mv (.t 16), none⟩] (fullB 3) false))))))
(.seq
 (.reg [⟨(some 4), .mv (.k (.d (.bool true))), none⟩] (fullB 1) false)
 .ret))))
def rv : List RV := [.tmp 4]
/-! live ref03_Same: [0, 1, 4, 5, 10, 14, 25] -/
theorem c : cK Try.prog Try.f30.ntmps (Try.f30.body.getD .ret) = some s := by kernel_rfl
theorem b : Try.f30.body = some (Try.f30.body.getD .ret) := by kernel_rfl
theorem r : cRV Try.prog Try.f30.results.toList = some rv := by kernel_rfl
theorem ca : Callable Try.prog 30 = true := by kernel_rfl
theorem enter {args : List SV} {F : Hp} {k nk : Nat} {Q : SV → Hp → Prop} (hargs : SV.oks (fun n => decide (n < k)) args = true) (hF : F.ok (fun n => decide (n < k)) = true) (hN : args.length ≤ 26)
    (h : SW Try.prog 26 k s ⟨argE 0 args, F, k⟩ fun e st' => match e with | .normal => Fin k nk rv Q st' | .ret => Fin k nk rv Q st' | _ => False) : SB Try.prog 30 args F k nk Q :=
  SB.of_body Try.func30 b c r ca hargs hF hN h
end ref03_Same
/-! ### tranter.tranterref16.Get -/
namespace ref16_Get
abbrev f : Nat := 35
def s : SCo := (.seq
(.reg [⟨(some 3), .box 33 (.t 1), none⟩,
⟨(some 4), .alloc 41 [(.d (.int .u8 0)), (.d (.int .u32 0)), (.d (.int .u8 0)), (.d (.int .u32 0)), (.d (.int .u8 0)), (.d (.int .u32 0)), (.d (.int .u32 0)), (.d (.int .u8 0)), (.d (.int .u8 0)), (.d (.int .u64 0)), (.d (.int .i64 0))], none⟩,
⟨(some 5), .mv (.k (.d (.bool false))), none⟩] (fullB 3) false)
(.seq
(.reg [⟨(some 6), .mv (.t 0), none⟩,
⟨(some 7), .load (some 2) (.t 3), none⟩,
⟨(some 8), .call (.k (.fn (.func 98) [] [])) [(.t 6), (.t 7), (.k (.d (.int .i64 10)))], none⟩,
⟨(some 9), .ext 0 (.t 8), none⟩,
⟨(some 10), .ext 1 (.t 8), none⟩,
⟨none, .store 11 (.t 4) (.t 9), none⟩,
⟨(some 5), .mv (.t 10), none⟩] (fullB 7) false)
.ret))
def rv : List RV := [.cell 4 (some 11), .tmp 5]
/-! live ref16_Get: [0, 1, 3, 4, 5] -/
theorem c : cK Try.prog Try.f35.ntmps (Try.f35.body.getD .ret) = some s := by kernel_rfl
theorem b : Try.f35.body = some (Try.f35.body.getD .ret) := by kernel_rfl
theorem r : cRV Try.prog Try.f35.results.toList = some rv := by kernel_rfl
theorem ca : Callable Try.prog 35 = true := by kernel_rfl
theorem enter {args : List SV} {F : Hp} {k nk : Nat} {Q : SV → Hp → Prop} (hargs : SV.oks (fun n => decide (n < k)) args = true) (hF : F.ok (fun n => decide (n < k)) = true) (hN : args.length ≤ 11)
    (h : SW Try.prog 11 k s ⟨argE 0 args, F, k⟩ fun e st' => match e with | .normal => Fin k nk rv Q st' | .ret => Fin k nk rv Q st' | _ => False) : SB Try.prog 35 args F k nk Q :=
  SB.of_body Try.func35 b c r ca hargs hF hN h
end ref16_Get
/-! ### tranter.tranterref16.Chain -/
namespace ref16_Chain
abbrev f : Nat := 36
def s : SCo := (.seq
(.reg [⟨(some 3), .box 33 (.t 1), none⟩,
⟨(some 4), .mv (.k (.d .nils)), none⟩,
⟨(some 5), .mv (.k (.d (.int .i64 0))), none⟩] (fullB 3) false)
(.seq
(.reg [⟨(some 10), .mv (.t 0), none⟩,
⟨(some 11), .load (some 2) (.t 3), none⟩,
⟨(some 12), .call (.k (.fn (.func 35) [] [])) [(.t 10), (.t 11)], none⟩,
⟨(some 9), .mv (.t 12), none⟩,
⟨(some 13), .ext 0 (.t 9), none⟩,
⟨(some 14), .ext 1 (.t 9), none⟩,
⟨(some 6), .alloc 41 [(.d (.int .u8 0)), (.d (.int .u32 0)), (.d (.int .u8 0)), (.d (.int .u32 0)), (.d (.int .u8 0)), (.d (.int .u32 0)), (.d (.int .u32 0)), (.d (.int .u8 0)), (.d (.int .u8 0)), (.d (.int .u64 0)), (.d (.int .i64 0))], none⟩,
⟨none, .store 11 (.t 6) (.t 13), none⟩,
⟨(some 7), .mv (.t 14), none⟩] (fullB 9) false)
(.seq
(.seq
 (.reg [⟨(some 15), .mv (.t 7), none⟩,
⟨(some 16), .not (.t 15), none⟩] (fullB 2) false)
 (.cond (.t 16)
 (.seq
 (.reg [⟨(some 4), .mv (.k (.d .nils)), none⟩,
⟨(some 5), .mv (.k (.d (.int .i64 7))), none⟩] (fullB 2) false)
 .ret)
 .skip))
(.seq
 (.reg [⟨(some 17), .load (some 2) (.t 3), none⟩,
⟨(some 18), .bsl 33 2 1 [(.d (.int .u8 0)), (.d (.int .u32 0))] [(0, 2, (.t 17))], none⟩,
⟨(some 8), .mv (.t 18), none⟩] (fullB 3) false)
 (.seq
 (.block 0
 (.loop
 (.seq
  (.seq
  (.reg [⟨(some 19), .fld 10 (.t 6), none⟩,
⟨(some 20), .load none (.t 19), none⟩,
⟨(some 21), .bin .gtr (.t 20) (.k (.d (.int .i64 0))), none⟩] (fullB 3) false)
  (.cond (.t 21)
  .skip
  (.exit 0)))
  (.block 1
  (.seq
  (.reg [⟨(some 22), .mv (.t 8), none⟩,
⟨(some 23), .fld 4 (.t 6), none⟩,
⟨(some 24), .load (some 2) (.t 23), none⟩,
⟨(some 25), .bsl 33 2 1 [(.d (.int .u8 0)), (.d (.int .u32 0))] [(0, 2, (.t 24))], none⟩,
⟨(some 26), .app 33 2 8 (.t 22) (.t 25), none⟩,
⟨(some 8), .mv (.t 26), none⟩] (fullB 6) false)
  (.reg [⟨(some 28), .mv (.t 0), none⟩,
⟨(some 29), .fld 4 (.t 6), none⟩,
⟨(some 30), .load (some 2) (.t 29), none⟩,
⟨(some 31), .call (.k (.fn (.func 35) [] [])) [(.t 28), (.t 30)], none⟩,
⟨(some 27), .mv (.t 31), none⟩,
⟨(some 32), .ext 0 (.t 27), none⟩,
⟨(some 33), .ext 1 (.t 27), none⟩,
⟨none, .store 11 (.t 6) (.t 32), none⟩] (fullB 8) false))))))
 (.seq
 (.reg [⟨(some 34), .mv (.t 8), none⟩,
⟨(some 4), .mv (.t 34), none⟩,
⟨(some 5), .mv (.k (.d (.int .i64 0))), none⟩] (fullB 3) false)
 .ret))))))
def rv : List RV := [.tmp 4, .tmp 5]
/-! live ref16_Chain: [0, 1, 3, 4, 5, 6, 7, 8, 16, 21] -/
theorem c : cK Try.prog Try.f36.ntmps (Try.f36.body.getD .ret) = some s := by kernel_rfl
theorem b : Try.f36.body = some (Try.f36.body.getD .ret) := by kernel_rfl
theorem r : cRV Try.prog Try.f36.results.toList = some rv := by kernel_rfl
theorem ca : Callable Try.prog 36 = true := by kernel_rfl
theorem enter {args : List SV} {F : Hp} {k nk : Nat} {Q : SV → Hp → Prop} (hargs : SV.oks (fun n => decide (n < k)) args = true) (hF : F.ok (fun n => decide (n < k)) = true) (hN : args.length ≤ 35)
    (h : SW Try.prog 35 k s ⟨argE 0 args, F, k⟩ fun e st' => match e with | .normal => Fin k nk rv Q st' | .ret => Fin k nk rv Q st' | _ => False) : SB Try.prog 36 args F k nk Q :=
  SB.of_body Try.func36 b c r ca hargs hF hN h
end ref16_Chain
/-! ### tranter.tranterref16.Above -/
namespace ref16_Above
abbrev f : Nat := 37
def s : SCo := (.seq
(.reg [⟨(some 4), .box 33 (.t 1), none⟩,
⟨(some 5), .box 33 (.t 2), none⟩,
⟨(some 6), .mv (.k (.d (.bool false))), none⟩] (fullB 3) false)
(.seq
(.reg [⟨(some 10), .mv (.t 0), none⟩,
⟨(some 11), .load (some 2) (.t 5), none⟩,
⟨(some 12), .call (.k (.fn (.func 36) [] [])) [(.t 10), (.t 11)], none⟩,
⟨(some 9), .mv (.t 12), none⟩,
⟨(some 13), .ext 0 (.t 9), none⟩,
⟨(some 14), .ext 1 (.t 9), none⟩,
⟨(some 7), .mv (.t 13), none⟩,
⟨(some 8), .mv (.t 14), none⟩] (fullB 8) false)
(.seq
(.seq
 (.reg [⟨(some 15), .mv (.t 8), none⟩,
⟨(some 16), .bin .neq (.t 15) (.k (.d (.int .i64 0))), none⟩] (fullB 2) false)
 (.cond (.t 16)
 (.seq
 (.reg [⟨(some 6), .mv (.k (.d (.bool false))), none⟩] (fullB 1) false)
 .ret)
 .skip))
(.seq
 (.reg [⟨(some 17), .load (some 2) (.t 4), none⟩,
⟨(some 18), .load (some 2) (.t 5), none⟩,
⟨(some 19), .eqv true [true, true] (.t 17) (.t 18), none⟩,
⟨(some 20), .mv (.t 19), none⟩,
⟨(some 21), .mv (.t 7), some (20, true)⟩,
⟨(some 22), .load (some 2) (.t 4), some (20, true)⟩,
⟨(some 23), .call (.k (.fn (.func 44) [] [])) [(.t 21), (.t 22)], some (20, true)⟩,
⟨(some 24), .pick (.t 20) (.t 23) (.k (.d (.bool false))), none⟩,
⟨(some 6), .mv (.t 24), none⟩] (fullB 9) false)
 .ret))))
def rv : List RV := [.tmp 6]
/-! live ref16_Above: [0, 1, 2, 4, 5, 6, 7, 8, 16] -/
theorem c : cK Try.prog Try.f37.ntmps (Try.f37.body.getD .ret) = some s := by kernel_rfl
theorem b : Try.f37.body = some (Try.f37.body.getD .ret) := by kernel_rfl
theorem r : cRV Try.prog Try.f37.results.toList = some rv := by kernel_rfl
theorem ca : Callable Try.prog 37 = true := by kernel_rfl
theorem enter {args : List SV} {F : Hp} {k nk : Nat} {Q : SV → Hp → Prop} (hargs : SV.oks (fun n => decide (n < k)) args = true) (hF : F.ok (fun n => decide (n < k)) = true) (hN : args.length ≤ 25)
    (h : SW Try.prog 25 k s ⟨argE 0 args, F, k⟩ fun e st' => match e with | .normal => Fin k nk rv Q st' | .ret => Fin k nk rv Q st' | _ => False) : SB Try.prog 37 args F k nk Q :=
  SB.of_body Try.func37 b c r ca hargs hF hN h
end ref16_Above
/-! ### tranter.tranterref16.All -/
namespace ref16_All
abbrev f : Nat := 38
def s : SCo := (.seq
(.reg [⟨(some 3), .box 33 (.t 1), none⟩,
⟨(some 4), .mv (.k (.d .nils)), none⟩] (fullB 2) false)
(.seq
(.reg [⟨(some 5), .mv (.k (.d .nils)), none⟩] (fullB 1) false)
(.seq
(.reg [⟨(some 6), .mv (.k (.d .nils)), none⟩] (fullB 1) false)
(.seq
 (.seq
 (.reg [⟨(some 7), .mv (.k (.d (.int .i64 0))), none⟩] (fullB 1) false)
 (.block 0
 (.loop
 (.seq
  (.seq
  (.reg [⟨(some 12), .mv (.t 7), none⟩,
⟨(some 13), .mv (.t 0), none⟩,
⟨(some 14), .len (.t 13), none⟩,
⟨(some 15), .bin .lss (.t 12) (.t 14), none⟩] (fullB 4) false)
  (.cond (.t 15)
  .skip
  (.exit 0)))
  (.seq
  (.block 1
  (.reg [⟨(some 18), .mv (.t 6), none⟩,
⟨(some 19), .mv (.t 0), none⟩,
⟨(some 20), .mv (.t 7), none⟩,
⟨(some 21), .idxS 29 (.t 19) (.t 20), none⟩,
⟨(some 22), .fld 0 (.t 21), none⟩,
⟨(some 23), .load (some 2) (.t 22), none⟩,
⟨(some 24), .bsl 33 2 1 [(.d (.int .u8 0)), (.d (.int .u32 0))] [(0, 2, (.t 23))], none⟩,
⟨(some 25), .app 33 2 8 (.t 18) (.t 24), none⟩,
⟨(some 6), .mv (.t 25), none⟩] (fullB 9) false))
  (.reg [⟨(some 16), .mv (.t 7), none⟩,
⟨(some 17), .bin .add (.t 16) (.k (.d (.int .i64 1))), none⟩,
⟨(some 7), .mv (.t 17), none⟩] (fullB 3) false))))))
 (.seq
 (.reg [⟨(some 26), .mv (.t 6), none⟩,
⟨(some 27), .call (.k (.fn (.func 99) [] [])) [(.t 26)], none⟩,
⟨(some 6), .mv (.t 27), none⟩] (fullB 3) false)
 (.seq
 (.seq
 (.reg [⟨(some 8), .mv (.k (.d (.int .i64 0))), none⟩] (fullB 1) false)
 (.block 2
  (.loop
  (.seq
  (.seq
  (.reg [⟨(some 28), .mv (.t 8), none⟩,
⟨(some 29), .bin .leq (.t 28) (.k (.d (.int .i64 8))), none⟩] (fullB 2) false)
  (.cond (.t 29)
   .skip
   (.exit 2)))
  (.seq
  (.block 3
   (.seq
   (.reg [⟨(some 9), .mv (.k (.d (.int .i64 0))), none⟩] (fullB 1) false)
   (.block 4
   (.loop
   (.seq
    (.seq
    (.reg [⟨(some 32), .mv (.t 9), none⟩,
⟨(some 33), .mv (.t 6), none⟩,
⟨(some 34), .len (.t 33), none⟩,
⟨(some 35), .bin .lss (.t 32) (.t 34), none⟩] (fullB 4) false)
    (.cond (.t 35)
    .skip
    (.exit 4)))
    (.seq
    (.block 5
    (.seq
    (.reg [⟨(some 39), .mv (.t 0), none⟩,
⟨(some 40), .mv (.t 6), none⟩,
⟨(some 41), .mv (.t 9), none⟩,
⟨(some 42), .idxS 2 (.t 40) (.t 41), none⟩,
⟨(some 43), .load (some 2) (.t 42), none⟩,
⟨(some 44), .call (.k (.fn (.func 35) [] [])) [(.t 39), (.t 43)], none⟩,
⟨(some 38), .mv (.t 44), none⟩,
⟨(some 45), .ext 0 (.t 38), none⟩,
⟨(some 46), .ext 1 (.t 38), none⟩,
⟨(some 10), .alloc 41 [(.d (.int .u8 0)), (.d (.int .u32 0)), (.d (.int .u8 0)), (.d (.int .u32 0)), (.d (.int .u8 0)), (.d (.int .u32 0)), (.d (.int .u32 0)), (.d (.int .u8 0)), (.d (.int .u8 0)), (.d (.int .u64 0)), (.d (.int .i64 0))], none⟩,
⟨none, .store 11 (.t 10) (.t 45), none⟩,
⟨(some 11), .mv (.t 46), none⟩] (fullB 12) false)
    (.seq
     (.reg [⟨(some 47), .mv (.t 11), none⟩,
⟨(some 48), .mv (.t 47), none⟩,
⟨(some 49), .fld 10 (.t 10), some (48, true)⟩,
⟨(some 50), .load none (.t 49), some (48, true)⟩,
⟨(some 51), .mv (.t 8), some (48, true)⟩,
⟨(some 52), .bin .eql (.t 50) (.t 51), some (48, true)⟩,
⟨(some 53), .pick (.t 48) (.t 52) (.k (.d (.bool false))), none⟩,
⟨(some 54), .mv (.t 53), none⟩,
⟨(some 55), .fld 2 (.t 10), some (54, true)⟩,
⟨(some 56), .load (some 2) (.t 55), some (54, true)⟩,
⟨(some 57), .load (some 2) (.t 3), some (54, true)⟩,
⟨(some 58), .eqv false [true, true] (.t 56) (.t 57), some (54, true)⟩,
⟨(some 59), .pick (.t 54) (.t 58) (.k (.d (.bool false))), none⟩] (fullB 13) false)
     (.cond (.t 59)
     (.reg [⟨(some 60), .mv (.t 5), none⟩,
⟨(some 61), .load (some 11) (.t 10), none⟩,
⟨(some 62), .bsl 41 11 1 [(.d (.int .u8 0)), (.d (.int .u32 0)), (.d (.int .u8 0)), (.d (.int .u32 0)), (.d (.int .u8 0)), (.d (.int .u32 0)), (.d (.int .u32 0)), (.d (.int .u8 0)), (.d (.int .u8 0)), (.d (.int .u64 0)), (.d (.int .i64 0))] [(0, 11, (.t 61))], none⟩,
⟨(some 63), .app 41 11 48 (.t 60) (.t 62), none⟩,
⟨(some 5), .mv (.t 63), none⟩] (fullB 5) false)
     .skip))))
    (.reg [⟨(some 36), .mv (.t 9), none⟩,
⟨(some 37), .bin .add (.t 36) (.k (.d (.int .i64 1))), none⟩,
⟨(some 9), .mv (.t 37), none⟩] (fullB 3) false)))))))
  (.reg [⟨(some 30), .mv (.t 8), none⟩,
⟨(some 31), .bin .add (.t 30) (.k (.d (.int .i64 1))), none⟩,
⟨(some 8), .mv (.t 31), none⟩] (fullB 3) false))))))
 (.seq
 (.reg [⟨(some 64), .mv (.t 5), none⟩,
⟨(some 4), .mv (.t 64), none⟩] (fullB 2) false)
 .ret)))))))
def rv : List RV := [.tmp 4]
/-! live ref16_All: [0, 1, 3, 4, 5, 6, 7, 8, 9, 10, 11, 15, 29, 35, 59] -/
theorem c : cK Try.prog Try.f38.ntmps (Try.f38.body.getD .ret) = some s := by kernel_rfl
theorem b : Try.f38.body = some (Try.f38.body.getD .ret) := by kernel_rfl
theorem r : cRV Try.prog Try.f38.results.toList = some rv := by kernel_rfl
theorem ca : Callable Try.prog 38 = true := by kernel_rfl
theorem enter {args : List SV} {F : Hp} {k nk : Nat} {Q : SV → Hp → Prop} (hargs : SV.oks (fun n => decide (n < k)) args = true) (hF : F.ok (fun n => decide (n < k)) = true) (hN : args.length ≤ 65)
    (h : SW Try.prog 65 k s ⟨argE 0 args, F, k⟩ fun e st' => match e with | .normal => Fin k nk rv Q st' | .ret => Fin k nk rv Q st' | _ => False) : SB Try.prog 38 args F k nk Q :=
  SB.of_body Try.func38 b c r ca hargs hF hN h
end ref16_All
/-! ### tranter.tranterref16.Same -/
namespace ref16_Same
abbrev f : Nat := 39
def s : SCo := (.seq
(.reg [⟨(some 4), .mv (.k (.d (.bool false))), none⟩] (fullB 1) false)
(.seq
(.seq
(.reg [⟨(some 6), .mv (.t 0), none⟩,
⟨(some 7), .len (.t 6), none⟩,
⟨(some 8), .mv (.t 1), none⟩,
⟨(some 9), .len (.t 8), none⟩,
⟨(some 10), .bin .neq (.t 7) (.t 9), none⟩] (fullB 5) false)
(.cond (.t 10)
 (.seq
 (.reg [⟨(some 4), .mv (.k (.d (.bool false))), none⟩] (fullB 1) false)
 .ret)
 .skip))
(.seq
(.seq
 (.reg [⟨(some 5), .mv (.k (.d (.int .i64 0))), none⟩] (fullB 1) false)
 (.block 0
 (.loop
 (.seq
 (.seq
  (.reg [⟨(some 11), .mv (.t 5), none⟩,
⟨(some 12), .mv (.t 0), none⟩,
⟨(some 13), .len (.t 12), none⟩,
⟨(some 14), .bin .lss (.t 11) (.t 13), none⟩] (fullB 4) false)
  (.cond (.t 14)
  .skip
  (.exit 0)))
 (.seq
  (.block 1
  (.seq
  (.reg [⟨(some 17), .mv (.t 0), none⟩,
⟨(some 18), .mv (.t 5), none⟩,
⟨(some 19), .idxS 11 (.t 17) (.t 18), none⟩,
⟨(some 20), .load (some 11) (.t 19), none⟩,
⟨(some 21), .mv (.t 1), none⟩,
⟨(some 22), .mv (.t 5), none⟩,
⟨(some 23), .idxS 11 (.t 21) (.t 22), none⟩,
⟨(some 24), .load (some 11) (.t 23), none⟩,
⟨(some 25), .eqv true [true, true, true, true, true, true, true, true, true, true, true] (.t 20) (.t 24), none⟩] [0,
0,
3,
7,
0,
0,
48,
112,
255] true)
  (.cond (.t 25)
  (.seq
   (.reg [⟨(some 4), .mv (.k (.d (.bool false))), none⟩] (fullB 1) false)
   .ret)
  .skip)))
  (.reg [⟨(some 15), .mv (.t 5), none⟩,
⟨(some 16), .bin .add (.t 15) (.k (.d (.int .i64 1))), none⟩,
⟨(some 5), .mv (.t 16), none⟩] (fullB 3) false))))))
(.seq
 (.reg [⟨(some 4), .mv (.k (.d (.bool true))), none⟩] (fullB 1) false)
 .ret))))
def rv : List RV := [.tmp 4]
/-! live ref16_Same: [0, 1, 4, 5, 10, 14, 25] -/
theorem c : cK Try.prog Try.f39.ntmps (Try.f39.body.getD .ret) = some s := by kernel_rfl
theorem b : Try.f39.body = some (Try.f39.body.getD .ret) := by kernel_rfl
theorem r : cRV Try.prog Try.f39.results.toList = some rv := by kernel_rfl
theorem ca : Callable Try.prog 39 = true := by kernel_rfl
theorem enter {args : List SV} {F : Hp} {k nk : Nat} {Q : SV → Hp → Prop} (hargs : SV.oks (fun n => decide (n < k)) args = true) (hF : F.ok (fun n => decide (n < k)) = true) (hN : args.length ≤ 26)
    (h : SW Try.prog 26 k s ⟨argE 0 args, F, k⟩ fun e st' => match e with | .normal => Fin k nk rv Q st' | .ret => Fin k nk rv Q st' | _ => False) : SB Try.prog 39 args F k nk Q :=
  SB.of_body Try.func39 b c r ca hargs hF hN h
end ref16_Same
/-! ### (tranter.tree.Tree).All -/
namespace tree_Tree_All
abbrev f : Nat := 40
def s : SCo := (.seq
(.reg [⟨(some 3), .box 33 (.t 1), none⟩,
⟨(some 4), .mv (.k (.d .nils)), none⟩] (fullB 2) false)
(.seq
(.seq
(.reg [⟨(some 8), .mv (.t 0), none⟩,
⟨(some 9), .call (.k (.fn (.func 78) [] [])) [(.t 8)], none⟩] (fullB 2) false)
(.cond (.t 9)
 (.seq
 (.reg [⟨(some 4), .mv (.k (.d .nils)), none⟩] (fullB 1) false)
 .ret)
 .skip))
(.seq
(.reg [⟨(some 5), .mv (.k (.d .nils)), none⟩] (fullB 1) false)
(.seq
 (.seq
 (.reg [⟨(some 10), .mv (.t 0), none⟩,
⟨(some 11), .nilc (.t 10), none⟩,
⟨(some 12), .fld 0 (.t 11), none⟩,
⟨(some 13), .load none (.t 12), none⟩,
⟨(some 14), .mrange (.t 13), none⟩] (fullB 5) false)
 (.block 0
 (.loop
 (.seq
  (.reg [⟨(some 15), .mnext (.t 14), none⟩,
⟨(some 16), .ext 0 (.t 15), none⟩] (fullB 2) false)
  (.seq
  (.cond (.t 16)
  .skip
  (.exit 0))
  (.block 1
  (.seq
  (.reg [⟨(some 17), .mentry (.t 14), none⟩,
⟨(some 18), .ext 1 (.t 17), none⟩,
⟨(some 7), .alloc 41 [(.d (.int .u8 0)), (.d (.int .u32 0)), (.d (.int .u8 0)), (.d (.int .u32 0)), (.d (.int .u8 0)), (.d (.int .u32 0)), (.d (.int .u32 0)), (.d (.int .u8 0)), (.d (.int .u8 0)), (.d (.int .u64 0)), (.d (.int .i64 0))], none⟩,
⟨none, .store 11 (.t 7) (.t 18), none⟩] (fullB 4) false)
  (.seq
   (.reg [⟨(some 19), .fld 2 (.t 7), none⟩,
⟨(some 20), .load (some 2) (.t 19), none⟩,
⟨(some 21), .load (some 2) (.t 3), none⟩,
⟨(some 22), .eqv false [true, true] (.t 20) (.t 21), none⟩] (fullB 4) false)
   (.cond (.t 22)
   (.reg [⟨(some 23), .mv (.t 5), none⟩,
⟨(some 24), .load (some 11) (.t 7), none⟩,
⟨(some 25), .bsl 41 11 1 [(.d (.int .u8 0)), (.d (.int .u32 0)), (.d (.int .u8 0)), (.d (.int .u32 0)), (.d (.int .u8 0)), (.d (.int .u32 0)), (.d (.int .u32 0)), (.d (.int .u8 0)), (.d (.int .u8 0)), (.d (.int .u64 0)), (.d (.int .i64 0))] [(0, 11, (.t 24))], none⟩,
⟨(some 26), .app 41 11 48 (.t 23) (.t 25), none⟩,
⟨(some 5), .mv (.t 26), none⟩] (fullB 5) false)
   .skip)))))))))
 (.seq
 (.reg [⟨(some 27), .mv (.t 5), none⟩,
⟨(some 28), .call (.k (.fn (.func 100) [] [])) [(.t 27), (.k (.fn (.func 101) [] []))], none⟩] (fullB 2) false)
 (.seq
 (.reg [⟨(some 29), .mv (.t 5), none⟩,
⟨(some 4), .mv (.t 29), none⟩] (fullB 2) false)
 .ret))))))
def rv : List RV := [.tmp 4]
/-! live tree_Tree_All: [0, 1, 3, 4, 5, 7, 9, 14, 16, 22] -/
theorem c : cK Try.prog Try.f40.ntmps (Try.f40.body.getD .ret) = some s := by kernel_rfl
theorem b : Try.f40.body = some (Try.f40.body.getD .ret) := by kernel_rfl
theorem r : cRV Try.prog Try.f40.results.toList = some rv := by kernel_rfl
theorem ca : Callable Try.prog 40 = true := by kernel_rfl
theorem enter {args : List SV} {F : Hp} {k nk : Nat} {Q : SV → Hp → Prop} (hargs : SV.oks (fun n => decide (n < k)) args = true) (hF : F.ok (fun n => decide (n < k)) = true) (hN : args.length ≤ 30)
    (h : SW Try.prog 30 k s ⟨argE 0 args, F, k⟩ fun e st' => match e with | .normal => Fin k nk rv Q st' | .ret => Fin k nk rv Q st' | _ => False) : SB Try.prog 40 args F k nk Q :=
  SB.of_body Try.func40 b c r ca hargs hF hN h
end tree_Tree_All
/-! ### (tranter.tree.Tree).Held -/
namespace tree_Tree_Held
abbrev f : Nat := 41
def s : SCo := (.seq
(.reg [⟨(some 4), .box 33 (.t 1), none⟩,
⟨(some 6), .mv (.k (.d .nils)), none⟩] (fullB 2) false)
(.seq
(.reg [⟨(some 7), .mv (.k (.d .nils)), none⟩] (fullB 1) false)
(.seq
(.seq
 (.reg [⟨(some 10), .mv (.t 0), none⟩,
⟨(some 11), .load (some 2) (.t 4), none⟩,
⟨(some 12), .call (.k (.fn (.func 40) [] [])) [(.t 10), (.t 11)], none⟩,
⟨(some 13), .len (.t 12), none⟩,
⟨(some 14), .mv (.k (.d (.int .i64 0))), none⟩] (fullB 5) false)
 (.block 0
 (.loop
 (.seq
 (.reg [⟨(some 15), .bin .lss (.t 14) (.t 13), none⟩] (fullB 1) false)
 (.seq
  (.cond (.t 15)
  .skip
  (.exit 0))
  (.seq
  (.block 1
  (.seq
  (.reg [⟨(some 16), .idxS 11 (.t 12) (.t 14), none⟩,
⟨(some 17), .load (some 11) (.t 16), none⟩,
⟨(some 9), .alloc 41 [(.d (.int .u8 0)), (.d (.int .u32 0)), (.d (.int .u8 0)), (.d (.int .u32 0)), (.d (.int .u8 0)), (.d (.int .u32 0)), (.d (.int .u32 0)), (.d (.int .u8 0)), (.d (.int .u8 0)), (.d (.int .u64 0)), (.d (.int .i64 0))], none⟩,
⟨none, .store 11 (.t 9) (.t 17), none⟩] (fullB 4) false)
  (.seq
   (.reg [⟨(some 18), .fld 6 (.t 9), none⟩,
⟨(some 19), .load none (.t 18), none⟩,
⟨(some 20), .mv (.t 2), none⟩,
⟨(some 21), .bin .eql (.t 19) (.t 20), none⟩] (fullB 4) false)
   (.cond (.t 21)
   (.reg [⟨(some 22), .mv (.t 7), none⟩,
⟨(some 23), .fld 0 (.t 9), none⟩,
⟨(some 24), .load (some 2) (.t 23), none⟩,
⟨(some 25), .bsl 33 2 1 [(.d (.int .u8 0)), (.d (.int .u32 0))] [(0, 2, (.t 24))], none⟩,
⟨(some 26), .app 33 2 8 (.t 22) (.t 25), none⟩,
⟨(some 7), .mv (.t 26), none⟩] (fullB 6) false)
   .skip))))
  (.reg [⟨(some 27), .bin .add (.t 14) (.k (.d (.int .i64 1))), none⟩,
⟨(some 14), .mv (.t 27), none⟩] (fullB 2) false)))))))
(.seq
 (.reg [⟨(some 28), .mv (.t 7), none⟩,
⟨(some 6), .mv (.t 28), none⟩] (fullB 2) false)
 .ret))))
def rv : List RV := [.tmp 6]
/-! live tree_Tree_Held: [0, 1, 2, 4, 6, 7, 9, 12, 13, 14, 15, 21] -/
theorem c : cK Try.prog Try.f41.ntmps (Try.f41.body.getD .ret) = some s := by kernel_rfl
theorem b : Try.f41.body = some (Try.f41.body.getD .ret) := by kernel_rfl
theorem r : cRV Try.prog Try.f41.results.toList = some rv := by kernel_rfl
theorem ca : Callable Try.prog 41 = true := by kernel_rfl
theorem enter {args : List SV} {F : Hp} {k nk : Nat} {Q : SV → Hp → Prop} (hargs : SV.oks (fun n => decide (n < k)) args = true) (hF : F.ok (fun n => decide (n < k)) = true) (hN : args.length ≤ 29)
    (h : SW Try.prog 29 k s ⟨argE 0 args, F, k⟩ fun e st' => match e with | .normal => Fin k nk rv Q st' | .ret => Fin k nk rv Q st' | _ => False) : SB Try.prog 41 args F k nk Q :=
  SB.of_body Try.func41 b c r ca hargs hF hN h
end tree_Tree_Held
/-! ### (tranter.tree.Tree).Why -/
namespace tree_Tree_Why
abbrev f : Nat := 42
def s : SCo := (.seq
(.reg [⟨(some 2), .box 25 (.t 0), none⟩,
⟨(some 3), .box 39 (.t 1), none⟩,
⟨(some 4), .mv (.k (.d (.int .i64 0))), none⟩] (fullB 3) false)
(.seq
(.seq
(.reg [⟨(some 9), .load none (.t 2), none⟩,
⟨(some 10), .call (.k (.fn (.func 78) [] [])) [(.t 9)], none⟩] (fullB 2) false)
(.cond (.t 10)
 (.seq
 (.reg [⟨(some 4), .mv (.k (.d (.int .i64 1))), none⟩] (fullB 1) false)
 .ret)
 .skip))
(.seq
(.reg [⟨(some 12), .load none (.t 2), none⟩,
⟨(some 13), .nilc (.t 12), none⟩,
⟨(some 14), .fld 0 (.t 13), none⟩,
⟨(some 15), .load none (.t 14), none⟩,
⟨(some 16), .fld 15 (.t 3), none⟩,
⟨(some 17), .load (some 2) (.t 16), none⟩,
⟨(some 18), .look [true, true] true (.agg [(.d (.int .u8 0)), (.d (.int .u32 0)), (.d (.int .u8 0)), (.d (.int .u32 0)), (.d (.int .u8 0)), (.d (.int .u32 0)), (.d (.int .u32 0)), (.d (.int .u8 0)), (.d (.int .u8 0)), (.d (.int .u64 0)), (.d (.int .i64 0))]) (.t 15) (.t 17) true, none⟩,
⟨(some 11), .mv (.t 18), none⟩,
⟨(some 19), .ext 0 (.t 11), none⟩,
⟨(some 20), .ext 1 (.t 11), none⟩,
⟨(some 5), .alloc 41 [(.d (.int .u8 0)), (.d (.int .u32 0)), (.d (.int .u8 0)), (.d (.int .u32 0)), (.d (.int .u8 0)), (.d (.int .u32 0)), (.d (.int .u32 0)), (.d (.int .u8 0)), (.d (.int .u8 0)), (.d (.int .u64 0)), (.d (.int .i64 0))], none⟩,
⟨(some 6), .alloc 4 [(.d (.bool false))], none⟩,
⟨none, .store 11 (.t 5) (.t 19), none⟩,
⟨none, .store 1 (.t 6) (.t 20), none⟩] [0,
1,
3,
7,
0,
16,
63,
127,
255,
255,
0,
0,
3583,
8191] true)
(.seq
 (.seq
 (.reg [⟨(some 21), .mkf (.func 105) [] [(.t 3)], none⟩,
⟨(some 22), .bld [(.d (.int .i64 0)), (.d .nilf)] [(0, 1, (.k (.d (.int .i64 2)))), (1, 1, (.t 21))], none⟩,
⟨(some 23), .mkf (.func 106) [] [(.t 6), (.t 5), (.t 3), (.t 2)], none⟩,
⟨(some 24), .bld [(.d (.int .i64 0)), (.d .nilf)] [(0, 1, (.k (.d (.int .i64 272)))), (1, 1, (.t 23))], none⟩,
⟨(some 25), .mkf (.func 108) [] [(.t 5), (.t 3)], none⟩,
⟨(some 26), .bld [(.d (.int .i64 0)), (.d .nilf)] [(0, 1, (.k (.d (.int .i64 273)))), (1, 1, (.t 25))], none⟩,
⟨(some 27), .mkf (.func 109) [] [(.t 5)], none⟩,
⟨(some 28), .bld [(.d (.int .i64 0)), (.d .nilf)] [(0, 1, (.k (.d (.int .i64 274)))), (1, 1, (.t 27))], none⟩,
⟨(some 29), .mkf (.func 110) [] [(.t 3), (.t 5)], none⟩,
⟨(some 30), .bld [(.d (.int .i64 0)), (.d .nilf)] [(0, 1, (.k (.d (.int .i64 275)))), (1, 1, (.t 29))], none⟩,
⟨(some 31), .bld [(.d (.int .i64 0)), (.d .nilf), (.d (.int .i64 0)), (.d .nilf), (.d (.int .i64 0)), (.d .nilf), (.d (.int .i64 0)), (.d .nilf), (.d (.int .i64 0)), (.d .nilf)] [(0, 2, (.t 22)), (2, 2, (.t 24)), (4, 2, (.t 26)), (6, 2, (.t 28)), (8, 2, (.t 30))], none⟩,
⟨(some 32), .mv (.k (.d (.int .i64 0))), none⟩] (fullB 12) false)
 (.block 0
 (.loop
 (.seq
  (.reg [⟨(some 33), .bin .lss (.t 32) (.k (.d (.int .i64 5))), none⟩] (fullB 1) false)
  (.seq
  (.cond (.t 33)
  .skip
  (.exit 0))
  (.seq
  (.block 1
  (.seq
   (.reg [⟨(some 34), .index 5 2 true (.t 31) (.t 32), none⟩,
⟨(some 8), .alloc 160 [(.d (.int .i64 0)), (.d .nilf)], none⟩,
⟨none, .store 2 (.t 8) (.t 34), none⟩] (fullB 3) false)
   (.seq
   (.reg [⟨(some 35), .fld 1 (.t 8), none⟩,
⟨(some 36), .load none (.t 35), none⟩,
⟨(some 37), .call (.t 36) [], none⟩] (fullB 3) false)
   (.cond (.t 37)
   (.seq
   (.reg [⟨(some 38), .fld 0 (.t 8), none⟩,
⟨(some 39), .load none (.t 38), none⟩,
⟨(some 4), .mv (.t 39), none⟩] (fullB 3) false)
   .ret)
   .skip))))
  (.reg [⟨(some 40), .bin .add (.t 32) (.k (.d (.int .i64 1))), none⟩,
⟨(some 32), .mv (.t 40), none⟩] (fullB 2) false)))))))
 (.seq
 (.reg [⟨(some 4), .mv (.k (.d (.int .i64 0))), none⟩] (fullB 1) false)
 .ret)))))
def rv : List RV := [.tmp 4]
/-! live tree_Tree_Why: [0, 1, 2, 3, 4, 5, 6, 8, 10, 31, 32, 33, 37] -/
theorem c : cK Try.prog Try.f42.ntmps (Try.f42.body.getD .ret) = some s := by kernel_rfl
theorem b : Try.f42.body = some (Try.f42.body.getD .ret) := by kernel_rfl
theorem r : cRV Try.prog Try.f42.results.toList = some rv := by kernel_rfl
theorem ca : Callable Try.prog 42 = true := by kernel_rfl
theorem enter {args : List SV} {F : Hp} {k nk : Nat} {Q : SV → Hp → Prop} (hargs : SV.oks (fun n => decide (n < k)) args = true) (hF : F.ok (fun n => decide (n < k)) = true) (hN : args.length ≤ 41)
    (h : SW Try.prog 41 k s ⟨argE 0 args, F, k⟩ fun e st' => match e with | .normal => Fin k nk rv Q st' | .ret => Fin k nk rv Q st' | _ => False) : SB Try.prog 42 args F k nk Q :=
  SB.of_body Try.func42 b c r ca hargs hF hN h
end tree_Tree_Why
/-! ### tranter.tranterref16.Why -/
namespace ref16_Why
abbrev f : Nat := 43
def s : SCo := (.seq
(.reg [⟨(some 3), .box 39 (.t 1), none⟩,
⟨(some 4), .mv (.k (.d (.int .i64 0))), none⟩] (fullB 2) false)
(.seq
(.reg [⟨(some 8), .mv (.t 0), none⟩,
⟨(some 9), .load (some 29) (.t 3), none⟩,
⟨(some 10), .call (.k (.fn (.func 111) [] [])) [(.t 8), (.t 9), (.k (.d (.int .i64 11)))], none⟩,
⟨(some 7), .mv (.t 10), none⟩,
⟨(some 11), .ext 0 (.t 7), none⟩,
⟨(some 12), .ext 1 (.t 7), none⟩,
⟨(some 5), .alloc 41 [(.d (.int .u8 0)), (.d (.int .u32 0)), (.d (.int .u8 0)), (.d (.int .u32 0)), (.d (.int .u8 0)), (.d (.int .u32 0)), (.d (.int .u32 0)), (.d (.int .u8 0)), (.d (.int .u8 0)), (.d (.int .u64 0)), (.d (.int .i64 0))], none⟩,
⟨none, .store 11 (.t 5) (.t 11), none⟩,
⟨(some 6), .mv (.t 12), none⟩] (fullB 9) false)
(.seq
(.reg [⟨(some 13), .mv (.t 6), none⟩,
⟨(some 4), .mv (.t 13), none⟩] (fullB 2) false)
.ret)))
def rv : List RV := [.tmp 4]
/-! live ref16_Why: [0, 1, 3, 4, 6] -/
theorem c : cK Try.prog Try.f43.ntmps (Try.f43.body.getD .ret) = some s := by kernel_rfl
theorem b : Try.f43.body = some (Try.f43.body.getD .ret) := by kernel_rfl
theorem r : cRV Try.prog Try.f43.results.toList = some rv := by kernel_rfl
theorem ca : Callable Try.prog 43 = true := by kernel_rfl
theorem enter {args : List SV} {F : Hp} {k nk : Nat} {Q : SV → Hp → Prop} (hargs : SV.oks (fun n => decide (n < k)) args = true) (hF : F.ok (fun n => decide (n < k)) = true) (hN : args.length ≤ 14)
    (h : SW Try.prog 14 k s ⟨argE 0 args, F, k⟩ fun e st' => match e with | .normal => Fin k nk rv Q st' | .ret => Fin k nk rv Q st' | _ => False) : SB Try.prog 43 args F k nk Q :=
  SB.of_body Try.func43 b c r ca hargs hF hN h
end ref16_Why
/-! ### tranter.tranterref03.In -/
namespace ref03_In
abbrev f : Nat := 44
def s : SCo := (.seq
(.reg [⟨(some 3), .box 33 (.t 1), none⟩,
⟨(some 4), .mv (.k (.d (.bool false))), none⟩] (fullB 2) false)
(.seq
(.seq
(.reg [⟨(some 5), .mv (.k (.d (.int .i64 0))), none⟩] (fullB 1) false)
(.block 0
 (.loop
 (.seq
 (.seq
 (.reg [⟨(some 6), .mv (.t 5), none⟩,
⟨(some 7), .mv (.t 0), none⟩,
⟨(some 8), .len (.t 7), none⟩,
⟨(some 9), .bin .lss (.t 6) (.t 8), none⟩] (fullB 4) false)
 (.cond (.t 9)
  .skip
  (.exit 0)))
 (.seq
 (.block 1
  (.seq
  (.reg [⟨(some 12), .mv (.t 0), none⟩,
⟨(some 13), .mv (.t 5), none⟩,
⟨(some 14), .idxS 2 (.t 12) (.t 13), none⟩,
⟨(some 15), .load (some 2) (.t 14), none⟩,
⟨(some 16), .load (some 2) (.t 3), none⟩,
⟨(some 17), .eqv false [true, true] (.t 15) (.t 16), none⟩] [0,
0,
3,
7,
0,
31] true)
  (.cond (.t 17)
  (.seq
  (.reg [⟨(some 4), .mv (.k (.d (.bool true))), none⟩] (fullB 1) false)
  .ret)
  .skip)))
 (.reg [⟨(some 10), .mv (.t 5), none⟩,
⟨(some 11), .bin .add (.t 10) (.k (.d (.int .i64 1))), none⟩,
⟨(some 5), .mv (.t 11), none⟩] (fullB 3) false))))))
(.seq
(.reg [⟨(some 4), .mv (.k (.d (.bool false))), none⟩] (fullB 1) false)
.ret)))
def rv : List RV := [.tmp 4]
/-! live ref03_In: [0, 1, 3, 4, 5, 9, 17] -/
theorem c : cK Try.prog Try.f44.ntmps (Try.f44.body.getD .ret) = some s := by kernel_rfl
theorem b : Try.f44.body = some (Try.f44.body.getD .ret) := by kernel_rfl
theorem r : cRV Try.prog Try.f44.results.toList = some rv := by kernel_rfl
theorem ca : Callable Try.prog 44 = true := by kernel_rfl
theorem enter {args : List SV} {F : Hp} {k nk : Nat} {Q : SV → Hp → Prop} (hargs : SV.oks (fun n => decide (n < k)) args = true) (hF : F.ok (fun n => decide (n < k)) = true) (hN : args.length ≤ 18)
    (h : SW Try.prog 18 k s ⟨argE 0 args, F, k⟩ fun e st' => match e with | .normal => Fin k nk rv Q st' | .ret => Fin k nk rv Q st' | _ => False) : SB Try.prog 44 args F k nk Q :=
  SB.of_body Try.func44 b c r ca hargs hF hN h
end ref03_In
/-! ### tranter.tranterlaw16.b -/
namespace law16_b
abbrev f : Nat := 70
def s : SCo := (.seq
(.reg [⟨(some 0), .alloc 39 [(.d (.int .u8 0)), (.d (.int .u32 0)), (.d (.int .u32 0)), (.d (.int .u32 0)), (.d (.int .u32 0)), (.d (.int .u32 0)), (.d (.int .u32 0)), (.d (.int .u32 0)), (.d (.int .u32 0)), (.d (.int .u32 0)), (.d (.int .u64 0)), (.d (.int .u32 0)), (.d (.int .u8 0)), (.d (.int .u32 0)), (.d (.int .u8 0)), (.d (.int .u8 0)), (.d (.int .u32 0)), (.d (.int .u32 0)), (.d (.int .u8 0)), (.d (.int .u8 0)), (.d (.int .u64 0)), (.d (.int .u8 0)), (.d (.int .u32 0)), (.d (.int .u8 0)), (.d (.int .u32 0)), (.d (.int .u32 0)), (.d (.int .u32 0)), (.d (.int .u32 0)), (.d .nils)], none⟩] (fullB 1) false)
(.seq
(.reg [⟨(some 1), .bld [(.d (.int .u8 0)), (.d (.int .u32 0))] [(1, 1, (.k (.d (.int .u32 3))))], none⟩,
⟨(some 2), .bld [(.d (.int .u32 0)), (.d (.int .u32 0)), (.d (.int .u32 0)), (.d (.int .u32 0)), (.d (.int .u32 0)), (.d (.int .u32 0)), (.d (.int .u32 0)), (.d (.int .u32 0))] [(0, 1, (.k (.d (.int .u32 2))))], none⟩,
⟨(some 3), .bld [(.d (.int .u8 0)), (.d (.int .u32 0))] [(1, 1, (.k (.d (.int .u32 1))))], none⟩,
⟨(some 4), .bld [(.d (.int .u8 0)), (.d (.int .u32 0))] [(1, 1, (.k (.d (.int .u32 2))))], none⟩,
⟨(some 5), .bld [(.d (.int .u8 0)), (.d (.int .u32 0)), (.d (.int .u32 0)), (.d (.int .u32 0)), (.d (.int .u32 0)), (.d (.int .u32 0)), (.d (.int .u32 0)), (.d (.int .u32 0)), (.d (.int .u32 0)), (.d (.int .u32 0)), (.d (.int .u64 0)), (.d (.int .u32 0)), (.d (.int .u8 0)), (.d (.int .u32 0)), (.d (.int .u8 0)), (.d (.int .u8 0)), (.d (.int .u32 0)), (.d (.int .u32 0)), (.d (.int .u8 0)), (.d (.int .u8 0)), (.d (.int .u64 0)), (.d (.int .u8 0)), (.d (.int .u32 0)), (.d (.int .u8 0)), (.d (.int .u32 0)), (.d (.int .u32 0)), (.d (.int .u32 0)), (.d (.int .u32 0)), (.d .nils)] [(0, 2, (.t 1)), (2, 8, (.t 2)), (10, 1, (.k (.d (.int .u64 3)))), (11, 1, (.k (.d (.int .u32 2)))), (12, 2, (.t 3)), (14, 1, (.k (.d (.int .u8 1)))), (15, 2, (.t 4)), (17, 1, (.k (.d (.int .u32 3)))), (18, 1, (.k (.d (.int .u8 2)))), (20, 1, (.k (.d (.int .u64 500))))], none⟩,
⟨none, .store 29 (.t 0) (.t 5), none⟩] (fullB 6) false)
.ret))
def rv : List RV := [.cell 0 (some 29)]
/-! live law16_b: [0] -/
theorem c : cK Try.prog Try.f70.ntmps (Try.f70.body.getD .ret) = some s := by kernel_rfl
theorem b : Try.f70.body = some (Try.f70.body.getD .ret) := by kernel_rfl
theorem r : cRV Try.prog Try.f70.results.toList = some rv := by kernel_rfl
theorem ca : Callable Try.prog 70 = true := by kernel_rfl
theorem enter {args : List SV} {F : Hp} {k nk : Nat} {Q : SV → Hp → Prop} (hargs : SV.oks (fun n => decide (n < k)) args = true) (hF : F.ok (fun n => decide (n < k)) = true) (hN : args.length ≤ 6)
    (h : SW Try.prog 6 k s ⟨argE 0 args, F, k⟩ fun e st' => match e with | .normal => Fin k nk rv Q st' | .ret => Fin k nk rv Q st' | _ => False) : SB Try.prog 70 args F k nk Q :=
  SB.of_body Try.func70 b c r ca hargs hF hN h
end law16_b
/-! ### tranter.tranterlaw16.g -/
namespace law16_g
abbrev f : Nat := 71
def s : SCo := (.seq
(.reg [⟨(some 0), .alloc 39 [(.d (.int .u8 0)), (.d (.int .u32 0)), (.d (.int .u32 0)), (.d (.int .u32 0)), (.d (.int .u32 0)), (.d (.int .u32 0)), (.d (.int .u32 0)), (.d (.int .u32 0)), (.d (.int .u32 0)), (.d (.int .u32 0)), (.d (.int .u64 0)), (.d (.int .u32 0)), (.d (.int .u8 0)), (.d (.int .u32 0)), (.d (.int .u8 0)), (.d (.int .u8 0)), (.d (.int .u32 0)), (.d (.int .u32 0)), (.d (.int .u8 0)), (.d (.int .u8 0)), (.d (.int .u64 0)), (.d (.int .u8 0)), (.d (.int .u32 0)), (.d (.int .u8 0)), (.d (.int .u32 0)), (.d (.int .u32 0)), (.d (.int .u32 0)), (.d (.int .u32 0)), (.d .nils)], none⟩] (fullB 1) false)
(.seq
(.reg [⟨(some 1), .bld [(.d (.int .u8 0)), (.d (.int .u32 0))] [(1, 1, (.k (.d (.int .u32 1))))], none⟩,
⟨(some 2), .bld [(.d (.int .u8 0)), (.d (.int .u32 0))] [(1, 1, (.k (.d (.int .u32 1))))], none⟩,
⟨(some 3), .bld [(.d (.int .u8 0)), (.d (.int .u32 0)), (.d (.int .u32 0)), (.d (.int .u32 0)), (.d (.int .u32 0)), (.d (.int .u32 0)), (.d (.int .u32 0)), (.d (.int .u32 0)), (.d (.int .u32 0)), (.d (.int .u32 0)), (.d (.int .u64 0)), (.d (.int .u32 0)), (.d (.int .u8 0)), (.d (.int .u32 0)), (.d (.int .u8 0)), (.d (.int .u8 0)), (.d (.int .u32 0)), (.d (.int .u32 0)), (.d (.int .u8 0)), (.d (.int .u8 0)), (.d (.int .u64 0)), (.d (.int .u8 0)), (.d (.int .u32 0)), (.d (.int .u8 0)), (.d (.int .u32 0)), (.d (.int .u32 0)), (.d (.int .u32 0)), (.d (.int .u32 0)), (.d .nils)] [(0, 2, (.t 1)), (10, 1, (.k (.d (.int .u64 1)))), (11, 1, (.k (.d (.int .u32 1)))), (12, 2, (.t 2))], none⟩,
⟨none, .store 29 (.t 0) (.t 3), none⟩] (fullB 4) false)
.ret))
def rv : List RV := [.cell 0 (some 29)]
/-! live law16_g: [0] -/
theorem c : cK Try.prog Try.f71.ntmps (Try.f71.body.getD .ret) = some s := by kernel_rfl
theorem b : Try.f71.body = some (Try.f71.body.getD .ret) := by kernel_rfl
theorem r : cRV Try.prog Try.f71.results.toList = some rv := by kernel_rfl
theorem ca : Callable Try.prog 71 = true := by kernel_rfl
theorem enter {args : List SV} {F : Hp} {k nk : Nat} {Q : SV → Hp → Prop} (hargs : SV.oks (fun n => decide (n < k)) args = true) (hF : F.ok (fun n => decide (n < k)) = true) (hN : args.length ≤ 4)
    (h : SW Try.prog 4 k s ⟨argE 0 args, F, k⟩ fun e st' => match e with | .normal => Fin k nk rv Q st' | .ret => Fin k nk rv Q st' | _ => False) : SB Try.prog 71 args F k nk Q :=
  SB.of_body Try.func71 b c r ca hargs hF hN h
end law16_g
/-! ### tranter.tranterlaw16.a -/
namespace law16_a
abbrev f : Nat := 72
def s : SCo := (.seq
(.reg [⟨(some 0), .alloc 39 [(.d (.int .u8 0)), (.d (.int .u32 0)), (.d (.int .u32 0)), (.d (.int .u32 0)), (.d (.int .u32 0)), (.d (.int .u32 0)), (.d (.int .u32 0)), (.d (.int .u32 0)), (.d (.int .u32 0)), (.d (.int .u32 0)), (.d (.int .u64 0)), (.d (.int .u32 0)), (.d (.int .u8 0)), (.d (.int .u32 0)), (.d (.int .u8 0)), (.d (.int .u8 0)), (.d (.int .u32 0)), (.d (.int .u32 0)), (.d (.int .u8 0)), (.d (.int .u8 0)), (.d (.int .u64 0)), (.d (.int .u8 0)), (.d (.int .u32 0)), (.d (.int .u8 0)), (.d (.int .u32 0)), (.d (.int .u32 0)), (.d (.int .u32 0)), (.d (.int .u32 0)), (.d .nils)], none⟩] (fullB 1) false)
(.seq
(.reg [⟨(some 1), .bld [(.d (.int .u8 0)), (.d (.int .u32 0))] [(1, 1, (.k (.d (.int .u32 2))))], none⟩,
⟨(some 2), .bld [(.d (.int .u32 0)), (.d (.int .u32 0)), (.d (.int .u32 0)), (.d (.int .u32 0)), (.d (.int .u32 0)), (.d (.int .u32 0)), (.d (.int .u32 0)), (.d (.int .u32 0))] [(0, 1, (.k (.d (.int .u32 1))))], none⟩,
⟨(some 3), .bld [(.d (.int .u8 0)), (.d (.int .u32 0))] [(1, 1, (.k (.d (.int .u32 1))))], none⟩,
⟨(some 4), .bld [(.d (.int .u8 0)), (.d (.int .u32 0))] [(1, 1, (.k (.d (.int .u32 1))))], none⟩,
⟨(some 5), .bld [(.d (.int .u8 0)), (.d (.int .u32 0)), (.d (.int .u32 0)), (.d (.int .u32 0)), (.d (.int .u32 0)), (.d (.int .u32 0)), (.d (.int .u32 0)), (.d (.int .u32 0)), (.d (.int .u32 0)), (.d (.int .u32 0)), (.d (.int .u64 0)), (.d (.int .u32 0)), (.d (.int .u8 0)), (.d (.int .u32 0)), (.d (.int .u8 0)), (.d (.int .u8 0)), (.d (.int .u32 0)), (.d (.int .u32 0)), (.d (.int .u8 0)), (.d (.int .u8 0)), (.d (.int .u64 0)), (.d (.int .u8 0)), (.d (.int .u32 0)), (.d (.int .u8 0)), (.d (.int .u32 0)), (.d (.int .u32 0)), (.d (.int .u32 0)), (.d (.int .u32 0)), (.d .nils)] [(0, 2, (.t 1)), (2, 8, (.t 2)), (10, 1, (.k (.d (.int .u64 2)))), (11, 1, (.k (.d (.int .u32 1)))), (12, 2, (.t 3)), (14, 1, (.k (.d (.int .u8 1)))), (15, 2, (.t 4)), (17, 1, (.k (.d (.int .u32 2)))), (18, 1, (.k (.d (.int .u8 3)))), (19, 1, (.k (.d (.int .u8 3)))), (20, 1, (.k (.d (.int .u64 500))))], none⟩,
⟨none, .store 29 (.t 0) (.t 5), none⟩] (fullB 6) false)
.ret))
def rv : List RV := [.cell 0 (some 29)]
/-! live law16_a: [0] -/
theorem c : cK Try.prog Try.f72.ntmps (Try.f72.body.getD .ret) = some s := by kernel_rfl
theorem b : Try.f72.body = some (Try.f72.body.getD .ret) := by kernel_rfl
theorem r : cRV Try.prog Try.f72.results.toList = some rv := by kernel_rfl
theorem ca : Callable Try.prog 72 = true := by kernel_rfl
theorem enter {args : List SV} {F : Hp} {k nk : Nat} {Q : SV → Hp → Prop} (hargs : SV.oks (fun n => decide (n < k)) args = true) (hF : F.ok (fun n => decide (n < k)) = true) (hN : args.length ≤ 6)
    (h : SW Try.prog 6 k s ⟨argE 0 args, F, k⟩ fun e st' => match e with | .normal => Fin k nk rv Q st' | .ret => Fin k nk rv Q st' | _ => False) : SB Try.prog 72 args F k nk Q :=
  SB.of_body Try.func72 b c r ca hargs hF hN h
end law16_a
/-! ### slices.DeleteFunc[[]tranter.api.Op,tranter.api.Op] -/
namespace slices_DeleteFunc_Lapi_Op_api_Op
abbrev f : Nat := 73
def s : SCo := (.seq
(.reg [⟨(some 4), .mv (.k (.d .nils)), none⟩] (fullB 1) false)
(.seq
(.reg [⟨(some 8), .mv (.t 0), none⟩,
⟨(some 9), .mv (.t 1), none⟩,
⟨(some 10), .call (.k (.fn (.func 138) [] [])) [(.t 8), (.t 9)], none⟩,
⟨(some 5), .mv (.t 10), none⟩] (fullB 4) false)
(.seq
(.seq
 (.reg [⟨(some 11), .mv (.t 5), none⟩,
⟨(some 12), .bin .eql (.t 11) (.k (.d (.int .i64 (-1)))), none⟩] (fullB 2) false)
 (.cond (.t 12)
 (.seq
 (.reg [⟨(some 13), .mv (.t 0), none⟩,
⟨(some 4), .mv (.t 13), none⟩] (fullB 2) false)
 .ret)
 .skip))
(.seq
 (.seq
 (.reg [⟨(some 14), .mv (.t 5), none⟩,
⟨(some 15), .bin .add (.t 14) (.k (.d (.int .i64 1))), none⟩,
⟨(some 6), .mv (.t 15), none⟩] (fullB 3) false)
 (.block 0
 (.loop
 (.seq
  (.seq
  (.reg [⟨(some 16), .mv (.t 6), none⟩,
⟨(some 17), .mv (.t 0), none⟩,
⟨(some 18), .len (.t 17), none⟩,
⟨(some 19), .bin .lss (.t 16) (.t 18), none⟩] (fullB 4) false)
  (.cond (.t 19)
  .skip
  (.exit 0)))
  (.seq
  (.block 1
  (.seq
  (.reg [⟨(some 22), .mv (.t 0), none⟩,
⟨(some 23), .mv (.t 6), none⟩,
⟨(some 24), .idxS 29 (.t 22) (.t 23), none⟩,
⟨(some 25), .load (some 29) (.t 24), none⟩,
⟨(some 7), .alloc 39 [(.d (.int .u8 0)), (.d (.int .u32 0)), (.d (.int .u32 0)), (.d (.int .u32 0)), (.d (.int .u32 0)), (.d (.int .u32 0)), (.d (.int .u32 0)), (.d (.int .u32 0)), (.d (.int .u32 0)), (.d (.int .u32 0)), (.d (.int .u64 0)), (.d (.int .u32 0)), (.d (.int .u8 0)), (.d (.int .u32 0)), (.d (.int .u8 0)), (.d (.int .u8 0)), (.d (.int .u32 0)), (.d (.int .u32 0)), (.d (.int .u8 0)), (.d (.int .u8 0)), (.d (.int .u64 0)), (.d (.int .u8 0)), (.d (.int .u32 0)), (.d (.int .u8 0)), (.d (.int .u32 0)), (.d (.int .u32 0)), (.d (.int .u32 0)), (.d (.int .u32 0)), (.d .nils)], none⟩,
⟨none, .store 29 (.t 7) (.t 25), none⟩] (fullB 6) false)
  (.seq
   (.reg [⟨(some 26), .mv (.t 1), none⟩,
⟨(some 27), .load (some 29) (.t 7), none⟩,
⟨(some 28), .call (.t 26) [(.t 27)], none⟩,
⟨(some 29), .not (.t 28), none⟩] (fullB 4) false)
   (.cond (.t 29)
   (.seq
   (.reg [⟨(some 30), .mv (.t 0), none⟩,
⟨(some 31), .mv (.t 5), none⟩,
⟨(some 32), .load (some 29) (.t 7), none⟩,
⟨(some 33), .idxS 29 (.t 30) (.t 31), none⟩,
⟨none, .store 29 (.t 33) (.t 32), none⟩] (fullB 5) false)
   (.reg [⟨(some 34), .mv (.t 5), none⟩,
⟨(some 35), .bin .add (.t 34) (.k (.d (.int .i64 1))), none⟩,
⟨(some 5), .mv (.t 35), none⟩] (fullB 3) false))
   .skip))))
  (.reg [⟨(some 20), .mv (.t 6), none⟩,
⟨(some 21), .bin .add (.t 20) (.k (.d (.int .i64 1))), none⟩,
⟨(some 6), .mv (.t 21), none⟩] (fullB 3) false))))))
 (.seq
 (.reg [⟨(some 36), .mv (.t 0), none⟩,
⟨(some 37), .mv (.t 5), none⟩,
⟨(some 38), .slc 29 (.t 36) (some (.t 37)) none, none⟩,
⟨none, .clr 29 [(.d (.int .u8 0)), (.d (.int .u32 0)), (.d (.int .u32 0)), (.d (.int .u32 0)), (.d (.int .u32 0)), (.d (.int .u32 0)), (.d (.int .u32 0)), (.d (.int .u32 0)), (.d (.int .u32 0)), (.d (.int .u32 0)), (.d (.int .u64 0)), (.d (.int .u32 0)), (.d (.int .u8 0)), (.d (.int .u32 0)), (.d (.int .u8 0)), (.d (.int .u8 0)), (.d (.int .u32 0)), (.d (.int .u32 0)), (.d (.int .u8 0)), (.d (.int .u8 0)), (.d (.int .u64 0)), (.d (.int .u8 0)), (.d (.int .u32 0)), (.d (.int .u8 0)), (.d (.int .u32 0)), (.d (.int .u32 0)), (.d (.int .u32 0)), (.d (.int .u32 0)), (.d .nils)] (.t 38), none⟩] (fullB 4) false)
 (.seq
 (.reg [⟨(some 39), .mv (.t 0), none⟩,
⟨(some 40), .mv (.t 5), none⟩,
⟨(some 41), .slc 29 (.t 39) none (some (.t 40)), none⟩,
⟨(some 4), .mv (.t 41), none⟩] (fullB 4) false)
 .ret))))))
def rv : List RV := [.tmp 4]
/-! live slices_DeleteFunc_Lapi_Op_api_Op: [0, 1, 4, 5, 6, 7, 12, 19, 29] -/
theorem c : cK Try.prog Try.f73.ntmps (Try.f73.body.getD .ret) = some s := by kernel_rfl
theorem b : Try.f73.body = some (Try.f73.body.getD .ret) := by kernel_rfl
theorem r : cRV Try.prog Try.f73.results.toList = some rv := by kernel_rfl
theorem ca : Callable Try.prog 73 = true := by kernel_rfl
theorem enter {args : List SV} {F : Hp} {k nk : Nat} {Q : SV → Hp → Prop} (hargs : SV.oks (fun n => decide (n < k)) args = true) (hF : F.ok (fun n => decide (n < k)) = true) (hN : args.length ≤ 42)
    (h : SW Try.prog 42 k s ⟨argE 0 args, F, k⟩ fun e st' => match e with | .normal => Fin k nk rv Q st' | .ret => Fin k nk rv Q st' | _ => False) : SB Try.prog 73 args F k nk Q :=
  SB.of_body Try.func73 b c r ca hargs hF hN h
end slices_DeleteFunc_Lapi_Op_api_Op
/-! ### slices.Clone[[]tranter.api.Op,tranter.api.Op] -/
namespace slices_Clone_Lapi_Op_api_Op
abbrev f : Nat := 74
def s : SCo := (.seq
(.reg [⟨(some 2), .mv (.k (.d .nils)), none⟩] (fullB 1) false)
(.seq
(.seq
(.reg [⟨(some 3), .mv (.t 0), none⟩,
⟨(some 4), .eqnil false 3 (.t 3), none⟩] (fullB 2) false)
(.cond (.t 4)
 (.seq
 (.reg [⟨(some 2), .mv (.k (.d .nils)), none⟩] (fullB 1) false)
 .ret)
 .skip))
(.seq
(.reg [⟨(some 5), .bsl 39 29 0 [] [], none⟩,
⟨(some 6), .mv (.t 0), none⟩,
⟨(some 7), .app 39 29 144 (.t 5) (.t 6), none⟩,
⟨(some 2), .mv (.t 7), none⟩] (fullB 4) false)
.ret)))
def rv : List RV := [.tmp 2]
/-! live slices_Clone_Lapi_Op_api_Op: [0, 2, 4] -/
theorem c : cK Try.prog Try.f74.ntmps (Try.f74.body.getD .ret) = some s := by kernel_rfl
theorem b : Try.f74.body = some (Try.f74.body.getD .ret) := by kernel_rfl
theorem r : cRV Try.prog Try.f74.results.toList = some rv := by kernel_rfl
theorem ca : Callable Try.prog 74 = true := by kernel_rfl
theorem enter {args : List SV} {F : Hp} {k nk : Nat} {Q : SV → Hp → Prop} (hargs : SV.oks (fun n => decide (n < k)) args = true) (hF : F.ok (fun n => decide (n < k)) = true) (hN : args.length ≤ 8)
    (h : SW Try.prog 8 k s ⟨argE 0 args, F, k⟩ fun e st' => match e with | .normal => Fin k nk rv Q st' | .ret => Fin k nk rv Q st' | _ => False) : SB Try.prog 74 args F k nk Q :=
  SB.of_body Try.func74 b c r ca hargs hF hN h
end slices_Clone_Lapi_Op_api_Op
/-! ### tranter.tree.New$1 -/
namespace tree_New_1
abbrev f : Nat := 75
def s : SCo := (.seq
(.reg [⟨(some 2), .box 39 (.t 0), none⟩,
⟨(some 3), .mv (.k (.d (.bool false))), none⟩] (fullB 2) false)
(.seq
(.reg [⟨(some 4), .load none (.t 1), none⟩,
⟨(some 5), .fld 0 (.t 2), none⟩,
⟨(some 6), .load (some 2) (.t 5), none⟩,
⟨(some 7), .look [true, true] true (.d (.int .i64 0)) (.t 4) (.t 6) false, none⟩,
⟨(some 8), .bin .add (.t 7) (.k (.d (.int .i64 1))), none⟩,
⟨(some 9), .mentr [true, true] true (.d (.int .i64 0)) (.t 4) (.t 6), none⟩,
⟨(some 10), .ext 1 (.t 9), none⟩,
⟨none, .mstor (.t 4) (.t 10) (.t 8), none⟩] [0,
0,
2,
7,
15,
7,
39,
127] true)
(.seq
(.reg [⟨(some 11), .load none (.t 1), none⟩,
⟨(some 12), .fld 0 (.t 2), none⟩,
⟨(some 13), .load (some 2) (.t 12), none⟩,
⟨(some 14), .look [true, true] true (.d (.int .i64 0)) (.t 11) (.t 13) false, none⟩,
⟨(some 15), .bin .gtr (.t 14) (.k (.d (.int .i64 1))), none⟩,
⟨(some 16), .mv (.t 15), none⟩,
⟨(some 17), .fld 14 (.t 2), some (16, false)⟩,
⟨(some 18), .load none (.t 17), some (16, false)⟩,
⟨(some 19), .bin .gtr (.t 18) (.k (.d (.int .u8 1))), some (16, false)⟩,
⟨(some 20), .pick (.t 16) (.k (.d (.bool true))) (.t 19), none⟩,
⟨(some 3), .mv (.t 20), none⟩] (fullB 11) false)
.ret)))
def rv : List RV := [.tmp 3]
/-! live tree_New_1: [0, 1, 2, 3] -/
theorem c : cK Try.prog Try.f75.ntmps (Try.f75.body.getD .ret) = some s := by kernel_rfl
theorem b : Try.f75.body = some (Try.f75.body.getD .ret) := by kernel_rfl
theorem r : cRV Try.prog Try.f75.results.toList = some rv := by kernel_rfl
theorem ca : Callable Try.prog 75 = true := by kernel_rfl
theorem enter {args : List SV} {F : Hp} {k nk : Nat} {Q : SV → Hp → Prop} (hargs : SV.oks (fun n => decide (n < k)) args = true) (hF : F.ok (fun n => decide (n < k)) = true) (hN : args.length ≤ 21)
    (h : SW Try.prog 21 k s ⟨argE 0 args, F, k⟩ fun e st' => match e with | .normal => Fin k nk rv Q st' | .ret => Fin k nk rv Q st' | _ => False) : SB Try.prog 75 args F k nk Q :=
  SB.of_body Try.func75 b c r ca hargs hF hN h
end tree_New_1
/-! ### (tranter.tree.Tree).put -/
namespace tree_Tree_put
abbrev f : Nat := 76
def s : SCo := (.seq
(.reg [⟨(some 3), .box 39 (.t 1), none⟩,
⟨(some 4), .mv (.k (.d (.bool false))), none⟩] (fullB 2) false)
(.seq
(.reg [⟨(some 6), .fld 0 (.t 3), none⟩,
⟨(some 7), .load (some 2) (.t 6), none⟩,
⟨(some 8), .fld 0 (.t 3), none⟩,
⟨(some 9), .load (some 2) (.t 8), none⟩,
⟨(some 10), .fld 11 (.t 3), none⟩,
⟨(some 11), .load none (.t 10), none⟩,
⟨(some 12), .bld [(.d (.int .u8 0)), (.d (.int .u32 0)), (.d (.int .u8 0)), (.d (.int .u32 0)), (.d (.int .u8 0)), (.d (.int .u32 0)), (.d (.int .u32 0)), (.d (.int .u8 0)), (.d (.int .u8 0)), (.d (.int .u64 0)), (.d (.int .i64 0))] [(0, 2, (.t 7)), (2, 2, (.t 9)), (6, 1, (.t 11)), (7, 1, (.k (.d (.int .u8 7)))), (8, 1, (.k (.d (.int .u8 8)))), (9, 1, (.k (.d (.int .u64 1099511627776))))], none⟩,
⟨(some 5), .alloc 41 [(.d (.int .u8 0)), (.d (.int .u32 0)), (.d (.int .u8 0)), (.d (.int .u32 0)), (.d (.int .u8 0)), (.d (.int .u32 0)), (.d (.int .u32 0)), (.d (.int .u8 0)), (.d (.int .u8 0)), (.d (.int .u64 0)), (.d (.int .i64 0))], none⟩,
⟨none, .store 11 (.t 5) (.t 12), none⟩] (fullB 9) false)
(.seq
(.block 0
 (.seq
 (.reg (⟨(some 14), .fld 14 (.t 3), none⟩ ::
⟨(some 15), .load none (.t 14), none⟩ ::
⟨(some 16), .bin .eql (.t 15) (.k (.d (.int .u8 0))), none⟩ ::
⟨(some 17), .mv (.t 16), none⟩ ::
⟨(some 18), .fld 12 (.t 3), some (17, true)⟩ ::
⟨(some 19), .load (some 2) (.t 18), some (17, true)⟩ ::
⟨(some 20), .fld 0 (.t 3), some (17, true)⟩ ::
⟨(some 21), .load (some 2) (.t 20), some (17, true)⟩ ::
⟨(some 22), .eqv true [true, true] (.t 19) (.t 21), some (17, true)⟩ ::
⟨(some 23), .pick (.t 17) (.t 22) (.k (.d (.bool false))), none⟩ ::
⟨(some 24), .mv (.t 23), none⟩ ::
⟨(some 25), .fld 14 (.t 3), some (24, false)⟩ ::
⟨(some 26), .load none (.t 25), some (24, false)⟩ ::
⟨(some 27), .bin .eql (.t 26) (.k (.d (.int .u8 1))), some (24, false)⟩ ::
⟨(some 28), .mv (.t 27), some (24, false)⟩ ::
⟨(some 29), .mv (.t 0), some (28, true)⟩ ::
⟨(some 30), .load (some 29) (.t 3), some (28, true)⟩ ::
⟨(some 31), .call (.k (.fn (.func 42) [] [])) [(.t 29), (.t 30)], some (28, true)⟩ ::
⟨(some 32), .bin .neq (.t 31) (.k (.d (.int .i64 0))), some (28, true)⟩ ::
⟨(some 33), .pick (.t 28) (.t 32) (.k (.d (.bool false))), some (24, false)⟩ ::
⟨(some 34), .pick (.t 24) (.k (.d (.bool true))) (.t 33), none⟩ ::
⟨(some 13), .mv (.t 34), none⟩ :: []) (fullB 22) false)
 (.cond (.t 13)
 (.seq
 (.reg [⟨(some 4), .mv (.k (.d (.bool false))), none⟩] (fullB 1) false)
 .ret)
 (.seq
 (.reg [⟨(some 36), .fld 14 (.t 3), none⟩,
⟨(some 37), .load none (.t 36), none⟩,
⟨(some 38), .bin .eql (.t 37) (.k (.d (.int .u8 1))), none⟩,
⟨(some 35), .mv (.t 38), none⟩] (fullB 4) false)
 (.cond (.t 35)
  (.reg (⟨(some 39), .fld 0 (.t 3), none⟩ ::
⟨(some 40), .load (some 2) (.t 39), none⟩ ::
⟨(some 41), .fld 12 (.t 3), none⟩ ::
⟨(some 42), .load (some 2) (.t 41), none⟩ ::
⟨(some 43), .fld 15 (.t 3), none⟩ ::
⟨(some 44), .load (some 2) (.t 43), none⟩ ::
⟨(some 45), .fld 17 (.t 3), none⟩ ::
⟨(some 46), .load none (.t 45), none⟩ ::
⟨(some 47), .fld 18 (.t 3), none⟩ ::
⟨(some 48), .load none (.t 47), none⟩ ::
⟨(some 49), .fld 19 (.t 3), none⟩ ::
⟨(some 50), .load none (.t 49), none⟩ ::
⟨(some 51), .fld 20 (.t 3), none⟩ ::
⟨(some 52), .load none (.t 51), none⟩ ::
⟨(some 53), .mv (.t 0), none⟩ ::
⟨(some 54), .nilc (.t 53), none⟩ ::
⟨(some 55), .fld 0 (.t 54), none⟩ ::
⟨(some 56), .load none (.t 55), none⟩ ::
⟨(some 57), .fld 15 (.t 3), none⟩ ::
⟨(some 58), .load (some 2) (.t 57), none⟩ ::
⟨(some 59), .look [true, true] true (.agg [(.d (.int .u8 0)), (.d (.int .u32 0)), (.d (.int .u8 0)), (.d (.int .u32 0)), (.d (.int .u8 0)), (.d (.int .u32 0)), (.d (.int .u32 0)), (.d (.int .u8 0)), (.d (.int .u8 0)), (.d (.int .u64 0)), (.d (.int .i64 0))]) (.t 56) (.t 58) false, none⟩ ::
⟨(some 60), .field 10 none (.t 59), none⟩ ::
⟨(some 61), .bin .add (.t 60) (.k (.d (.int .i64 1))), none⟩ ::
⟨(some 62), .bld [(.d (.int .u8 0)), (.d (.int .u32 0)), (.d (.int .u8 0)), (.d (.int .u32 0)), (.d (.int .u8 0)), (.d (.int .u32 0)), (.d (.int .u32 0)), (.d (.int .u8 0)), (.d (.int .u8 0)), (.d (.int .u64 0)), (.d (.int .i64 0))] [(0, 2, (.t 40)), (2, 2, (.t 42)), (4, 2, (.t 44)), (6, 1, (.t 46)), (7, 1, (.t 48)), (8, 1, (.t 50)), (9, 1, (.t 52)), (10, 1, (.t 61))], none⟩ ::
⟨none, .store 11 (.t 5) (.t 62), none⟩ :: []) (0 ::
1 ::
0 ::
4 ::
0 ::
16 ::
0 ::
64 ::
0 ::
256 ::
0 ::
1024 ::
0 ::
4096 ::
0 ::
16384 ::
49152 ::
114688 ::
0 ::
262144 ::
1032192 ::
2080768 ::
4177920 ::
8388607 ::
16777215 :: []) true)
  .skip)))))
(.seq
 (.reg (⟨(some 63), .mv (.t 0), none⟩ ::
⟨(some 64), .nilc (.t 63), none⟩ ::
⟨(some 65), .fld 0 (.t 64), none⟩ ::
⟨(some 66), .load none (.t 65), none⟩ ::
⟨(some 67), .fld 0 (.t 3), none⟩ ::
⟨(some 68), .load (some 2) (.t 67), none⟩ ::
⟨(some 69), .mv (.t 0), none⟩ ::
⟨(some 70), .nilc (.t 69), none⟩ ::
⟨(some 71), .fld 1 (.t 70), none⟩ ::
⟨(some 72), .load none (.t 71), none⟩ ::
⟨(some 73), .fld 0 (.t 3), none⟩ ::
⟨(some 74), .load (some 2) (.t 73), none⟩ ::
⟨(some 75), .load (some 11) (.t 5), none⟩ ::
⟨(some 76), .load (some 29) (.t 3), none⟩ ::
⟨(some 77), .mentr [true, true] true (.agg [(.d (.int .u8 0)), (.d (.int .u32 0)), (.d (.int .u8 0)), (.d (.int .u32 0)), (.d (.int .u8 0)), (.d (.int .u32 0)), (.d (.int .u32 0)), (.d (.int .u8 0)), (.d (.int .u8 0)), (.d (.int .u64 0)), (.d (.int .i64 0))]) (.t 66) (.t 68), none⟩ ::
⟨(some 78), .ext 1 (.t 77), none⟩ ::
⟨none, .mstor (.t 66) (.t 78) (.t 75), none⟩ ::
⟨(some 79), .mentr [true, true] true (.agg [(.d (.int .u8 0)), (.d (.int .u32 0)), (.d (.int .u32 0)), (.d (.int .u32 0)), (.d (.int .u32 0)), (.d (.int .u32 0)), (.d (.int .u32 0)), (.d (.int .u32 0)), (.d (.int .u32 0)), (.d (.int .u32 0)), (.d (.int .u64 0)), (.d (.int .u32 0)), (.d (.int .u8 0)), (.d (.int .u32 0)), (.d (.int .u8 0)), (.d (.int .u8 0)), (.d (.int .u32 0)), (.d (.int .u32 0)), (.d (.int .u8 0)), (.d (.int .u8 0)), (.d (.int .u64 0)), (.d (.int .u8 0)), (.d (.int .u32 0)), (.d (.int .u8 0)), (.d (.int .u32 0)), (.d (.int .u32 0)), (.d (.int .u32 0)), (.d (.int .u32 0)), (.d .nils)]) (.t 72) (.t 74), none⟩ ::
⟨(some 80), .ext 1 (.t 79), none⟩ ::
⟨none, .mstor (.t 72) (.t 80) (.t 76), none⟩ :: []) (0 ::
1 ::
3 ::
7 ::
0 ::
16 ::
0 ::
64 ::
192 ::
448 ::
0 ::
1024 ::
0 ::
0 ::
1023 ::
17407 ::
54271 ::
122879 ::
253951 ::
524287 :: []) true)
 (.seq
 (.reg [⟨(some 4), .mv (.k (.d (.bool true))), none⟩] (fullB 1) false)
 .ret)))))
def rv : List RV := [.tmp 4]
/-! live tree_Tree_put: [0, 1, 3, 4, 5, 13, 35] -/
theorem c : cK Try.prog Try.f76.ntmps (Try.f76.body.getD .ret) = some s := by kernel_rfl
theorem b : Try.f76.body = some (Try.f76.body.getD .ret) := by kernel_rfl
theorem r : cRV Try.prog Try.f76.results.toList = some rv := by kernel_rfl
theorem ca : Callable Try.prog 76 = true := by kernel_rfl
theorem enter {args : List SV} {F : Hp} {k nk : Nat} {Q : SV → Hp → Prop} (hargs : SV.oks (fun n => decide (n < k)) args = true) (hF : F.ok (fun n => decide (n < k)) = true) (hN : args.length ≤ 81)
    (h : SW Try.prog 81 k s ⟨argE 0 args, F, k⟩ fun e st' => match e with | .normal => Fin k nk rv Q st' | .ret => Fin k nk rv Q st' | _ => False) : SB Try.prog 76 args F k nk Q :=
  SB.of_body Try.func76 b c r ca hargs hF hN h
end tree_Tree_put
/-! ### (tranter.tree.Tree).up -/
namespace tree_Tree_up
abbrev f : Nat := 77
def s : SCo := (.seq
(.reg [⟨(some 2), .box 25 (.t 0), none⟩,
⟨(some 3), .box 33 (.t 1), none⟩,
⟨(some 4), .mv (.k (.d .nilf)), none⟩] (fullB 3) false)
(.seq
(.reg [⟨(some 5), .mkf (.func 139) [] [(.t 2), (.t 3)], none⟩,
⟨(some 4), .mv (.t 5), none⟩] (fullB 2) false)
.ret))
def rv : List RV := [.tmp 4]
/-! live tree_Tree_up: [0, 1, 2, 3, 4] -/
theorem c : cK Try.prog Try.f77.ntmps (Try.f77.body.getD .ret) = some s := by kernel_rfl
theorem b : Try.f77.body = some (Try.f77.body.getD .ret) := by kernel_rfl
theorem r : cRV Try.prog Try.f77.results.toList = some rv := by kernel_rfl
theorem ca : Callable Try.prog 77 = true := by kernel_rfl
theorem enter {args : List SV} {F : Hp} {k nk : Nat} {Q : SV → Hp → Prop} (hargs : SV.oks (fun n => decide (n < k)) args = true) (hF : F.ok (fun n => decide (n < k)) = true) (hN : args.length ≤ 6)
    (h : SW Try.prog 6 k s ⟨argE 0 args, F, k⟩ fun e st' => match e with | .normal => Fin k nk rv Q st' | .ret => Fin k nk rv Q st' | _ => False) : SB Try.prog 77 args F k nk Q :=
  SB.of_body Try.func77 b c r ca hargs hF hN h
end tree_Tree_up
/-! ### (tranter.tree.Tree).none -/
namespace tree_Tree_none
abbrev f : Nat := 78
def s : SCo := (.seq
(.reg [⟨(some 2), .mv (.k (.d (.bool false))), none⟩] (fullB 1) false)
(.seq
(.reg [⟨(some 3), .mv (.t 0), none⟩,
⟨(some 4), .eqnil false 0 (.t 3), none⟩,
⟨(some 5), .mv (.t 4), none⟩,
⟨(some 6), .mv (.t 0), some (5, false)⟩,
⟨(some 7), .nilc (.t 6), some (5, false)⟩,
⟨(some 8), .fld 0 (.t 7), some (5, false)⟩,
⟨(some 9), .load none (.t 8), some (5, false)⟩,
⟨(some 10), .eqnil false 1 (.t 9), some (5, false)⟩,
⟨(some 11), .pick (.t 5) (.k (.d (.bool true))) (.t 10), none⟩,
⟨(some 2), .mv (.t 11), none⟩] (fullB 10) false)
.ret))
def rv : List RV := [.tmp 2]
/-! live tree_Tree_none: [0, 2] -/
theorem c : cK Try.prog Try.f78.ntmps (Try.f78.body.getD .ret) = some s := by kernel_rfl
theorem b : Try.f78.body = some (Try.f78.body.getD .ret) := by kernel_rfl
theorem r : cRV Try.prog Try.f78.results.toList = some rv := by kernel_rfl
theorem ca : Callable Try.prog 78 = true := by kernel_rfl
theorem enter {args : List SV} {F : Hp} {k nk : Nat} {Q : SV → Hp → Prop} (hargs : SV.oks (fun n => decide (n < k)) args = true) (hF : F.ok (fun n => decide (n < k)) = true) (hN : args.length ≤ 12)
    (h : SW Try.prog 12 k s ⟨argE 0 args, F, k⟩ fun e st' => match e with | .normal => Fin k nk rv Q st' | .ret => Fin k nk rv Q st' | _ => False) : SB Try.prog 78 args F k nk Q :=
  SB.of_body Try.func78 b c r ca hargs hF hN h
end tree_Tree_none
/-! ### tranter.tranterref04.Covers -/
namespace ref04_Covers
abbrev f : Nat := 79
def s : SCo := (.seq
(.reg [⟨(some 2), .box 35 (.t 0), none⟩,
⟨(some 3), .box 33 (.t 1), none⟩,
⟨(some 4), .mv (.k (.d (.bool false))), none⟩] (fullB 3) false)
(.seq
(.reg [⟨(some 5), .load (some 2) (.t 3), none⟩,
⟨(some 6), .call (.k (.fn (.func 140) [] [])) [(.t 5)], none⟩,
⟨(some 7), .mv (.t 6), none⟩,
⟨(some 8), .fld 1 (.t 3), some (7, true)⟩,
⟨(some 9), .load none (.t 8), some (7, true)⟩,
⟨(some 10), .fld 0 (.t 3), some (7, true)⟩,
⟨(some 11), .load none (.t 10), some (7, true)⟩,
⟨(some 12), .idxA 8 1 (.t 2) (.t 11), some (7, true)⟩,
⟨(some 13), .load none (.t 12), some (7, true)⟩,
⟨(some 14), .bin .leq (.t 9) (.t 13), some (7, true)⟩,
⟨(some 15), .pick (.t 7) (.t 14) (.k (.d (.bool false))), none⟩,
⟨(some 4), .mv (.t 15), none⟩] [0,
1,
3,
7,
15,
7,
39,
103,
231,
511,
1023,
2047] true)
.ret))
def rv : List RV := [.tmp 4]
/-! live ref04_Covers: [0, 1, 2, 3, 4] -/
theorem c : cK Try.prog Try.f79.ntmps (Try.f79.body.getD .ret) = some s := by kernel_rfl
theorem b : Try.f79.body = some (Try.f79.body.getD .ret) := by kernel_rfl
theorem r : cRV Try.prog Try.f79.results.toList = some rv := by kernel_rfl
theorem ca : Callable Try.prog 79 = true := by kernel_rfl
theorem enter {args : List SV} {F : Hp} {k nk : Nat} {Q : SV → Hp → Prop} (hargs : SV.oks (fun n => decide (n < k)) args = true) (hF : F.ok (fun n => decide (n < k)) = true) (hN : args.length ≤ 16)
    (h : SW Try.prog 16 k s ⟨argE 0 args, F, k⟩ fun e st' => match e with | .normal => Fin k nk rv Q st' | .ret => Fin k nk rv Q st' | _ => False) : SB Try.prog 79 args F k nk Q :=
  SB.of_body Try.func79 b c r ca hargs hF hN h
end ref04_Covers
/-! ### tranter.tranterref16.get -/
namespace ref16_get
abbrev f : Nat := 98
def s : SCo := (.seq
(.reg [⟨(some 4), .box 33 (.t 1), none⟩,
⟨(some 6), .alloc 41 [(.d (.int .u8 0)), (.d (.int .u32 0)), (.d (.int .u8 0)), (.d (.int .u32 0)), (.d (.int .u8 0)), (.d (.int .u32 0)), (.d (.int .u32 0)), (.d (.int .u8 0)), (.d (.int .u8 0)), (.d (.int .u64 0)), (.d (.int .i64 0))], none⟩,
⟨(some 7), .mv (.k (.d (.bool false))), none⟩] (fullB 3) false)
(.seq
(.reg [⟨(some 13), .mv (.t 0), none⟩,
⟨(some 14), .load (some 2) (.t 4), none⟩,
⟨(some 15), .call (.k (.fn (.func 25) [] [])) [(.t 13), (.t 14)], none⟩,
⟨(some 12), .mv (.t 15), none⟩,
⟨(some 16), .ext 0 (.t 12), none⟩,
⟨(some 17), .ext 1 (.t 12), none⟩,
⟨(some 8), .alloc 39 [(.d (.int .u8 0)), (.d (.int .u32 0)), (.d (.int .u32 0)), (.d (.int .u32 0)), (.d (.int .u32 0)), (.d (.int .u32 0)), (.d (.int .u32 0)), (.d (.int .u32 0)), (.d (.int .u32 0)), (.d (.int .u32 0)), (.d (.int .u64 0)), (.d (.int .u32 0)), (.d (.int .u8 0)), (.d (.int .u32 0)), (.d (.int .u8 0)), (.d (.int .u8 0)), (.d (.int .u32 0)), (.d (.int .u32 0)), (.d (.int .u8 0)), (.d (.int .u8 0)), (.d (.int .u64 0)), (.d (.int .u8 0)), (.d (.int .u32 0)), (.d (.int .u8 0)), (.d (.int .u32 0)), (.d (.int .u32 0)), (.d (.int .u32 0)), (.d (.int .u32 0)), (.d .nils)], none⟩,
⟨none, .store 29 (.t 8) (.t 16), none⟩,
⟨(some 9), .mv (.t 17), none⟩] (fullB 9) false)
(.seq
(.seq
 (.reg [⟨(some 18), .mv (.t 9), none⟩,
⟨(some 19), .not (.t 18), none⟩,
⟨(some 20), .mv (.t 19), none⟩,
⟨(some 21), .mv (.t 2), some (20, false)⟩,
⟨(some 22), .bin .eql (.t 21) (.k (.d (.int .i64 0))), some (20, false)⟩,
⟨(some 23), .pick (.t 20) (.k (.d (.bool true))) (.t 22), none⟩] (fullB 6) false)
 (.cond (.t 23)
 (.seq
 (.reg [⟨(some 24), .bld [(.d (.int .u8 0)), (.d (.int .u32 0)), (.d (.int .u8 0)), (.d (.int .u32 0)), (.d (.int .u8 0)), (.d (.int .u32 0)), (.d (.int .u32 0)), (.d (.int .u8 0)), (.d (.int .u8 0)), (.d (.int .u64 0)), (.d (.int .i64 0))] [], none⟩,
⟨none, .store 11 (.t 6) (.t 24), none⟩,
⟨(some 7), .mv (.k (.d (.bool false))), none⟩] (fullB 3) false)
 .ret)
 .skip))
(.seq
 (.seq
 (.reg [⟨(some 25), .fld 14 (.t 8), none⟩,
⟨(some 26), .load none (.t 25), none⟩,
⟨(some 27), .bin .eql (.t 26) (.k (.d (.int .u8 0))), none⟩] (fullB 3) false)
 (.cond (.t 27)
 (.seq
 (.reg [⟨(some 28), .load (some 2) (.t 4), none⟩,
⟨(some 29), .load (some 2) (.t 4), none⟩,
⟨(some 30), .fld 11 (.t 8), none⟩,
⟨(some 31), .load none (.t 30), none⟩,
⟨(some 32), .bld [(.d (.int .u8 0)), (.d (.int .u32 0)), (.d (.int .u8 0)), (.d (.int .u32 0)), (.d (.int .u8 0)), (.d (.int .u32 0)), (.d (.int .u32 0)), (.d (.int .u8 0)), (.d (.int .u8 0)), (.d (.int .u64 0)), (.d (.int .i64 0))] [(0, 2, (.t 28)), (2, 2, (.t 29)), (6, 1, (.t 31)), (7, 1, (.k (.d (.int .u8 7)))), (8, 1, (.k (.d (.int .u8 8)))), (9, 1, (.k (.d (.int .u64 1099511627776))))], none⟩,
⟨(some 33), .fld 12 (.t 8), none⟩,
⟨(some 34), .load (some 2) (.t 33), none⟩,
⟨(some 35), .load (some 2) (.t 4), none⟩,
⟨(some 36), .eqv false [true, true] (.t 34) (.t 35), none⟩,
⟨none, .store 11 (.t 6) (.t 32), none⟩,
⟨(some 7), .mv (.t 36), none⟩] [0,
0,
0,
4,
15,
0,
32,
0,
224,
31,
1023] true)
 .ret)
 .skip))
 (.seq
 (.reg [⟨(some 38), .mv (.t 0), none⟩,
⟨(some 39), .load (some 29) (.t 8), none⟩,
⟨(some 40), .mv (.t 2), none⟩,
⟨(some 41), .call (.k (.fn (.func 111) [] [])) [(.t 38), (.t 39), (.t 40)], none⟩,
⟨(some 37), .mv (.t 41), none⟩,
⟨(some 42), .ext 0 (.t 37), none⟩,
⟨(some 43), .ext 1 (.t 37), none⟩,
⟨(some 10), .alloc 41 [(.d (.int .u8 0)), (.d (.int .u32 0)), (.d (.int .u8 0)), (.d (.int .u32 0)), (.d (.int .u8 0)), (.d (.int .u32 0)), (.d (.int .u32 0)), (.d (.int .u8 0)), (.d (.int .u8 0)), (.d (.int .u64 0)), (.d (.int .i64 0))], none⟩,
⟨none, .store 11 (.t 10) (.t 42), none⟩,
⟨(some 11), .mv (.t 43), none⟩] (fullB 10) false)
 (.seq
 (.seq
 (.reg [⟨(some 44), .mv (.t 11), none⟩,
⟨(some 45), .bin .neq (.t 44) (.k (.d (.int .i64 0))), none⟩] (fullB 2) false)
 (.cond (.t 45)
  (.seq
  (.reg [⟨(some 46), .bld [(.d (.int .u8 0)), (.d (.int .u32 0)), (.d (.int .u8 0)), (.d (.int .u32 0)), (.d (.int .u8 0)), (.d (.int .u32 0)), (.d (.int .u32 0)), (.d (.int .u8 0)), (.d (.int .u8 0)), (.d (.int .u64 0)), (.d (.int .i64 0))] [], none⟩,
⟨none, .store 11 (.t 6) (.t 46), none⟩,
⟨(some 7), .mv (.k (.d (.bool false))), none⟩] (fullB 3) false)
  .ret)
  .skip))
 (.seq
 (.reg (⟨(some 47), .load (some 2) (.t 4), none⟩ ::
⟨(some 48), .fld 12 (.t 8), none⟩ ::
⟨(some 49), .load (some 2) (.t 48), none⟩ ::
⟨(some 50), .fld 15 (.t 8), none⟩ ::
⟨(some 51), .load (some 2) (.t 50), none⟩ ::
⟨(some 52), .fld 17 (.t 8), none⟩ ::
⟨(some 53), .load none (.t 52), none⟩ ::
⟨(some 54), .fld 18 (.t 8), none⟩ ::
⟨(some 55), .load none (.t 54), none⟩ ::
⟨(some 56), .fld 19 (.t 8), none⟩ ::
⟨(some 57), .load none (.t 56), none⟩ ::
⟨(some 58), .fld 20 (.t 8), none⟩ ::
⟨(some 59), .load none (.t 58), none⟩ ::
⟨(some 60), .fld 10 (.t 10), none⟩ ::
⟨(some 61), .load none (.t 60), none⟩ ::
⟨(some 62), .bin .add (.t 61) (.k (.d (.int .i64 1))), none⟩ ::
⟨(some 63), .bld [(.d (.int .u8 0)), (.d (.int .u32 0)), (.d (.int .u8 0)), (.d (.int .u32 0)), (.d (.int .u8 0)), (.d (.int .u32 0)), (.d (.int .u32 0)), (.d (.int .u8 0)), (.d (.int .u8 0)), (.d (.int .u64 0)), (.d (.int .i64 0))] [(0, 2, (.t 47)), (2, 2, (.t 49)), (4, 2, (.t 51)), (6, 1, (.t 53)), (7, 1, (.t 55)), (8, 1, (.t 57)), (9, 1, (.t 59)), (10, 1, (.t 62))], none⟩ ::
⟨none, .store 11 (.t 6) (.t 63), none⟩ ::
⟨(some 7), .mv (.k (.d (.bool true))), none⟩ :: []) (fullB 19) false)
 .ret)))))))
def rv : List RV := [.cell 6 (some 11), .tmp 7]
/-! live ref16_get: [0, 1, 2, 4, 6, 7, 8, 9, 10, 11, 23, 27, 45] -/
theorem c : cK Try.prog Try.f98.ntmps (Try.f98.body.getD .ret) = some s := by kernel_rfl
theorem b : Try.f98.body = some (Try.f98.body.getD .ret) := by kernel_rfl
theorem r : cRV Try.prog Try.f98.results.toList = some rv := by kernel_rfl
theorem ca : Callable Try.prog 98 = true := by kernel_rfl
theorem enter {args : List SV} {F : Hp} {k nk : Nat} {Q : SV → Hp → Prop} (hargs : SV.oks (fun n => decide (n < k)) args = true) (hF : F.ok (fun n => decide (n < k)) = true) (hN : args.length ≤ 64)
    (h : SW Try.prog 64 k s ⟨argE 0 args, F, k⟩ fun e st' => match e with | .normal => Fin k nk rv Q st' | .ret => Fin k nk rv Q st' | _ => False) : SB Try.prog 98 args F k nk Q :=
  SB.of_body Try.func98 b c r ca hargs hF hN h
end ref16_get
/-! ### tranter.tranterref03.Sort -/
namespace ref03_Sort
abbrev f : Nat := 99
def s : SCo := (.seq
(.reg [⟨(some 2), .mv (.k (.d .nils)), none⟩] (fullB 1) false)
(.seq
(.reg [⟨(some 3), .mv (.k (.d .nils)), none⟩] (fullB 1) false)
(.seq
(.seq
 (.reg [⟨(some 4), .mv (.k (.d (.int .i64 0))), none⟩] (fullB 1) false)
 (.block 0
 (.loop
 (.seq
 (.seq
  (.reg [⟨(some 5), .mv (.t 4), none⟩,
⟨(some 6), .mv (.t 0), none⟩,
⟨(some 7), .len (.t 6), none⟩,
⟨(some 8), .bin .lss (.t 5) (.t 7), none⟩] (fullB 4) false)
  (.cond (.t 8)
  .skip
  (.exit 0)))
 (.seq
  (.block 1
  (.reg [⟨(some 11), .mv (.t 3), none⟩,
⟨(some 12), .mv (.t 0), none⟩,
⟨(some 13), .mv (.t 4), none⟩,
⟨(some 14), .idxS 2 (.t 12) (.t 13), none⟩,
⟨(some 15), .load (some 2) (.t 14), none⟩,
⟨(some 16), .call (.k (.fn (.func 154) [] [])) [(.t 11), (.t 15)], none⟩,
⟨(some 3), .mv (.t 16), none⟩] (fullB 7) false))
  (.reg [⟨(some 9), .mv (.t 4), none⟩,
⟨(some 10), .bin .add (.t 9) (.k (.d (.int .i64 1))), none⟩,
⟨(some 4), .mv (.t 10), none⟩] (fullB 3) false))))))
(.seq
 (.reg [⟨(some 17), .mv (.t 3), none⟩,
⟨(some 2), .mv (.t 17), none⟩] (fullB 2) false)
 .ret))))
def rv : List RV := [.tmp 2]
/-! live ref03_Sort: [0, 2, 3, 4, 8] -/
theorem c : cK Try.prog Try.f99.ntmps (Try.f99.body.getD .ret) = some s := by kernel_rfl
theorem b : Try.f99.body = some (Try.f99.body.getD .ret) := by kernel_rfl
theorem r : cRV Try.prog Try.f99.results.toList = some rv := by kernel_rfl
theorem ca : Callable Try.prog 99 = true := by kernel_rfl
theorem enter {args : List SV} {F : Hp} {k nk : Nat} {Q : SV → Hp → Prop} (hargs : SV.oks (fun n => decide (n < k)) args = true) (hF : F.ok (fun n => decide (n < k)) = true) (hN : args.length ≤ 18)
    (h : SW Try.prog 18 k s ⟨argE 0 args, F, k⟩ fun e st' => match e with | .normal => Fin k nk rv Q st' | .ret => Fin k nk rv Q st' | _ => False) : SB Try.prog 99 args F k nk Q :=
  SB.of_body Try.func99 b c r ca hargs hF hN h
end ref03_Sort
/-! ### (tranter.tree.Tree).All$1 -/
namespace tree_Tree_All_1
abbrev f : Nat := 101
def s : SCo := (.seq
(.reg [⟨(some 2), .box 41 (.t 0), none⟩,
⟨(some 3), .box 41 (.t 1), none⟩,
⟨(some 4), .mv (.k (.d (.int .i64 0))), none⟩] (fullB 3) false)
(.seq
(.reg [⟨(some 5), .fld 10 (.t 2), none⟩,
⟨(some 6), .load none (.t 5), none⟩,
⟨(some 7), .fld 10 (.t 3), none⟩,
⟨(some 8), .load none (.t 7), none⟩,
⟨(some 9), .call (.k (.fn (.func 103) [] [])) [(.t 6), (.t 8)], none⟩,
⟨(some 10), .fld 0 (.t 2), none⟩,
⟨(some 11), .load (some 2) (.t 10), none⟩,
⟨(some 12), .fld 0 (.t 3), none⟩,
⟨(some 13), .load (some 2) (.t 12), none⟩,
⟨(some 14), .call (.k (.fn (.func 104) [] [])) [(.t 11), (.t 13)], none⟩,
⟨(some 15), .bsl 3 1 2 [(.d (.int .i64 0)), (.d (.int .i64 0))] [(0, 1, (.t 9)), (1, 1, (.t 14))], none⟩,
⟨(some 16), .call (.k (.fn (.func 102) [] [])) [(.t 15)], none⟩,
⟨(some 4), .mv (.t 16), none⟩] [0,
1,
0,
4,
15,
0,
32,
0,
128,
511,
1023,
2047,
4095] true)
.ret))
def rv : List RV := [.tmp 4]
/-! live tree_Tree_All_1: [0, 1, 2, 3, 4] -/
theorem c : cK Try.prog Try.f101.ntmps (Try.f101.body.getD .ret) = some s := by kernel_rfl
theorem b : Try.f101.body = some (Try.f101.body.getD .ret) := by kernel_rfl
theorem r : cRV Try.prog Try.f101.results.toList = some rv := by kernel_rfl
theorem ca : Callable Try.prog 101 = true := by kernel_rfl
theorem enter {args : List SV} {F : Hp} {k nk : Nat} {Q : SV → Hp → Prop} (hargs : SV.oks (fun n => decide (n < k)) args = true) (hF : F.ok (fun n => decide (n < k)) = true) (hN : args.length ≤ 17)
    (h : SW Try.prog 17 k s ⟨argE 0 args, F, k⟩ fun e st' => match e with | .normal => Fin k nk rv Q st' | .ret => Fin k nk rv Q st' | _ => False) : SB Try.prog 101 args F k nk Q :=
  SB.of_body Try.func101 b c r ca hargs hF hN h
end tree_Tree_All_1
/-! ### cmp.Or[int] -/
namespace cmp_Or_int
abbrev f : Nat := 102
def s : SCo := (.seq
(.reg [⟨(some 2), .mv (.k (.d (.int .i64 0))), none⟩] (fullB 1) false)
(.seq
(.reg [⟨(some 3), .mv (.k (.d (.int .i64 0))), none⟩] (fullB 1) false)
(.seq
(.seq
 (.reg [⟨(some 6), .mv (.t 0), none⟩,
⟨(some 7), .len (.t 6), none⟩,
⟨(some 8), .mv (.k (.d (.int .i64 0))), none⟩] (fullB 3) false)
 (.block 0
 (.loop
 (.seq
 (.reg [⟨(some 9), .bin .lss (.t 8) (.t 7), none⟩] (fullB 1) false)
 (.seq
  (.cond (.t 9)
  .skip
  (.exit 0))
  (.seq
  (.block 1
  (.seq
  (.reg [⟨(some 10), .idxS 1 (.t 6) (.t 8), none⟩,
⟨(some 11), .load none (.t 10), none⟩,
⟨(some 5), .mv (.t 11), none⟩] (fullB 3) false)
  (.seq
   (.reg [⟨(some 12), .mv (.t 5), none⟩,
⟨(some 13), .mv (.t 3), none⟩,
⟨(some 14), .bin .neq (.t 12) (.t 13), none⟩] (fullB 3) false)
   (.cond (.t 14)
   (.seq
   (.reg [⟨(some 15), .mv (.t 5), none⟩,
⟨(some 2), .mv (.t 15), none⟩] (fullB 2) false)
   .ret)
   .skip))))
  (.reg [⟨(some 16), .bin .add (.t 8) (.k (.d (.int .i64 1))), none⟩,
⟨(some 8), .mv (.t 16), none⟩] (fullB 2) false)))))))
(.seq
 (.reg [⟨(some 17), .mv (.t 3), none⟩,
⟨(some 2), .mv (.t 17), none⟩] (fullB 2) false)
 .ret))))
def rv : List RV := [.tmp 2]
/-! live cmp_Or_int: [0, 2, 3, 5, 6, 7, 8, 9, 14] -/
theorem c : cK Try.prog Try.f102.ntmps (Try.f102.body.getD .ret) = some s := by kernel_rfl
theorem b : Try.f102.body = some (Try.f102.body.getD .ret) := by kernel_rfl
theorem r : cRV Try.prog Try.f102.results.toList = some rv := by kernel_rfl
theorem ca : Callable Try.prog 102 = true := by kernel_rfl
theorem enter {args : List SV} {F : Hp} {k nk : Nat} {Q : SV → Hp → Prop} (hargs : SV.oks (fun n => decide (n < k)) args = true) (hF : F.ok (fun n => decide (n < k)) = true) (hN : args.length ≤ 18)
    (h : SW Try.prog 18 k s ⟨argE 0 args, F, k⟩ fun e st' => match e with | .normal => Fin k nk rv Q st' | .ret => Fin k nk rv Q st' | _ => False) : SB Try.prog 102 args F k nk Q :=
  SB.of_body Try.func102 b c r ca hargs hF hN h
end cmp_Or_int
/-! ### cmp.Compare[int] -/
namespace cmp_Compare_int
abbrev f : Nat := 103
def s : SCo := (.seq
(.reg [⟨(some 4), .mv (.k (.d (.int .i64 0))), none⟩] (fullB 1) false)
(.seq
(.reg [⟨(some 7), .mv (.t 0), none⟩,
⟨(some 8), .call (.k (.fn (.func 157) [] [])) [(.t 7)], none⟩,
⟨(some 5), .mv (.t 8), none⟩] (fullB 3) false)
(.seq
(.reg [⟨(some 9), .mv (.t 1), none⟩,
⟨(some 10), .call (.k (.fn (.func 157) [] [])) [(.t 9)], none⟩,
⟨(some 6), .mv (.t 10), none⟩] (fullB 3) false)
(.seq
 (.seq
 (.reg [⟨(some 11), .mv (.t 5), none⟩] (fullB 1) false)
 (.cond (.t 11)
 (.seq
 (.seq
  (.reg [⟨(some 12), .mv (.t 6), none⟩] (fullB 1) false)
  (.cond (.t 12)
  (.seq
  (.reg [⟨(some 4), .mv (.k (.d (.int .i64 0))), none⟩] (fullB 1) false)
  .ret)
  .skip))
 (.seq
  (.reg [⟨(some 4), .mv (.k (.d (.int .i64 (-1)))), none⟩] (fullB 1) false)
  .ret))
 .skip))
 (.seq
 (.seq
 (.reg [⟨(some 13), .mv (.t 6), none⟩] (fullB 1) false)
 (.cond (.t 13)
 (.seq
  (.reg [⟨(some 4), .mv (.k (.d (.int .i64 1))), none⟩] (fullB 1) false)
  .ret)
 .skip))
 (.seq
 (.seq
 (.reg [⟨(some 14), .mv (.t 0), none⟩,
⟨(some 15), .mv (.t 1), none⟩,
⟨(some 16), .bin .lss (.t 14) (.t 15), none⟩] (fullB 3) false)
 (.cond (.t 16)
  (.seq
  (.reg [⟨(some 4), .mv (.k (.d (.int .i64 (-1)))), none⟩] (fullB 1) false)
  .ret)
  .skip))
 (.seq
 (.seq
  (.reg [⟨(some 17), .mv (.t 0), none⟩,
⟨(some 18), .mv (.t 1), none⟩,
⟨(some 19), .bin .gtr (.t 17) (.t 18), none⟩] (fullB 3) false)
  (.cond (.t 19)
  (.seq
  (.reg [⟨(some 4), .mv (.k (.d (.int .i64 1))), none⟩] (fullB 1) false)
  .ret)
  .skip))
 (.seq
  (.reg [⟨(some 4), .mv (.k (.d (.int .i64 0))), none⟩] (fullB 1) false)
  .ret))))))))
def rv : List RV := [.tmp 4]
/-! live cmp_Compare_int: [0, 1, 4, 5, 6, 11, 12, 13, 16, 19] -/
theorem c : cK Try.prog Try.f103.ntmps (Try.f103.body.getD .ret) = some s := by kernel_rfl
theorem b : Try.f103.body = some (Try.f103.body.getD .ret) := by kernel_rfl
theorem r : cRV Try.prog Try.f103.results.toList = some rv := by kernel_rfl
theorem ca : Callable Try.prog 103 = true := by kernel_rfl
theorem enter {args : List SV} {F : Hp} {k nk : Nat} {Q : SV → Hp → Prop} (hargs : SV.oks (fun n => decide (n < k)) args = true) (hF : F.ok (fun n => decide (n < k)) = true) (hN : args.length ≤ 20)
    (h : SW Try.prog 20 k s ⟨argE 0 args, F, k⟩ fun e st' => match e with | .normal => Fin k nk rv Q st' | .ret => Fin k nk rv Q st' | _ => False) : SB Try.prog 103 args F k nk Q :=
  SB.of_body Try.func103 b c r ca hargs hF hN h
end cmp_Compare_int
/-! ### tranter.dot.Compare -/
namespace dot_Compare
abbrev f : Nat := 104
def s : SCo := (.seq
(.reg [⟨(some 2), .box 33 (.t 0), none⟩,
⟨(some 3), .box 33 (.t 1), none⟩,
⟨(some 4), .mv (.k (.d (.int .i64 0))), none⟩] (fullB 3) false)
(.seq
(.reg [⟨(some 5), .fld 0 (.t 2), none⟩,
⟨(some 6), .load none (.t 5), none⟩,
⟨(some 7), .fld 0 (.t 3), none⟩,
⟨(some 8), .load none (.t 7), none⟩,
⟨(some 9), .call (.k (.fn (.func 158) [] [])) [(.t 6), (.t 8)], none⟩,
⟨(some 10), .fld 1 (.t 2), none⟩,
⟨(some 11), .load none (.t 10), none⟩,
⟨(some 12), .fld 1 (.t 3), none⟩,
⟨(some 13), .load none (.t 12), none⟩,
⟨(some 14), .call (.k (.fn (.func 159) [] [])) [(.t 11), (.t 13)], none⟩,
⟨(some 15), .bsl 3 1 2 [(.d (.int .i64 0)), (.d (.int .i64 0))] [(0, 1, (.t 9)), (1, 1, (.t 14))], none⟩,
⟨(some 16), .call (.k (.fn (.func 102) [] [])) [(.t 15)], none⟩,
⟨(some 4), .mv (.t 16), none⟩] [0,
1,
0,
4,
15,
0,
32,
0,
128,
511,
1023,
2047,
4095] true)
.ret))
def rv : List RV := [.tmp 4]
/-! live dot_Compare: [0, 1, 2, 3, 4] -/
theorem c : cK Try.prog Try.f104.ntmps (Try.f104.body.getD .ret) = some s := by kernel_rfl
theorem b : Try.f104.body = some (Try.f104.body.getD .ret) := by kernel_rfl
theorem r : cRV Try.prog Try.f104.results.toList = some rv := by kernel_rfl
theorem ca : Callable Try.prog 104 = true := by kernel_rfl
theorem enter {args : List SV} {F : Hp} {k nk : Nat} {Q : SV → Hp → Prop} (hargs : SV.oks (fun n => decide (n < k)) args = true) (hF : F.ok (fun n => decide (n < k)) = true) (hN : args.length ≤ 17)
    (h : SW Try.prog 17 k s ⟨argE 0 args, F, k⟩ fun e st' => match e with | .normal => Fin k nk rv Q st' | .ret => Fin k nk rv Q st' | _ => False) : SB Try.prog 104 args F k nk Q :=
  SB.of_body Try.func104 b c r ca hargs hF hN h
end dot_Compare
/-! ### (tranter.tree.Tree).Why$1 -/
namespace tree_Tree_Why_1
abbrev f : Nat := 105
def s : SCo := (.seq
(.reg [⟨(some 1), .mv (.k (.d (.bool false))), none⟩] (fullB 1) false)
(.seq
(.reg [⟨(some 2), .fld 14 (.t 0), none⟩,
⟨(some 3), .load none (.t 2), none⟩,
⟨(some 4), .bin .neq (.t 3) (.k (.d (.int .u8 1))), none⟩,
⟨(some 1), .mv (.t 4), none⟩] (fullB 4) false)
.ret))
def rv : List RV := [.tmp 1]
/-! live tree_Tree_Why_1: [0, 1] -/
theorem c : cK Try.prog Try.f105.ntmps (Try.f105.body.getD .ret) = some s := by kernel_rfl
theorem b : Try.f105.body = some (Try.f105.body.getD .ret) := by kernel_rfl
theorem r : cRV Try.prog Try.f105.results.toList = some rv := by kernel_rfl
theorem ca : Callable Try.prog 105 = true := by kernel_rfl
theorem enter {args : List SV} {F : Hp} {k nk : Nat} {Q : SV → Hp → Prop} (hargs : SV.oks (fun n => decide (n < k)) args = true) (hF : F.ok (fun n => decide (n < k)) = true) (hN : args.length ≤ 5)
    (h : SW Try.prog 5 k s ⟨argE 0 args, F, k⟩ fun e st' => match e with | .normal => Fin k nk rv Q st' | .ret => Fin k nk rv Q st' | _ => False) : SB Try.prog 105 args F k nk Q :=
  SB.of_body Try.func105 b c r ca hargs hF hN h
end tree_Tree_Why_1
/-! ### (tranter.tree.Tree).Why$2 -/
namespace tree_Tree_Why_2
abbrev f : Nat := 106
def s : SCo := (.seq
(.reg [⟨(some 4), .mv (.k (.d (.bool false))), none⟩] (fullB 1) false)
(.seq
(.reg (⟨(some 5), .load none (.t 0), none⟩ ::
⟨(some 6), .not (.t 5), none⟩ ::
⟨(some 7), .mv (.t 6), none⟩ ::
⟨(some 8), .fld 2 (.t 1), some (7, false)⟩ ::
⟨(some 9), .load (some 2) (.t 8), some (7, false)⟩ ::
⟨(some 10), .fld 12 (.t 2), some (7, false)⟩ ::
⟨(some 11), .load (some 2) (.t 10), some (7, false)⟩ ::
⟨(some 12), .eqv true [true, true] (.t 9) (.t 11), some (7, false)⟩ ::
⟨(some 13), .pick (.t 7) (.k (.d (.bool true))) (.t 12), none⟩ ::
⟨(some 14), .mv (.t 13), none⟩ ::
⟨(some 15), .load none (.t 3), some (14, false)⟩ ::
⟨(some 16), .nilc (.t 15), some (14, false)⟩ ::
⟨(some 17), .fld 1 (.t 16), some (14, false)⟩ ::
⟨(some 18), .load none (.t 17), some (14, false)⟩ ::
⟨(some 19), .fld 15 (.t 2), some (14, false)⟩ ::
⟨(some 20), .load (some 2) (.t 19), some (14, false)⟩ ::
⟨(some 21), .look [true, true] true (.agg [(.d (.int .u8 0)), (.d (.int .u32 0)), (.d (.int .u32 0)), (.d (.int .u32 0)), (.d (.int .u32 0)), (.d (.int .u32 0)), (.d (.int .u32 0)), (.d (.int .u32 0)), (.d (.int .u32 0)), (.d (.int .u32 0)), (.d (.int .u64 0)), (.d (.int .u32 0)), (.d (.int .u8 0)), (.d (.int .u32 0)), (.d (.int .u8 0)), (.d (.int .u8 0)), (.d (.int .u32 0)), (.d (.int .u32 0)), (.d (.int .u8 0)), (.d (.int .u8 0)), (.d (.int .u64 0)), (.d (.int .u8 0)), (.d (.int .u32 0)), (.d (.int .u8 0)), (.d (.int .u32 0)), (.d (.int .u32 0)), (.d (.int .u32 0)), (.d (.int .u32 0)), (.d .nils)]) (.t 18) (.t 20) false, some (14, false)⟩ ::
⟨(some 22), .load (some 29) (.t 2), some (14, false)⟩ ::
⟨(some 23), .call (.k (.fn (.func 107) [] [])) [(.t 21), (.t 22)], some (14, false)⟩ ::
⟨(some 24), .not (.t 23), some (14, false)⟩ ::
⟨(some 25), .pick (.t 14) (.k (.d (.bool true))) (.t 24), none⟩ ::
⟨(some 4), .mv (.t 25), none⟩ :: []) (0 ::
1 ::
3 ::
7 ::
15 ::
7 ::
39 ::
127 ::
255 ::
511 ::
1023 ::
2047 ::
4095 ::
8191 ::
1023 ::
17407 ::
65535 ::
1023 ::
262143 ::
524287 ::
1048575 ::
2097151 :: []) true)
.ret))
def rv : List RV := [.tmp 4]
/-! live tree_Tree_Why_2: [0, 1, 2, 3, 4] -/
theorem c : cK Try.prog Try.f106.ntmps (Try.f106.body.getD .ret) = some s := by kernel_rfl
theorem b : Try.f106.body = some (Try.f106.body.getD .ret) := by kernel_rfl
theorem r : cRV Try.prog Try.f106.results.toList = some rv := by kernel_rfl
theorem ca : Callable Try.prog 106 = true := by kernel_rfl
theorem enter {args : List SV} {F : Hp} {k nk : Nat} {Q : SV → Hp → Prop} (hargs : SV.oks (fun n => decide (n < k)) args = true) (hF : F.ok (fun n => decide (n < k)) = true) (hN : args.length ≤ 26)
    (h : SW Try.prog 26 k s ⟨argE 0 args, F, k⟩ fun e st' => match e with | .normal => Fin k nk rv Q st' | .ret => Fin k nk rv Q st' | _ => False) : SB Try.prog 106 args F k nk Q :=
  SB.of_body Try.func106 b c r ca hargs hF hN h
end tree_Tree_Why_2
/-! ### tranter.order.Before -/
namespace order_Before
abbrev f : Nat := 107
def s : SCo := (.seq
(.reg [⟨(some 2), .box 39 (.t 0), none⟩,
⟨(some 3), .box 39 (.t 1), none⟩,
⟨(some 4), .mv (.k (.d (.bool false))), none⟩] (fullB 3) false)
(.seq
(.reg [⟨(some 5), .fld 2 (.t 3), none⟩,
⟨(some 6), .load (some 8) (.t 5), none⟩,
⟨(some 7), .fld 0 (.t 2), none⟩,
⟨(some 8), .load (some 2) (.t 7), none⟩,
⟨(some 9), .call (.k (.fn (.func 160) [] [])) [(.t 6), (.t 8)], none⟩,
⟨(some 4), .mv (.t 9), none⟩] (fullB 6) false)
.ret))
def rv : List RV := [.tmp 4]
/-! live order_Before: [0, 1, 2, 3, 4] -/
theorem c : cK Try.prog Try.f107.ntmps (Try.f107.body.getD .ret) = some s := by kernel_rfl
theorem b : Try.f107.body = some (Try.f107.body.getD .ret) := by kernel_rfl
theorem r : cRV Try.prog Try.f107.results.toList = some rv := by kernel_rfl
theorem ca : Callable Try.prog 107 = true := by kernel_rfl
theorem enter {args : List SV} {F : Hp} {k nk : Nat} {Q : SV → Hp → Prop} (hargs : SV.oks (fun n => decide (n < k)) args = true) (hF : F.ok (fun n => decide (n < k)) = true) (hN : args.length ≤ 10)
    (h : SW Try.prog 10 k s ⟨argE 0 args, F, k⟩ fun e st' => match e with | .normal => Fin k nk rv Q st' | .ret => Fin k nk rv Q st' | _ => False) : SB Try.prog 107 args F k nk Q :=
  SB.of_body Try.func107 b c r ca hargs hF hN h
end order_Before
/-! ### (tranter.tree.Tree).Why$3 -/
namespace tree_Tree_Why_3
abbrev f : Nat := 108
def s : SCo := (.seq
(.reg [⟨(some 2), .mv (.k (.d (.bool false))), none⟩] (fullB 1) false)
(.seq
(.reg [⟨(some 3), .fld 6 (.t 0), none⟩,
⟨(some 4), .load none (.t 3), none⟩,
⟨(some 5), .fld 11 (.t 1), none⟩,
⟨(some 6), .load none (.t 5), none⟩,
⟨(some 7), .bin .neq (.t 4) (.t 6), none⟩,
⟨(some 2), .mv (.t 7), none⟩] (fullB 6) false)
.ret))
def rv : List RV := [.tmp 2]
/-! live tree_Tree_Why_3: [0, 1, 2] -/
theorem c : cK Try.prog Try.f108.ntmps (Try.f108.body.getD .ret) = some s := by kernel_rfl
theorem b : Try.f108.body = some (Try.f108.body.getD .ret) := by kernel_rfl
theorem r : cRV Try.prog Try.f108.results.toList = some rv := by kernel_rfl
theorem ca : Callable Try.prog 108 = true := by kernel_rfl
theorem enter {args : List SV} {F : Hp} {k nk : Nat} {Q : SV → Hp → Prop} (hargs : SV.oks (fun n => decide (n < k)) args = true) (hF : F.ok (fun n => decide (n < k)) = true) (hN : args.length ≤ 8)
    (h : SW Try.prog 8 k s ⟨argE 0 args, F, k⟩ fun e st' => match e with | .normal => Fin k nk rv Q st' | .ret => Fin k nk rv Q st' | _ => False) : SB Try.prog 108 args F k nk Q :=
  SB.of_body Try.func108 b c r ca hargs hF hN h
end tree_Tree_Why_3
/-! ### (tranter.tree.Tree).Why$4 -/
namespace tree_Tree_Why_4
abbrev f : Nat := 109
def s : SCo := (.seq
(.reg [⟨(some 1), .mv (.k (.d (.bool false))), none⟩] (fullB 1) false)
(.seq
(.reg [⟨(some 2), .fld 7 (.t 0), none⟩,
⟨(some 3), .load none (.t 2), none⟩,
⟨(some 4), .bin .and (.t 3) (.k (.d (.int .u8 1))), none⟩,
⟨(some 5), .bin .eql (.t 4) (.k (.d (.int .u8 0))), none⟩,
⟨(some 1), .mv (.t 5), none⟩] (fullB 5) false)
.ret))
def rv : List RV := [.tmp 1]
/-! live tree_Tree_Why_4: [0, 1] -/
theorem c : cK Try.prog Try.f109.ntmps (Try.f109.body.getD .ret) = some s := by kernel_rfl
theorem b : Try.f109.body = some (Try.f109.body.getD .ret) := by kernel_rfl
theorem r : cRV Try.prog Try.f109.results.toList = some rv := by kernel_rfl
theorem ca : Callable Try.prog 109 = true := by kernel_rfl
theorem enter {args : List SV} {F : Hp} {k nk : Nat} {Q : SV → Hp → Prop} (hargs : SV.oks (fun n => decide (n < k)) args = true) (hF : F.ok (fun n => decide (n < k)) = true) (hN : args.length ≤ 6)
    (h : SW Try.prog 6 k s ⟨argE 0 args, F, k⟩ fun e st' => match e with | .normal => Fin k nk rv Q st' | .ret => Fin k nk rv Q st' | _ => False) : SB Try.prog 109 args F k nk Q :=
  SB.of_body Try.func109 b c r ca hargs hF hN h
end tree_Tree_Why_4
/-! ### (tranter.tree.Tree).Why$5 -/
namespace tree_Tree_Why_5
abbrev f : Nat := 110
def s : SCo := (.seq
(.reg [⟨(some 2), .mv (.k (.d (.bool false))), none⟩] (fullB 1) false)
(.seq
(.reg (⟨(some 3), .fld 18 (.t 0), none⟩ ::
⟨(some 4), .load none (.t 3), none⟩ ::
⟨(some 5), .bin .eql (.t 4) (.k (.d (.int .u8 0))), none⟩ ::
⟨(some 6), .mv (.t 5), none⟩ ::
⟨(some 7), .fld 18 (.t 0), some (6, false)⟩ ::
⟨(some 8), .load none (.t 7), some (6, false)⟩ ::
⟨(some 9), .fld 7 (.t 1), some (6, false)⟩ ::
⟨(some 10), .load none (.t 9), some (6, false)⟩ ::
⟨(some 11), .bin .andNot (.t 8) (.t 10), some (6, false)⟩ ::
⟨(some 12), .bin .neq (.t 11) (.k (.d (.int .u8 0))), some (6, false)⟩ ::
⟨(some 13), .pick (.t 6) (.k (.d (.bool true))) (.t 12), none⟩ ::
⟨(some 14), .mv (.t 13), none⟩ ::
⟨(some 15), .fld 17 (.t 0), some (14, false)⟩ ::
⟨(some 16), .load none (.t 15), some (14, false)⟩ ::
⟨(some 17), .bin .eql (.t 16) (.k (.d (.int .u32 0))), some (14, false)⟩ ::
⟨(some 18), .pick (.t 14) (.k (.d (.bool true))) (.t 17), none⟩ ::
⟨(some 19), .mv (.t 18), none⟩ ::
⟨(some 20), .fld 19 (.t 0), some (19, false)⟩ ::
⟨(some 21), .load none (.t 20), some (19, false)⟩ ::
⟨(some 22), .fld 8 (.t 1), some (19, false)⟩ ::
⟨(some 23), .load none (.t 22), some (19, false)⟩ ::
⟨(some 24), .bin .geq (.t 21) (.t 23), some (19, false)⟩ ::
⟨(some 25), .pick (.t 19) (.k (.d (.bool true))) (.t 24), none⟩ ::
⟨(some 26), .mv (.t 25), none⟩ ::
⟨(some 27), .fld 20 (.t 0), some (26, false)⟩ ::
⟨(some 28), .load none (.t 27), some (26, false)⟩ ::
⟨(some 29), .fld 9 (.t 1), some (26, false)⟩ ::
⟨(some 30), .load none (.t 29), some (26, false)⟩ ::
⟨(some 31), .bin .gtr (.t 28) (.t 30), some (26, false)⟩ ::
⟨(some 32), .pick (.t 26) (.k (.d (.bool true))) (.t 31), none⟩ ::
⟨(some 2), .mv (.t 32), none⟩ :: []) (fullB 31) false)
.ret))
def rv : List RV := [.tmp 2]
/-! live tree_Tree_Why_5: [0, 1, 2] -/
theorem c : cK Try.prog Try.f110.ntmps (Try.f110.body.getD .ret) = some s := by kernel_rfl
theorem b : Try.f110.body = some (Try.f110.body.getD .ret) := by kernel_rfl
theorem r : cRV Try.prog Try.f110.results.toList = some rv := by kernel_rfl
theorem ca : Callable Try.prog 110 = true := by kernel_rfl
theorem enter {args : List SV} {F : Hp} {k nk : Nat} {Q : SV → Hp → Prop} (hargs : SV.oks (fun n => decide (n < k)) args = true) (hF : F.ok (fun n => decide (n < k)) = true) (hN : args.length ≤ 33)
    (h : SW Try.prog 33 k s ⟨argE 0 args, F, k⟩ fun e st' => match e with | .normal => Fin k nk rv Q st' | .ret => Fin k nk rv Q st' | _ => False) : SB Try.prog 110 args F k nk Q :=
  SB.of_body Try.func110 b c r ca hargs hF hN h
end tree_Tree_Why_5
/-! ### tranter.tranterref16.why -/
namespace ref16_why
abbrev f : Nat := 111
def s : SCo := (.seq
(.reg [⟨(some 4), .box 39 (.t 1), none⟩,
⟨(some 6), .alloc 41 [(.d (.int .u8 0)), (.d (.int .u32 0)), (.d (.int .u8 0)), (.d (.int .u32 0)), (.d (.int .u8 0)), (.d (.int .u32 0)), (.d (.int .u32 0)), (.d (.int .u8 0)), (.d (.int .u8 0)), (.d (.int .u64 0)), (.d (.int .i64 0))], none⟩,
⟨(some 7), .mv (.k (.d (.int .i64 0))), none⟩] (fullB 3) false)
(.seq
(.seq
(.reg [⟨(some 12), .fld 14 (.t 4), none⟩,
⟨(some 13), .load none (.t 12), none⟩,
⟨(some 14), .bin .neq (.t 13) (.k (.d (.int .u8 1))), none⟩] (fullB 3) false)
(.cond (.t 14)
 (.seq
 (.reg [⟨(some 15), .bld [(.d (.int .u8 0)), (.d (.int .u32 0)), (.d (.int .u8 0)), (.d (.int .u32 0)), (.d (.int .u8 0)), (.d (.int .u32 0)), (.d (.int .u32 0)), (.d (.int .u8 0)), (.d (.int .u8 0)), (.d (.int .u64 0)), (.d (.int .i64 0))] [], none⟩,
⟨none, .store 11 (.t 6) (.t 15), none⟩,
⟨(some 7), .mv (.k (.d (.int .i64 2))), none⟩] (fullB 3) false)
 .ret)
 .skip))
(.seq
(.reg [⟨(some 17), .mv (.t 0), none⟩,
⟨(some 18), .fld 15 (.t 4), none⟩,
⟨(some 19), .load (some 2) (.t 18), none⟩,
⟨(some 20), .mv (.t 2), none⟩,
⟨(some 21), .bin .sub (.t 20) (.k (.d (.int .i64 1))), none⟩,
⟨(some 22), .call (.k (.fn (.func 98) [] [])) [(.t 17), (.t 19), (.t 21)], none⟩,
⟨(some 16), .mv (.t 22), none⟩,
⟨(some 23), .ext 0 (.t 16), none⟩,
⟨(some 24), .ext 1 (.t 16), none⟩,
⟨(some 8), .alloc 41 [(.d (.int .u8 0)), (.d (.int .u32 0)), (.d (.int .u8 0)), (.d (.int .u32 0)), (.d (.int .u8 0)), (.d (.int .u32 0)), (.d (.int .u32 0)), (.d (.int .u8 0)), (.d (.int .u8 0)), (.d (.int .u64 0)), (.d (.int .i64 0))], none⟩,
⟨none, .store 11 (.t 8) (.t 23), none⟩,
⟨(some 9), .mv (.t 24), none⟩] (fullB 12) false)
(.seq
 (.reg [⟨(some 26), .mv (.t 0), none⟩,
⟨(some 27), .fld 15 (.t 4), none⟩,
⟨(some 28), .load (some 2) (.t 27), none⟩,
⟨(some 29), .call (.k (.fn (.func 25) [] [])) [(.t 26), (.t 28)], none⟩,
⟨(some 25), .mv (.t 29), none⟩,
⟨(some 30), .ext 0 (.t 25), none⟩,
⟨(some 31), .ext 1 (.t 25), none⟩,
⟨(some 10), .alloc 39 [(.d (.int .u8 0)), (.d (.int .u32 0)), (.d (.int .u32 0)), (.d (.int .u32 0)), (.d (.int .u32 0)), (.d (.int .u32 0)), (.d (.int .u32 0)), (.d (.int .u32 0)), (.d (.int .u32 0)), (.d (.int .u32 0)), (.d (.int .u64 0)), (.d (.int .u32 0)), (.d (.int .u8 0)), (.d (.int .u32 0)), (.d (.int .u8 0)), (.d (.int .u8 0)), (.d (.int .u32 0)), (.d (.int .u32 0)), (.d (.int .u8 0)), (.d (.int .u8 0)), (.d (.int .u64 0)), (.d (.int .u8 0)), (.d (.int .u32 0)), (.d (.int .u8 0)), (.d (.int .u32 0)), (.d (.int .u32 0)), (.d (.int .u32 0)), (.d (.int .u32 0)), (.d .nils)], none⟩,
⟨none, .store 29 (.t 10) (.t 30), none⟩,
⟨(some 11), .mv (.t 31), none⟩] (fullB 10) false)
 (.seq
 (.seq
 (.reg [⟨(some 32), .mv (.t 9), none⟩,
⟨(some 33), .not (.t 32), none⟩,
⟨(some 34), .mv (.t 33), none⟩,
⟨(some 35), .fld 2 (.t 8), some (34, false)⟩,
⟨(some 36), .load (some 2) (.t 35), some (34, false)⟩,
⟨(some 37), .fld 12 (.t 4), some (34, false)⟩,
⟨(some 38), .load (some 2) (.t 37), some (34, false)⟩,
⟨(some 39), .eqv true [true, true] (.t 36) (.t 38), some (34, false)⟩,
⟨(some 40), .pick (.t 34) (.k (.d (.bool true))) (.t 39), none⟩,
⟨(some 41), .mv (.t 40), none⟩,
⟨(some 42), .load (some 29) (.t 10), some (41, false)⟩,
⟨(some 43), .load (some 29) (.t 4), some (41, false)⟩,
⟨(some 44), .call (.k (.fn (.func 26) [] [])) [(.t 42), (.t 43)], some (41, false)⟩,
⟨(some 45), .not (.t 44), some (41, false)⟩,
⟨(some 46), .pick (.t 41) (.k (.d (.bool true))) (.t 45), none⟩] (fullB 15) false)
 (.cond (.t 46)
 (.seq
  (.reg [⟨(some 47), .load (some 11) (.t 8), none⟩,
⟨none, .store 11 (.t 6) (.t 47), none⟩,
⟨(some 7), .mv (.k (.d (.int .i64 272))), none⟩] (fullB 3) false)
  .ret)
 .skip))
 (.seq
 (.seq
 (.reg [⟨(some 48), .fld 6 (.t 8), none⟩,
⟨(some 49), .load none (.t 48), none⟩,
⟨(some 50), .fld 11 (.t 4), none⟩,
⟨(some 51), .load none (.t 50), none⟩,
⟨(some 52), .bin .neq (.t 49) (.t 51), none⟩] (fullB 5) false)
 (.cond (.t 52)
  (.seq
  (.reg [⟨(some 53), .load (some 11) (.t 8), none⟩,
⟨none, .store 11 (.t 6) (.t 53), none⟩,
⟨(some 7), .mv (.k (.d (.int .i64 273))), none⟩] (fullB 3) false)
  .ret)
  .skip))
 (.seq
 (.seq
  (.reg [⟨(some 54), .fld 7 (.t 8), none⟩,
⟨(some 55), .load none (.t 54), none⟩,
⟨(some 56), .call (.k (.fn (.func 161) [] [])) [(.t 55), (.k (.d (.int .u8 1)))], none⟩,
⟨(some 57), .not (.t 56), none⟩] (fullB 4) false)
  (.cond (.t 57)
  (.seq
  (.reg [⟨(some 58), .load (some 11) (.t 8), none⟩,
⟨none, .store 11 (.t 6) (.t 58), none⟩,
⟨(some 7), .mv (.k (.d (.int .i64 274))), none⟩] (fullB 3) false)
  .ret)
  .skip))
 (.seq
  (.seq
  (.reg (⟨(some 59), .fld 18 (.t 4), none⟩ ::
⟨(some 60), .load none (.t 59), none⟩ ::
⟨(some 61), .fld 7 (.t 8), none⟩ ::
⟨(some 62), .load none (.t 61), none⟩ ::
⟨(some 63), .call (.k (.fn (.func 162) [] [])) [(.t 60), (.t 62)], none⟩ ::
⟨(some 64), .not (.t 63), none⟩ ::
⟨(some 65), .mv (.t 64), none⟩ ::
⟨(some 66), .fld 17 (.t 4), some (65, false)⟩ ::
⟨(some 67), .load none (.t 66), some (65, false)⟩ ::
⟨(some 68), .bin .eql (.t 67) (.k (.d (.int .u32 0))), some (65, false)⟩ ::
⟨(some 69), .pick (.t 65) (.k (.d (.bool true))) (.t 68), none⟩ ::
⟨(some 70), .mv (.t 69), none⟩ ::
⟨(some 71), .fld 19 (.t 4), some (70, false)⟩ ::
⟨(some 72), .load none (.t 71), some (70, false)⟩ ::
⟨(some 73), .fld 8 (.t 8), some (70, false)⟩ ::
⟨(some 74), .load none (.t 73), some (70, false)⟩ ::
⟨(some 75), .bin .geq (.t 72) (.t 74), some (70, false)⟩ ::
⟨(some 76), .pick (.t 70) (.k (.d (.bool true))) (.t 75), none⟩ ::
⟨(some 77), .mv (.t 76), none⟩ ::
⟨(some 78), .fld 20 (.t 4), some (77, false)⟩ ::
⟨(some 79), .load none (.t 78), some (77, false)⟩ ::
⟨(some 80), .fld 9 (.t 8), some (77, false)⟩ ::
⟨(some 81), .load none (.t 80), some (77, false)⟩ ::
⟨(some 82), .bin .gtr (.t 79) (.t 81), some (77, false)⟩ ::
⟨(some 83), .pick (.t 77) (.k (.d (.bool true))) (.t 82), none⟩ :: []) (fullB 25) false)
  (.cond (.t 83)
  (.seq
  (.reg [⟨(some 84), .load (some 11) (.t 8), none⟩,
⟨none, .store 11 (.t 6) (.t 84), none⟩,
⟨(some 7), .mv (.k (.d (.int .i64 275))), none⟩] (fullB 3) false)
  .ret)
  .skip))
  (.seq
  (.reg [⟨(some 85), .load (some 11) (.t 8), none⟩,
⟨none, .store 11 (.t 6) (.t 85), none⟩,
⟨(some 7), .mv (.k (.d (.int .i64 0))), none⟩] (fullB 3) false)
  .ret)))))))))
def rv : List RV := [.cell 6 (some 11), .tmp 7]
/-! live ref16_why: [0, 1, 2, 4, 6, 7, 8, 9, 10, 14, 46, 52, 57, 83] -/
theorem c : cK Try.prog Try.f111.ntmps (Try.f111.body.getD .ret) = some s := by kernel_rfl
theorem b : Try.f111.body = some (Try.f111.body.getD .ret) := by kernel_rfl
theorem r : cRV Try.prog Try.f111.results.toList = some rv := by kernel_rfl
theorem ca : Callable Try.prog 111 = true := by kernel_rfl
theorem enter {args : List SV} {F : Hp} {k nk : Nat} {Q : SV → Hp → Prop} (hargs : SV.oks (fun n => decide (n < k)) args = true) (hF : F.ok (fun n => decide (n < k)) = true) (hN : args.length ≤ 86)
    (h : SW Try.prog 86 k s ⟨argE 0 args, F, k⟩ fun e st' => match e with | .normal => Fin k nk rv Q st' | .ret => Fin k nk rv Q st' | _ => False) : SB Try.prog 111 args F k nk Q :=
  SB.of_body Try.func111 b c r ca hargs hF hN h
end ref16_why
/-! ### slices.IndexFunc[[]tranter.api.Op,tranter.api.Op] -/
namespace slices_IndexFunc_Lapi_Op_api_Op
abbrev f : Nat := 138
def s : SCo := (.seq
(.reg [⟨(some 4), .mv (.k (.d (.int .i64 0))), none⟩] (fullB 1) false)
(.seq
(.seq
(.reg [⟨(some 6), .mv (.t 0), none⟩,
⟨(some 7), .len (.t 6), none⟩,
⟨(some 8), .mv (.k (.d (.int .i64 0))), none⟩] (fullB 3) false)
(.block 0
 (.loop
 (.seq
 (.reg [⟨(some 9), .bin .lss (.t 8) (.t 7), none⟩] (fullB 1) false)
 (.seq
 (.cond (.t 9)
  .skip
  (.exit 0))
 (.seq
  (.block 1
  (.seq
  (.reg [⟨(some 10), .mv (.t 8), none⟩,
⟨(some 5), .mv (.t 10), none⟩] (fullB 2) false)
  (.seq
  (.reg [⟨(some 11), .mv (.t 1), none⟩,
⟨(some 12), .mv (.t 0), none⟩,
⟨(some 13), .mv (.t 5), none⟩,
⟨(some 14), .idxS 29 (.t 12) (.t 13), none⟩,
⟨(some 15), .load (some 29) (.t 14), none⟩,
⟨(some 16), .call (.t 11) [(.t 15)], none⟩] (fullB 6) false)
  (.cond (.t 16)
   (.seq
   (.reg [⟨(some 17), .mv (.t 5), none⟩,
⟨(some 4), .mv (.t 17), none⟩] (fullB 2) false)
   .ret)
   .skip))))
  (.reg [⟨(some 18), .bin .add (.t 8) (.k (.d (.int .i64 1))), none⟩,
⟨(some 8), .mv (.t 18), none⟩] (fullB 2) false)))))))
(.seq
(.reg [⟨(some 4), .mv (.k (.d (.int .i64 (-1)))), none⟩] (fullB 1) false)
.ret)))
def rv : List RV := [.tmp 4]
/-! live slices_IndexFunc_Lapi_Op_api_Op: [0, 1, 4, 5, 7, 8, 9, 16] -/
theorem c : cK Try.prog Try.f138.ntmps (Try.f138.body.getD .ret) = some s := by kernel_rfl
theorem b : Try.f138.body = some (Try.f138.body.getD .ret) := by kernel_rfl
theorem r : cRV Try.prog Try.f138.results.toList = some rv := by kernel_rfl
theorem ca : Callable Try.prog 138 = true := by kernel_rfl
theorem enter {args : List SV} {F : Hp} {k nk : Nat} {Q : SV → Hp → Prop} (hargs : SV.oks (fun n => decide (n < k)) args = true) (hF : F.ok (fun n => decide (n < k)) = true) (hN : args.length ≤ 19)
    (h : SW Try.prog 19 k s ⟨argE 0 args, F, k⟩ fun e st' => match e with | .normal => Fin k nk rv Q st' | .ret => Fin k nk rv Q st' | _ => False) : SB Try.prog 138 args F k nk Q :=
  SB.of_body Try.func138 b c r ca hargs hF hN h
end slices_IndexFunc_Lapi_Op_api_Op
/-! ### (tranter.tree.Tree).up$1 -/
namespace tree_Tree_up_1
abbrev f : Nat := 139
def s : SCo := (.seq
(.reg [⟨(some 7), .load none (.t 1), none⟩,
⟨(some 8), .nilc (.t 7), none⟩,
⟨(some 9), .fld 0 (.t 8), none⟩,
⟨(some 10), .load none (.t 9), none⟩,
⟨(some 11), .load (some 2) (.t 2), none⟩,
⟨(some 12), .look [true, true] true (.agg [(.d (.int .u8 0)), (.d (.int .u32 0)), (.d (.int .u8 0)), (.d (.int .u32 0)), (.d (.int .u8 0)), (.d (.int .u32 0)), (.d (.int .u32 0)), (.d (.int .u8 0)), (.d (.int .u8 0)), (.d (.int .u64 0)), (.d (.int .i64 0))]) (.t 10) (.t 11) true, none⟩,
⟨(some 6), .mv (.t 12), none⟩,
⟨(some 13), .ext 0 (.t 6), none⟩,
⟨(some 14), .ext 1 (.t 6), none⟩,
⟨(some 4), .alloc 41 [(.d (.int .u8 0)), (.d (.int .u32 0)), (.d (.int .u8 0)), (.d (.int .u32 0)), (.d (.int .u8 0)), (.d (.int .u32 0)), (.d (.int .u32 0)), (.d (.int .u8 0)), (.d (.int .u8 0)), (.d (.int .u64 0)), (.d (.int .i64 0))], none⟩,
⟨none, .store 11 (.t 4) (.t 13), none⟩,
⟨(some 5), .mv (.t 14), none⟩] [0,
1,
3,
7,
0,
31,
63,
127,
127,
0,
767,
2047] true)
(.block 0
(.loop
(.seq
 (.seq
 (.reg [⟨(some 15), .mv (.t 5), none⟩,
⟨(some 16), .mv (.t 15), none⟩,
⟨(some 17), .mv (.t 0), some (16, true)⟩,
⟨(some 18), .load (some 11) (.t 4), some (16, true)⟩,
⟨(some 19), .call (.t 17) [(.t 18)], some (16, true)⟩,
⟨(some 20), .pick (.t 16) (.t 19) (.k (.d (.bool false))), none⟩,
⟨(some 21), .mv (.t 20), none⟩,
⟨(some 22), .fld 10 (.t 4), some (21, true)⟩,
⟨(some 23), .load none (.t 22), some (21, true)⟩,
⟨(some 24), .bin .gtr (.t 23) (.k (.d (.int .i64 0))), some (21, true)⟩,
⟨(some 25), .pick (.t 21) (.t 24) (.k (.d (.bool false))), none⟩] (fullB 11) false)
 (.cond (.t 25)
 .skip
 (.exit 0)))
 (.seq
 (.block 1
 (.reg [⟨(some 27), .load none (.t 1), none⟩,
⟨(some 28), .nilc (.t 27), none⟩,
⟨(some 29), .fld 0 (.t 28), none⟩,
⟨(some 30), .load none (.t 29), none⟩,
⟨(some 31), .fld 4 (.t 4), none⟩,
⟨(some 32), .load (some 2) (.t 31), none⟩,
⟨(some 33), .look [true, true] true (.agg [(.d (.int .u8 0)), (.d (.int .u32 0)), (.d (.int .u8 0)), (.d (.int .u32 0)), (.d (.int .u8 0)), (.d (.int .u32 0)), (.d (.int .u32 0)), (.d (.int .u8 0)), (.d (.int .u8 0)), (.d (.int .u64 0)), (.d (.int .i64 0))]) (.t 30) (.t 32) true, none⟩,
⟨(some 26), .mv (.t 33), none⟩,
⟨(some 34), .ext 0 (.t 26), none⟩,
⟨(some 35), .ext 1 (.t 26), none⟩,
⟨none, .store 11 (.t 4) (.t 34), none⟩,
⟨(some 5), .mv (.t 35), none⟩] [0,
1,
3,
7,
0,
16,
63,
127,
255,
255,
511,
2047] true))
 (.seq
 (.reg [⟨(some 36), .load (some 11) (.t 4), none⟩] (fullB 1) false)
 (.reg [⟨(some 4), .alloc 41 [(.d (.int .u8 0)), (.d (.int .u32 0)), (.d (.int .u8 0)), (.d (.int .u32 0)), (.d (.int .u8 0)), (.d (.int .u32 0)), (.d (.int .u32 0)), (.d (.int .u8 0)), (.d (.int .u8 0)), (.d (.int .u64 0)), (.d (.int .i64 0))], none⟩,
⟨none, .store 11 (.t 4) (.t 36), none⟩] (fullB 2) false)))))))
def rv : List RV := []
/-! live tree_Tree_up_1: [0, 1, 2, 4, 5, 25, 36] -/
theorem c : cK Try.prog Try.f139.ntmps (Try.f139.body.getD .ret) = some s := by kernel_rfl
theorem b : Try.f139.body = some (Try.f139.body.getD .ret) := by kernel_rfl
theorem r : cRV Try.prog Try.f139.results.toList = some rv := by kernel_rfl
theorem ca : Callable Try.prog 139 = true := by kernel_rfl
theorem enter {args : List SV} {F : Hp} {k nk : Nat} {Q : SV → Hp → Prop} (hargs : SV.oks (fun n => decide (n < k)) args = true) (hF : F.ok (fun n => decide (n < k)) = true) (hN : args.length ≤ 37)
    (h : SW Try.prog 37 k s ⟨argE 0 args, F, k⟩ fun e st' => match e with | .normal => Fin k nk rv Q st' | .ret => Fin k nk rv Q st' | _ => False) : SB Try.prog 139 args F k nk Q :=
  SB.of_body Try.func139 b c r ca hargs hF hN h
end tree_Tree_up_1
/-! ### tranter.tranterref03.May -/
namespace ref03_May
abbrev f : Nat := 140
def s : SCo := (.seq
(.reg [⟨(some 1), .box 33 (.t 0), none⟩,
⟨(some 2), .mv (.k (.d (.bool false))), none⟩] (fullB 2) false)
(.seq
(.reg [⟨(some 3), .fld 0 (.t 1), none⟩,
⟨(some 4), .load none (.t 3), none⟩,
⟨(some 5), .bin .leq (.t 4) (.k (.d (.int .u8 7))), none⟩,
⟨(some 6), .mv (.t 5), none⟩,
⟨(some 7), .fld 1 (.t 1), some (6, true)⟩,
⟨(some 8), .load none (.t 7), some (6, true)⟩,
⟨(some 9), .bin .geq (.t 8) (.k (.d (.int .u32 1))), some (6, true)⟩,
⟨(some 10), .pick (.t 6) (.t 9) (.k (.d (.bool false))), none⟩,
⟨(some 2), .mv (.t 10), none⟩] (fullB 9) false)
.ret))
def rv : List RV := [.tmp 2]
/-! live ref03_May: [0, 1, 2] -/
theorem c : cK Try.prog Try.f140.ntmps (Try.f140.body.getD .ret) = some s := by kernel_rfl
theorem b : Try.f140.body = some (Try.f140.body.getD .ret) := by kernel_rfl
theorem r : cRV Try.prog Try.f140.results.toList = some rv := by kernel_rfl
theorem ca : Callable Try.prog 140 = true := by kernel_rfl
theorem enter {args : List SV} {F : Hp} {k nk : Nat} {Q : SV → Hp → Prop} (hargs : SV.oks (fun n => decide (n < k)) args = true) (hF : F.ok (fun n => decide (n < k)) = true) (hN : args.length ≤ 11)
    (h : SW Try.prog 11 k s ⟨argE 0 args, F, k⟩ fun e st' => match e with | .normal => Fin k nk rv Q st' | .ret => Fin k nk rv Q st' | _ => False) : SB Try.prog 140 args F k nk Q :=
  SB.of_body Try.func140 b c r ca hargs hF hN h
end ref03_May
/-! ### tranter.tranterref03.Compare -/
namespace ref03_Compare
abbrev f : Nat := 148
def s : SCo := (.seq
(.reg [⟨(some 2), .box 33 (.t 0), none⟩,
⟨(some 3), .box 33 (.t 1), none⟩,
⟨(some 4), .mv (.k (.d (.int .i64 0))), none⟩] (fullB 3) false)
(.seq
(.reg (⟨(some 7), .fld 0 (.t 2), none⟩ ::
⟨(some 8), .load none (.t 7), none⟩ ::
⟨(some 9), .conv .i64 (.t 8), none⟩ ::
⟨(some 10), .bin .mul (.t 9) (.k (.d (.int .i64 8589934592))), none⟩ ::
⟨(some 11), .fld 1 (.t 2), none⟩ ::
⟨(some 12), .load none (.t 11), none⟩ ::
⟨(some 13), .conv .i64 (.t 12), none⟩ ::
⟨(some 14), .bin .add (.t 10) (.t 13), none⟩ ::
⟨(some 15), .fld 0 (.t 3), none⟩ ::
⟨(some 16), .load none (.t 15), none⟩ ::
⟨(some 17), .conv .i64 (.t 16), none⟩ ::
⟨(some 18), .bin .mul (.t 17) (.k (.d (.int .i64 8589934592))), none⟩ ::
⟨(some 19), .fld 1 (.t 3), none⟩ ::
⟨(some 20), .load none (.t 19), none⟩ ::
⟨(some 21), .conv .i64 (.t 20), none⟩ ::
⟨(some 22), .bin .add (.t 18) (.t 21), none⟩ ::
⟨(some 5), .mv (.t 14), none⟩ ::
⟨(some 6), .mv (.t 22), none⟩ :: []) (0 ::
1 ::
3 ::
7 ::
0 ::
16 ::
48 ::
127 ::
0 ::
256 ::
768 ::
1792 ::
0 ::
4096 ::
12288 ::
32512 ::
255 ::
131071 :: []) true)
(.seq
(.seq
 (.reg [⟨(some 23), .mv (.t 5), none⟩,
⟨(some 24), .mv (.t 6), none⟩,
⟨(some 25), .bin .lss (.t 23) (.t 24), none⟩] (fullB 3) false)
 (.cond (.t 25)
 (.seq
 (.reg [⟨(some 4), .mv (.k (.d (.int .i64 (-1)))), none⟩] (fullB 1) false)
 .ret)
 .skip))
(.seq
 (.seq
 (.reg [⟨(some 26), .mv (.t 5), none⟩,
⟨(some 27), .mv (.t 6), none⟩,
⟨(some 28), .bin .gtr (.t 26) (.t 27), none⟩] (fullB 3) false)
 (.cond (.t 28)
 (.seq
 (.reg [⟨(some 4), .mv (.k (.d (.int .i64 1))), none⟩] (fullB 1) false)
 .ret)
 .skip))
 (.seq
 (.reg [⟨(some 4), .mv (.k (.d (.int .i64 0))), none⟩] (fullB 1) false)
 .ret)))))
def rv : List RV := [.tmp 4]
/-! live ref03_Compare: [0, 1, 2, 3, 4, 5, 6, 25, 28] -/
theorem c : cK Try.prog Try.f148.ntmps (Try.f148.body.getD .ret) = some s := by kernel_rfl
theorem b : Try.f148.body = some (Try.f148.body.getD .ret) := by kernel_rfl
theorem r : cRV Try.prog Try.f148.results.toList = some rv := by kernel_rfl
theorem ca : Callable Try.prog 148 = true := by kernel_rfl
theorem enter {args : List SV} {F : Hp} {k nk : Nat} {Q : SV → Hp → Prop} (hargs : SV.oks (fun n => decide (n < k)) args = true) (hF : F.ok (fun n => decide (n < k)) = true) (hN : args.length ≤ 29)
    (h : SW Try.prog 29 k s ⟨argE 0 args, F, k⟩ fun e st' => match e with | .normal => Fin k nk rv Q st' | .ret => Fin k nk rv Q st' | _ => False) : SB Try.prog 148 args F k nk Q :=
  SB.of_body Try.func148 b c r ca hargs hF hN h
end ref03_Compare
/-! ### tranter.tranterref03.with -/
namespace ref03_with
abbrev f : Nat := 154
def s : SCo := (.seq
(.reg [⟨(some 3), .box 33 (.t 1), none⟩,
⟨(some 4), .mv (.k (.d .nils)), none⟩] (fullB 2) false)
(.seq
(.seq
(.reg [⟨(some 7), .mv (.t 0), none⟩,
⟨(some 8), .load (some 2) (.t 3), none⟩,
⟨(some 9), .call (.k (.fn (.func 44) [] [])) [(.t 7), (.t 8)], none⟩] (fullB 3) false)
(.cond (.t 9)
 (.seq
 (.reg [⟨(some 10), .mv (.t 0), none⟩,
⟨(some 4), .mv (.t 10), none⟩] (fullB 2) false)
 .ret)
 .skip))
(.seq
(.reg [⟨(some 5), .mv (.k (.d .nils)), none⟩] (fullB 1) false)
(.seq
 (.reg [⟨(some 6), .mv (.k (.d (.int .i64 0))), none⟩] (fullB 1) false)
 (.seq
 (.block 0
 (.loop
 (.seq
  (.seq
  (.reg [⟨(some 11), .mv (.t 6), none⟩,
⟨(some 12), .mv (.t 0), none⟩,
⟨(some 13), .len (.t 12), none⟩,
⟨(some 14), .bin .lss (.t 11) (.t 13), none⟩,
⟨(some 15), .mv (.t 14), none⟩,
⟨(some 16), .mv (.t 0), some (15, true)⟩,
⟨(some 17), .mv (.t 6), some (15, true)⟩,
⟨(some 18), .idxS 2 (.t 16) (.t 17), some (15, true)⟩,
⟨(some 19), .load (some 2) (.t 18), some (15, true)⟩,
⟨(some 20), .load (some 2) (.t 3), some (15, true)⟩,
⟨(some 21), .call (.k (.fn (.func 148) [] [])) [(.t 19), (.t 20)], some (15, true)⟩,
⟨(some 22), .bin .lss (.t 21) (.k (.d (.int .i64 0))), some (15, true)⟩,
⟨(some 23), .pick (.t 15) (.t 22) (.k (.d (.bool false))), none⟩] [0,
0,
2,
7,
15,
31,
31,
127,
255,
31,
1023,
2047,
4095] true)
  (.cond (.t 23)
  .skip
  (.exit 0)))
  (.block 1
  (.seq
  (.reg [⟨(some 24), .mv (.t 5), none⟩,
⟨(some 25), .mv (.t 0), none⟩,
⟨(some 26), .mv (.t 6), none⟩,
⟨(some 27), .idxS 2 (.t 25) (.t 26), none⟩,
⟨(some 28), .load (some 2) (.t 27), none⟩,
⟨(some 29), .bsl 33 2 1 [(.d (.int .u8 0)), (.d (.int .u32 0))] [(0, 2, (.t 28))], none⟩,
⟨(some 30), .app 33 2 8 (.t 24) (.t 29), none⟩,
⟨(some 5), .mv (.t 30), none⟩] (fullB 8) false)
  (.reg [⟨(some 31), .mv (.t 6), none⟩,
⟨(some 32), .bin .add (.t 31) (.k (.d (.int .i64 1))), none⟩,
⟨(some 6), .mv (.t 32), none⟩] (fullB 3) false))))))
 (.seq
 (.reg [⟨(some 33), .mv (.t 5), none⟩,
⟨(some 34), .load (some 2) (.t 3), none⟩,
⟨(some 35), .bsl 33 2 1 [(.d (.int .u8 0)), (.d (.int .u32 0))] [(0, 2, (.t 34))], none⟩,
⟨(some 36), .app 33 2 8 (.t 33) (.t 35), none⟩,
⟨(some 5), .mv (.t 36), none⟩] (fullB 5) false)
 (.seq
 (.reg [⟨(some 37), .mv (.t 5), none⟩,
⟨(some 38), .mv (.t 0), none⟩,
⟨(some 39), .mv (.t 6), none⟩,
⟨(some 40), .slc 2 (.t 38) (some (.t 39)) none, none⟩,
⟨(some 41), .app 33 2 8 (.t 37) (.t 40), none⟩,
⟨(some 4), .mv (.t 41), none⟩] (fullB 6) false)
 .ret)))))))
def rv : List RV := [.tmp 4]
/-! live ref03_with: [0, 1, 3, 4, 5, 6, 9, 23] -/
theorem c : cK Try.prog Try.f154.ntmps (Try.f154.body.getD .ret) = some s := by kernel_rfl
theorem b : Try.f154.body = some (Try.f154.body.getD .ret) := by kernel_rfl
theorem r : cRV Try.prog Try.f154.results.toList = some rv := by kernel_rfl
theorem ca : Callable Try.prog 154 = true := by kernel_rfl
theorem enter {args : List SV} {F : Hp} {k nk : Nat} {Q : SV → Hp → Prop} (hargs : SV.oks (fun n => decide (n < k)) args = true) (hF : F.ok (fun n => decide (n < k)) = true) (hN : args.length ≤ 42)
    (h : SW Try.prog 42 k s ⟨argE 0 args, F, k⟩ fun e st' => match e with | .normal => Fin k nk rv Q st' | .ret => Fin k nk rv Q st' | _ => False) : SB Try.prog 154 args F k nk Q :=
  SB.of_body Try.func154 b c r ca hargs hF hN h
end ref03_with
/-! ### cmp.isNaN[int] -/
namespace cmp_isNaN_int
abbrev f : Nat := 157
def s : SCo := (.seq
(.reg [⟨(some 2), .mv (.k (.d (.bool false))), none⟩] (fullB 1) false)
(.seq
(.reg [⟨(some 3), .mv (.t 0), none⟩,
⟨(some 4), .mv (.t 0), none⟩,
⟨(some 5), .bin .neq (.t 3) (.t 4), none⟩,
⟨(some 2), .mv (.t 5), none⟩] (fullB 4) false)
.ret))
def rv : List RV := [.tmp 2]
/-! live cmp_isNaN_int: [0, 2] -/
theorem c : cK Try.prog Try.f157.ntmps (Try.f157.body.getD .ret) = some s := by kernel_rfl
theorem b : Try.f157.body = some (Try.f157.body.getD .ret) := by kernel_rfl
theorem r : cRV Try.prog Try.f157.results.toList = some rv := by kernel_rfl
theorem ca : Callable Try.prog 157 = true := by kernel_rfl
theorem enter {args : List SV} {F : Hp} {k nk : Nat} {Q : SV → Hp → Prop} (hargs : SV.oks (fun n => decide (n < k)) args = true) (hF : F.ok (fun n => decide (n < k)) = true) (hN : args.length ≤ 6)
    (h : SW Try.prog 6 k s ⟨argE 0 args, F, k⟩ fun e st' => match e with | .normal => Fin k nk rv Q st' | .ret => Fin k nk rv Q st' | _ => False) : SB Try.prog 157 args F k nk Q :=
  SB.of_body Try.func157 b c r ca hargs hF hN h
end cmp_isNaN_int
/-! ### cmp.Compare[uint8] -/
namespace cmp_Compare_uint8
abbrev f : Nat := 158
def s : SCo := (.seq
(.reg [⟨(some 4), .mv (.k (.d (.int .i64 0))), none⟩] (fullB 1) false)
(.seq
(.reg [⟨(some 7), .mv (.t 0), none⟩,
⟨(some 8), .call (.k (.fn (.func 190) [] [])) [(.t 7)], none⟩,
⟨(some 5), .mv (.t 8), none⟩] (fullB 3) false)
(.seq
(.reg [⟨(some 9), .mv (.t 1), none⟩,
⟨(some 10), .call (.k (.fn (.func 190) [] [])) [(.t 9)], none⟩,
⟨(some 6), .mv (.t 10), none⟩] (fullB 3) false)
(.seq
 (.seq
 (.reg [⟨(some 11), .mv (.t 5), none⟩] (fullB 1) false)
 (.cond (.t 11)
 (.seq
 (.seq
  (.reg [⟨(some 12), .mv (.t 6), none⟩] (fullB 1) false)
  (.cond (.t 12)
  (.seq
  (.reg [⟨(some 4), .mv (.k (.d (.int .i64 0))), none⟩] (fullB 1) false)
  .ret)
  .skip))
 (.seq
  (.reg [⟨(some 4), .mv (.k (.d (.int .i64 (-1)))), none⟩] (fullB 1) false)
  .ret))
 .skip))
 (.seq
 (.seq
 (.reg [⟨(some 13), .mv (.t 6), none⟩] (fullB 1) false)
 (.cond (.t 13)
 (.seq
  (.reg [⟨(some 4), .mv (.k (.d (.int .i64 1))), none⟩] (fullB 1) false)
  .ret)
 .skip))
 (.seq
 (.seq
 (.reg [⟨(some 14), .mv (.t 0), none⟩,
⟨(some 15), .mv (.t 1), none⟩,
⟨(some 16), .bin .lss (.t 14) (.t 15), none⟩] (fullB 3) false)
 (.cond (.t 16)
  (.seq
  (.reg [⟨(some 4), .mv (.k (.d (.int .i64 (-1)))), none⟩] (fullB 1) false)
  .ret)
  .skip))
 (.seq
 (.seq
  (.reg [⟨(some 17), .mv (.t 0), none⟩,
⟨(some 18), .mv (.t 1), none⟩,
⟨(some 19), .bin .gtr (.t 17) (.t 18), none⟩] (fullB 3) false)
  (.cond (.t 19)
  (.seq
  (.reg [⟨(some 4), .mv (.k (.d (.int .i64 1))), none⟩] (fullB 1) false)
  .ret)
  .skip))
 (.seq
  (.reg [⟨(some 4), .mv (.k (.d (.int .i64 0))), none⟩] (fullB 1) false)
  .ret))))))))
def rv : List RV := [.tmp 4]
/-! live cmp_Compare_uint8: [0, 1, 4, 5, 6, 11, 12, 13, 16, 19] -/
theorem c : cK Try.prog Try.f158.ntmps (Try.f158.body.getD .ret) = some s := by kernel_rfl
theorem b : Try.f158.body = some (Try.f158.body.getD .ret) := by kernel_rfl
theorem r : cRV Try.prog Try.f158.results.toList = some rv := by kernel_rfl
theorem ca : Callable Try.prog 158 = true := by kernel_rfl
theorem enter {args : List SV} {F : Hp} {k nk : Nat} {Q : SV → Hp → Prop} (hargs : SV.oks (fun n => decide (n < k)) args = true) (hF : F.ok (fun n => decide (n < k)) = true) (hN : args.length ≤ 20)
    (h : SW Try.prog 20 k s ⟨argE 0 args, F, k⟩ fun e st' => match e with | .normal => Fin k nk rv Q st' | .ret => Fin k nk rv Q st' | _ => False) : SB Try.prog 158 args F k nk Q :=
  SB.of_body Try.func158 b c r ca hargs hF hN h
end cmp_Compare_uint8
/-! ### cmp.Compare[uint32] -/
namespace cmp_Compare_uint32
abbrev f : Nat := 159
def s : SCo := (.seq
(.reg [⟨(some 4), .mv (.k (.d (.int .i64 0))), none⟩] (fullB 1) false)
(.seq
(.reg [⟨(some 7), .mv (.t 0), none⟩,
⟨(some 8), .call (.k (.fn (.func 191) [] [])) [(.t 7)], none⟩,
⟨(some 5), .mv (.t 8), none⟩] (fullB 3) false)
(.seq
(.reg [⟨(some 9), .mv (.t 1), none⟩,
⟨(some 10), .call (.k (.fn (.func 191) [] [])) [(.t 9)], none⟩,
⟨(some 6), .mv (.t 10), none⟩] (fullB 3) false)
(.seq
 (.seq
 (.reg [⟨(some 11), .mv (.t 5), none⟩] (fullB 1) false)
 (.cond (.t 11)
 (.seq
 (.seq
  (.reg [⟨(some 12), .mv (.t 6), none⟩] (fullB 1) false)
  (.cond (.t 12)
  (.seq
  (.reg [⟨(some 4), .mv (.k (.d (.int .i64 0))), none⟩] (fullB 1) false)
  .ret)
  .skip))
 (.seq
  (.reg [⟨(some 4), .mv (.k (.d (.int .i64 (-1)))), none⟩] (fullB 1) false)
  .ret))
 .skip))
 (.seq
 (.seq
 (.reg [⟨(some 13), .mv (.t 6), none⟩] (fullB 1) false)
 (.cond (.t 13)
 (.seq
  (.reg [⟨(some 4), .mv (.k (.d (.int .i64 1))), none⟩] (fullB 1) false)
  .ret)
 .skip))
 (.seq
 (.seq
 (.reg [⟨(some 14), .mv (.t 0), none⟩,
⟨(some 15), .mv (.t 1), none⟩,
⟨(some 16), .bin .lss (.t 14) (.t 15), none⟩] (fullB 3) false)
 (.cond (.t 16)
  (.seq
  (.reg [⟨(some 4), .mv (.k (.d (.int .i64 (-1)))), none⟩] (fullB 1) false)
  .ret)
  .skip))
 (.seq
 (.seq
  (.reg [⟨(some 17), .mv (.t 0), none⟩,
⟨(some 18), .mv (.t 1), none⟩,
⟨(some 19), .bin .gtr (.t 17) (.t 18), none⟩] (fullB 3) false)
  (.cond (.t 19)
  (.seq
  (.reg [⟨(some 4), .mv (.k (.d (.int .i64 1))), none⟩] (fullB 1) false)
  .ret)
  .skip))
 (.seq
  (.reg [⟨(some 4), .mv (.k (.d (.int .i64 0))), none⟩] (fullB 1) false)
  .ret))))))))
def rv : List RV := [.tmp 4]
/-! live cmp_Compare_uint32: [0, 1, 4, 5, 6, 11, 12, 13, 16, 19] -/
theorem c : cK Try.prog Try.f159.ntmps (Try.f159.body.getD .ret) = some s := by kernel_rfl
theorem b : Try.f159.body = some (Try.f159.body.getD .ret) := by kernel_rfl
theorem r : cRV Try.prog Try.f159.results.toList = some rv := by kernel_rfl
theorem ca : Callable Try.prog 159 = true := by kernel_rfl
theorem enter {args : List SV} {F : Hp} {k nk : Nat} {Q : SV → Hp → Prop} (hargs : SV.oks (fun n => decide (n < k)) args = true) (hF : F.ok (fun n => decide (n < k)) = true) (hN : args.length ≤ 20)
    (h : SW Try.prog 20 k s ⟨argE 0 args, F, k⟩ fun e st' => match e with | .normal => Fin k nk rv Q st' | .ret => Fin k nk rv Q st' | _ => False) : SB Try.prog 159 args F k nk Q :=
  SB.of_body Try.func159 b c r ca hargs hF hN h
end cmp_Compare_uint32
/-! ### tranter.vector.Covers -/
namespace vector_Covers
abbrev f : Nat := 160
def s : SCo := (.seq
(.reg [⟨(some 2), .box 35 (.t 0), none⟩,
⟨(some 3), .box 33 (.t 1), none⟩,
⟨(some 4), .mv (.k (.d (.bool false))), none⟩] (fullB 3) false)
(.seq
(.reg [⟨(some 5), .load (some 2) (.t 3), none⟩,
⟨(some 6), .call (.k (.fn (.func 192) [] [])) [(.t 5)], none⟩,
⟨(some 7), .mv (.t 6), none⟩,
⟨(some 8), .fld 0 (.t 3), some (7, true)⟩,
⟨(some 9), .load none (.t 8), some (7, true)⟩,
⟨(some 10), .idxA 8 1 (.t 2) (.t 9), some (7, true)⟩,
⟨(some 11), .load none (.t 10), some (7, true)⟩,
⟨(some 12), .fld 1 (.t 3), some (7, true)⟩,
⟨(some 13), .load none (.t 12), some (7, true)⟩,
⟨(some 14), .bin .geq (.t 11) (.t 13), some (7, true)⟩,
⟨(some 15), .pick (.t 7) (.t 14) (.k (.d (.bool false))), none⟩,
⟨(some 4), .mv (.t 15), none⟩] [0,
1,
3,
7,
15,
31,
63,
7,
135,
511,
1023,
2047] true)
.ret))
def rv : List RV := [.tmp 4]
/-! live vector_Covers: [0, 1, 2, 3, 4] -/
theorem c : cK Try.prog Try.f160.ntmps (Try.f160.body.getD .ret) = some s := by kernel_rfl
theorem b : Try.f160.body = some (Try.f160.body.getD .ret) := by kernel_rfl
theorem r : cRV Try.prog Try.f160.results.toList = some rv := by kernel_rfl
theorem ca : Callable Try.prog 160 = true := by kernel_rfl
theorem enter {args : List SV} {F : Hp} {k nk : Nat} {Q : SV → Hp → Prop} (hargs : SV.oks (fun n => decide (n < k)) args = true) (hF : F.ok (fun n => decide (n < k)) = true) (hN : args.length ≤ 16)
    (h : SW Try.prog 16 k s ⟨argE 0 args, F, k⟩ fun e st' => match e with | .normal => Fin k nk rv Q st' | .ret => Fin k nk rv Q st' | _ => False) : SB Try.prog 160 args F k nk Q :=
  SB.of_body Try.func160 b c r ca hargs hF hN h
end vector_Covers
/-! ### tranter.tranterref16.has -/
namespace ref16_has
abbrev f : Nat := 161
def s : SCo := (.seq
(.reg [⟨(some 4), .mv (.k (.d (.bool false))), none⟩] (fullB 1) false)
(.seq
(.reg [⟨(some 5), .mv (.t 0), none⟩,
⟨(some 6), .mv (.t 1), none⟩,
⟨(some 7), .bin .quo (.t 5) (.t 6), none⟩,
⟨(some 8), .bin .rem (.t 7) (.k (.d (.int .u8 2))), none⟩,
⟨(some 9), .bin .eql (.t 8) (.k (.d (.int .u8 1))), none⟩,
⟨(some 4), .mv (.t 9), none⟩] (fullB 6) false)
.ret))
def rv : List RV := [.tmp 4]
/-! live ref16_has: [0, 1, 4] -/
theorem c : cK Try.prog Try.f161.ntmps (Try.f161.body.getD .ret) = some s := by kernel_rfl
theorem b : Try.f161.body = some (Try.f161.body.getD .ret) := by kernel_rfl
theorem r : cRV Try.prog Try.f161.results.toList = some rv := by kernel_rfl
theorem ca : Callable Try.prog 161 = true := by kernel_rfl
theorem enter {args : List SV} {F : Hp} {k nk : Nat} {Q : SV → Hp → Prop} (hargs : SV.oks (fun n => decide (n < k)) args = true) (hF : F.ok (fun n => decide (n < k)) = true) (hN : args.length ≤ 10)
    (h : SW Try.prog 10 k s ⟨argE 0 args, F, k⟩ fun e st' => match e with | .normal => Fin k nk rv Q st' | .ret => Fin k nk rv Q st' | _ => False) : SB Try.prog 161 args F k nk Q :=
  SB.of_body Try.func161 b c r ca hargs hF hN h
end ref16_has
/-! ### tranter.tranterref16.within -/
namespace ref16_within
abbrev f : Nat := 162
def s : SCo := (.seq
(.reg [⟨(some 4), .mv (.k (.d (.bool false))), none⟩] (fullB 1) false)
(.seq
(.seq
(.reg [⟨(some 6), .mv (.t 0), none⟩,
⟨(some 7), .bin .eql (.t 6) (.k (.d (.int .u8 0))), none⟩] (fullB 2) false)
(.cond (.t 7)
 (.seq
 (.reg [⟨(some 4), .mv (.k (.d (.bool false))), none⟩] (fullB 1) false)
 .ret)
 .skip))
(.seq
(.seq
 (.reg [⟨(some 5), .mv (.k (.d (.int .i64 1))), none⟩] (fullB 1) false)
 (.block 0
 (.loop
 (.seq
 (.seq
  (.reg [⟨(some 8), .mv (.t 5), none⟩,
⟨(some 9), .bin .lss (.t 8) (.k (.d (.int .i64 256))), none⟩] (fullB 2) false)
  (.cond (.t 9)
  .skip
  (.exit 0)))
 (.seq
  (.block 1
  (.seq
  (.reg [⟨(some 12), .mv (.t 0), none⟩,
⟨(some 13), .mv (.t 5), none⟩,
⟨(some 14), .conv .u8 (.t 13), none⟩,
⟨(some 15), .call (.k (.fn (.func 161) [] [])) [(.t 12), (.t 14)], none⟩,
⟨(some 16), .mv (.t 15), none⟩,
⟨(some 17), .mv (.t 1), some (16, true)⟩,
⟨(some 18), .mv (.t 5), some (16, true)⟩,
⟨(some 19), .conv .u8 (.t 18), some (16, true)⟩,
⟨(some 20), .call (.k (.fn (.func 161) [] [])) [(.t 17), (.t 19)], some (16, true)⟩,
⟨(some 21), .not (.t 20), some (16, true)⟩,
⟨(some 22), .pick (.t 16) (.t 21) (.k (.d (.bool false))), none⟩] (fullB 11) false)
  (.cond (.t 22)
  (.seq
   (.reg [⟨(some 4), .mv (.k (.d (.bool false))), none⟩] (fullB 1) false)
   .ret)
  .skip)))
  (.reg [⟨(some 10), .mv (.t 5), none⟩,
⟨(some 11), .bin .mul (.k (.d (.int .i64 2))) (.t 10), none⟩,
⟨(some 5), .mv (.t 11), none⟩] (fullB 3) false))))))
(.seq
 (.reg [⟨(some 4), .mv (.k (.d (.bool true))), none⟩] (fullB 1) false)
 .ret))))
def rv : List RV := [.tmp 4]
/-! live ref16_within: [0, 1, 4, 5, 7, 9, 22] -/
theorem c : cK Try.prog Try.f162.ntmps (Try.f162.body.getD .ret) = some s := by kernel_rfl
theorem b : Try.f162.body = some (Try.f162.body.getD .ret) := by kernel_rfl
theorem r : cRV Try.prog Try.f162.results.toList = some rv := by kernel_rfl
theorem ca : Callable Try.prog 162 = true := by kernel_rfl
theorem enter {args : List SV} {F : Hp} {k nk : Nat} {Q : SV → Hp → Prop} (hargs : SV.oks (fun n => decide (n < k)) args = true) (hF : F.ok (fun n => decide (n < k)) = true) (hN : args.length ≤ 23)
    (h : SW Try.prog 23 k s ⟨argE 0 args, F, k⟩ fun e st' => match e with | .normal => Fin k nk rv Q st' | .ret => Fin k nk rv Q st' | _ => False) : SB Try.prog 162 args F k nk Q :=
  SB.of_body Try.func162 b c r ca hargs hF hN h
end ref16_within
/-! ### cmp.isNaN[uint8] -/
namespace cmp_isNaN_uint8
abbrev f : Nat := 190
def s : SCo := (.seq
(.reg [⟨(some 2), .mv (.k (.d (.bool false))), none⟩] (fullB 1) false)
(.seq
(.reg [⟨(some 3), .mv (.t 0), none⟩,
⟨(some 4), .mv (.t 0), none⟩,
⟨(some 5), .bin .neq (.t 3) (.t 4), none⟩,
⟨(some 2), .mv (.t 5), none⟩] (fullB 4) false)
.ret))
def rv : List RV := [.tmp 2]
/-! live cmp_isNaN_uint8: [0, 2] -/
theorem c : cK Try.prog Try.f190.ntmps (Try.f190.body.getD .ret) = some s := by kernel_rfl
theorem b : Try.f190.body = some (Try.f190.body.getD .ret) := by kernel_rfl
theorem r : cRV Try.prog Try.f190.results.toList = some rv := by kernel_rfl
theorem ca : Callable Try.prog 190 = true := by kernel_rfl
theorem enter {args : List SV} {F : Hp} {k nk : Nat} {Q : SV → Hp → Prop} (hargs : SV.oks (fun n => decide (n < k)) args = true) (hF : F.ok (fun n => decide (n < k)) = true) (hN : args.length ≤ 6)
    (h : SW Try.prog 6 k s ⟨argE 0 args, F, k⟩ fun e st' => match e with | .normal => Fin k nk rv Q st' | .ret => Fin k nk rv Q st' | _ => False) : SB Try.prog 190 args F k nk Q :=
  SB.of_body Try.func190 b c r ca hargs hF hN h
end cmp_isNaN_uint8
/-! ### cmp.isNaN[uint32] -/
namespace cmp_isNaN_uint32
abbrev f : Nat := 191
def s : SCo := (.seq
(.reg [⟨(some 2), .mv (.k (.d (.bool false))), none⟩] (fullB 1) false)
(.seq
(.reg [⟨(some 3), .mv (.t 0), none⟩,
⟨(some 4), .mv (.t 0), none⟩,
⟨(some 5), .bin .neq (.t 3) (.t 4), none⟩,
⟨(some 2), .mv (.t 5), none⟩] (fullB 4) false)
.ret))
def rv : List RV := [.tmp 2]
/-! live cmp_isNaN_uint32: [0, 2] -/
theorem c : cK Try.prog Try.f191.ntmps (Try.f191.body.getD .ret) = some s := by kernel_rfl
theorem b : Try.f191.body = some (Try.f191.body.getD .ret) := by kernel_rfl
theorem r : cRV Try.prog Try.f191.results.toList = some rv := by kernel_rfl
theorem ca : Callable Try.prog 191 = true := by kernel_rfl
theorem enter {args : List SV} {F : Hp} {k nk : Nat} {Q : SV → Hp → Prop} (hargs : SV.oks (fun n => decide (n < k)) args = true) (hF : F.ok (fun n => decide (n < k)) = true) (hN : args.length ≤ 6)
    (h : SW Try.prog 6 k s ⟨argE 0 args, F, k⟩ fun e st' => match e with | .normal => Fin k nk rv Q st' | .ret => Fin k nk rv Q st' | _ => False) : SB Try.prog 191 args F k nk Q :=
  SB.of_body Try.func191 b c r ca hargs hF hN h
end cmp_isNaN_uint32
/-! ### tranter.dot.May -/
namespace dot_May
abbrev f : Nat := 192
def s : SCo := (.seq
(.reg [⟨(some 1), .box 33 (.t 0), none⟩,
⟨(some 2), .mv (.k (.d (.bool false))), none⟩] (fullB 2) false)
(.seq
(.reg [⟨(some 3), .fld 0 (.t 1), none⟩,
⟨(some 4), .load none (.t 3), none⟩,
⟨(some 5), .bin .lss (.t 4) (.k (.d (.int .u8 8))), none⟩,
⟨(some 6), .mv (.t 5), none⟩,
⟨(some 7), .fld 1 (.t 1), some (6, true)⟩,
⟨(some 8), .load none (.t 7), some (6, true)⟩,
⟨(some 9), .bin .gtr (.t 8) (.k (.d (.int .u32 0))), some (6, true)⟩,
⟨(some 10), .pick (.t 6) (.t 9) (.k (.d (.bool false))), none⟩,
⟨(some 2), .mv (.t 10), none⟩] (fullB 9) false)
.ret))
def rv : List RV := [.tmp 2]
/-! live dot_May: [0, 1, 2] -/
theorem c : cK Try.prog Try.f192.ntmps (Try.f192.body.getD .ret) = some s := by kernel_rfl
theorem b : Try.f192.body = some (Try.f192.body.getD .ret) := by kernel_rfl
theorem r : cRV Try.prog Try.f192.results.toList = some rv := by kernel_rfl
theorem ca : Callable Try.prog 192 = true := by kernel_rfl
theorem enter {args : List SV} {F : Hp} {k nk : Nat} {Q : SV → Hp → Prop} (hargs : SV.oks (fun n => decide (n < k)) args = true) (hF : F.ok (fun n => decide (n < k)) = true) (hN : args.length ≤ 11)
    (h : SW Try.prog 11 k s ⟨argE 0 args, F, k⟩ fun e st' => match e with | .normal => Fin k nk rv Q st' | .ret => Fin k nk rv Q st' | _ => False) : SB Try.prog 192 args F k nk Q :=
  SB.of_body Try.func192 b c r ca hargs hF hN h
end dot_May
end Go.Proofs.Ytmmonbnlleeloaa
